/- The document's Right, for pieces. -/
import Derived.Test.YtdfgnmdofjhnkaaPB
namespace Go.Proofs.Ytdfgnmdofjhnkaa
open Go.RowKit

set_option maxRecDepth 100000 in
set_option maxHeartbeats 4000000 in
theorem rright_head (v : Value) (p : Pc.Piece) (w : World) (h : PieceIs false w 0 w.heap.size v p) (hh : Pc.okHead p = false) : Calls Try.prog 22 #[v] w
    fun x w' => x = .returned (.bool (Pc.right p)) ∧ Below w.heap.size w w' := by
  obtain ⟨n, s, t, xs, ms, os⟩ := p
  obtain ⟨a, b, c, rfl, ⟨A1, c1, rfl, l1, m1, h1⟩, ⟨A2, c2, rfl, l2, m2, h2⟩, ⟨A3, c3, rfl, l3, m3, h3⟩⟩ := h
  dsimp only at l1 l2 l3 h1 h2 h3 ⊢
  have e : Pc.right ⟨n, s, t, xs, ms, os⟩ = false := by unfold Pc.right; rw [hh]; rfl
  rw [e]
  unfold Pc.okHead at hh
  have hh' := of_decide_eq_false hh
  dsimp only at hh'
  clear hh e h1 h2 h3
  unfold maxLen at m1 m2 m3
  by_cases q0 : n < 0
  · clear hh'
    go_enter Try.func22, Try.ntmps22
    go_wp2_with fail
    go_ret
    exact ⟨rfl, (Below.refl _ _).alloc (Nat.le_refl _) _⟩
  ·
    by_cases q1 : 5 < n
    · clear hh'
      go_enter Try.func22, Try.ntmps22
      go_wp2_with fail
      go_ret
      exact ⟨rfl, (Below.refl _ _).alloc (Nat.le_refl _) _⟩
    ·
      by_cases q2 : s < 0
      · clear hh'
        go_enter Try.func22, Try.ntmps22
        go_wp2_with fail
        go_ret
        exact ⟨rfl, (Below.refl _ _).alloc (Nat.le_refl _) _⟩
      ·
        by_cases q3 : 7 < s
        · clear hh'
          go_enter Try.func22, Try.ntmps22
          go_wp2_with fail
          go_ret
          exact ⟨rfl, (Below.refl _ _).alloc (Nat.le_refl _) _⟩
        ·
          by_cases q4 : t < 0
          · clear hh'
            go_enter Try.func22, Try.ntmps22
            go_wp2_with fail
            go_ret
            exact ⟨rfl, (Below.refl _ _).alloc (Nat.le_refl _) _⟩
          ·
            by_cases q5 : 2147483647 < t
            · clear hh'
              go_enter Try.func22, Try.ntmps22
              go_wp2_with fail
              go_ret
              exact ⟨rfl, (Below.refl _ _).alloc (Nat.le_refl _) _⟩
            ·
              by_cases q6 : 5 < xs.length
              · clear hh'
                go_enter Try.func22, Try.ntmps22
                go_wp2_with fail
                go_ret
                exact ⟨rfl, (Below.refl _ _).alloc (Nat.le_refl _) _⟩
              ·
                by_cases q7 : 5 < ms.length
                · clear hh'
                  go_enter Try.func22, Try.ntmps22
                  go_wp2_with fail
                  go_ret
                  exact ⟨rfl, (Below.refl _ _).alloc (Nat.le_refl _) _⟩
                ·
                  have q8 : 5 < os.length := by omega
                  clear hh'
                  go_enter Try.func22, Try.ntmps22
                  go_wp2_with fail
                  go_ret
                  exact ⟨rfl, (Below.refl _ _).alloc (Nat.le_refl _) _⟩

set_option maxRecDepth 100000 in
set_option maxHeartbeats 8000000 in
theorem rright_tail (v : Value) (p : Pc.Piece) (w : World) (h : PieceIs false w 0 w.heap.size v p) (hh : Pc.okHead p = true) : Calls Try.prog 22 #[v] w
    fun x w' => x = .returned (.bool (Pc.right p)) ∧ Below w.heap.size w w' := by
  obtain ⟨n, s, t, xs, ms, os⟩ := p
  obtain ⟨a, b, c, rfl, ⟨A1, c1, rfl, l1, m1, h1⟩, ⟨A2, c2, rfl, l2, m2, h2⟩, ⟨A3, c3, rfl, l3, m3, h3⟩⟩ := h
  dsimp only at l1 l2 l3 h1 h2 h3 ⊢
  have e : Pc.right ⟨n, s, t, xs, ms, os⟩ = (xs.all (fun n => Pc.within n 0 500) && (ms.all (Pc.rising 0) && os.all Pc.okOut)) := by unfold Pc.right; rw [hh]; rfl
  unfold Pc.okHead at hh
  have hh' := of_decide_eq_true hh
  dsimp only at hh'
  clear hh
  obtain ⟨⟨q1, q1'⟩, ⟨q2, q2'⟩, ⟨q3, q3'⟩, q4, q5, q6⟩ := hh'
  generalize hr : Pc.right ⟨n, s, t, xs, ms, os⟩ = r at e ⊢
  have HE := Lib.hid e; clear e hr
  have hb0 : Below w.heap.size w (w.alloc (.cells #[.int .i64 n, .int .i64 s, .int .i64 t, .slice A1 xs.length c1, .slice A2 ms.length c2, .slice A3 os.length c3] 32)) := (Below.refl _ _).alloc (Nat.le_refl _) _
  unfold maxLen at m1 m2 m3
  go_enter Try.func22, Try.ntmps22
  go_wp2_with fail
  generalize hW : w.alloc (.cells #[.int .i64 n, .int .i64 s, .int .i64 t, .slice A1 xs.length c1, .slice A2 ms.length c2, .slice A3 os.length c3] 32) = W at hb0
  have hsz : W.heap.size = w.heap.size + 1 := by rw [← hW]; simp
  have k3 : W.cell? ⟨w.heap.size, 3, none⟩ = some (.slice A1 xs.length c1) := by rw [← hW]; simp [go_sem]
  have k4 : W.cell? ⟨w.heap.size, 4, none⟩ = some (.slice A2 ms.length c2) := by rw [← hW]; simp [go_sem]
  have k5 : W.cell? ⟨w.heap.size, 5, none⟩ = some (.slice A3 os.length c3) := by rw [← hW]; simp [go_sem]
  clear hW
  replace h1 := h1.below hb0 (Nat.le_refl _)
  replace h2 := h2.below hb0 (Nat.le_refl _)
  replace h3 := h3.below hb0 (Nat.le_refl _)
  have HSZ := Lib.hid hsz; clear hsz
  have HK3 := Lib.hid k3; clear k3
  have HK4 := Lib.hid k4; clear k4
  have HK5 := Lib.hid k5; clear k5
  go_loopg [3] xs.length (fun k i wr => PrR Int (fun n => Pc.within n 0 500) xs W k i wr)
  case atStart => exact ⟨0, rfl, by omega, by omega, Pc.good_zero _ _, Below.refl _ _⟩
  case round =>
    obtain ⟨j, rfl, hj, hk, hr, hb⟩ := hrel
    have HR := Lib.hid hr; clear hr
    have HK := Lib.hid hk; clear hk
    have k3 := (hb.cell (p := ⟨w.heap.size, 3, none⟩) (by have := HSZ.out; simp; omega)).trans HK3.out
    by_cases hlt : j < xs.length
    · obtain ⟨x, hx⟩ := Pc.get_at hlt
      obtain ⟨g, o, rfl, _, hg, c0⟩ := (h1.below hb (by have := HSZ.out; omega)).int hx
      have HX := Lib.hid hx; clear hx
      clear h1 h2 h3
      by_cases q : x < 0
      · go_wp2_with fail
        go_ret
        exact ⟨by rw [HE.out, Pc.bad_all (b := fun n => Pc.within n 0 500) HX.out (Pc.within_no (by omega))]; rfl, hb0.trans (hb.mono (by have := HSZ.out; omega))⟩
      · by_cases q' : 500 < x
        · go_wp2_with fail
          go_ret
          exact ⟨by rw [HE.out, Pc.bad_all (b := fun n => Pc.within n 0 500) HX.out (Pc.within_no (by omega))]; rfl, hb0.trans (hb.mono (by have := HSZ.out; omega))⟩
        · go_wp2_with fail
          go_roundg (xs.length - (j + 1))
          case rel => exact ⟨j + 1, by simp, by omega, rfl, Pc.good_next HR.out HX.out (Pc.within_yes (by omega)), hb⟩
          case measure => have := HK.out; omega
    · have hj2 : j = xs.length := by omega
      subst hj2
      have e1 := Pc.good_all HR.out
      rw [e1, Bool.true_and] at HE
      clear HR e1 HK hlt hj h1
      go_wp2_with fail
      clear k3
      go_loopg [4, 5, 6, 7] ms.length (fun k i _ _ _ wr => PrR (List (Int × Int)) (Pc.rising 0) ms W k i wr)
      case atStart => exact ⟨0, rfl, by omega, by omega, Pc.good_zero _ _, hb⟩
      case round =>
        clear hb
        obtain ⟨j, rfl, hj, hk, hr, hb⟩ := hrel
        have HR := Lib.hid hr; clear hr
        have HK := Lib.hid hk; clear hk
        have k4 := (hb.cell (p := ⟨w.heap.size, 4, none⟩) (by have := HSZ.out; simp; omega)).trans HK4.out
        by_cases hlt : j < ms.length
        · obtain ⟨x, hx⟩ := Pc.get_at hlt
          obtain ⟨g, o, v, rfl, _, hg, c0, ⟨Ax, cx, rfl, lx, mx, hxa⟩⟩ := (h2.below hb (by have := HSZ.out; omega)).row hx
          have HX := Lib.hid hx; clear hx
          clear h2 h3
          unfold maxLen at mx
          go_wp2_with fail
          have KK4 := Lib.hid k4; clear k4
          have CC0 := Lib.hid c0; clear c0
          have hww : w.heap.size < wr.heap.size := by have := hb.size; have := HSZ.out; omega
          obtain ⟨wo, rfl⟩ : ∃ wo : World, wo = wr := ⟨_, rfl⟩
          go_loopg [5, 6, 7] x.length (fun k last i _ wr => ∃ (j2 : Nat) (lv : Int), i = .int .i64 (j2 : Int) ∧ j2 ≤ x.length ∧ k = x.length - j2 ∧ last = .int .i64 lv ∧ Pc.rising 0 x = Pc.rising lv (x.drop j2) ∧ Below wo.heap.size wo wr)
          case atStart => exact ⟨0, 0, rfl, by omega, by omega, rfl, rfl, Below.refl _ _⟩
          case round =>
            obtain ⟨j2, lv, rfl, hj2, hk2, rfl, hr2, hb2⟩ := hrel
            have HR2 := Lib.hid hr2; clear hr2
            have HK2 := Lib.hid hk2; clear hk2
            have k4 := (hb2.cell (p := ⟨w.heap.size, 4, none⟩) (by simpa using hww)).trans KK4.out
            have c0 := (hb2.cell (p := ⟨g, o + j, none⟩) (by simp; omega)).trans CC0.out
            have hbb := hb.trans (hb2.mono hb.size)
            by_cases hlt2 : j2 < x.length
            · obtain ⟨⟨sq, lt⟩, hm⟩ := Pc.get_at hlt2
              obtain ⟨gx, ox, rfl, _, hgx, d0, d1⟩ := (hxa.below hb2 (by omega)).msg hm
              rw [Pc.drop_at hm] at HR2
              clear hm hxa
              dsimp only at d0 d1
              have hno : ¬ (lv < sq ∧ sq ≤ 500 ∧ 0 ≤ lt ∧ lt ≤ 3) → r = false := fun h => by rw [HE.out, Pc.bad_all HX.out (by rw [HR2.out, Pc.rising_no h])]; rfl
              have HNO := Lib.hid hno; clear hno
              by_cases p1 : lv < sq
              · by_cases p2 : sq ≤ 500
                · by_cases p3 : 0 ≤ lt
                  · by_cases p4 : lt ≤ 3
                    · go_wp2_with fail
                      go_roundg (x.length - (j2 + 1))
                      case rel => exact ⟨j2 + 1, sq, by simp, by omega, rfl, rfl, by rw [HR2.out, Pc.rising_yes ⟨p1, p2, p3, p4⟩], hb2.alloc hb2.size _⟩
                      case measure => have := HK2.out; omega
                    · go_wp2_with fail
                      go_ret
                      exact ⟨by rw [HNO.out (by omega)]; rfl, (hb0.trans (hbb.mono (by have := HSZ.out; omega))).alloc (by have := hbb.size; have := HSZ.out; omega) _⟩
                  · go_wp2_with fail
                    go_ret
                    exact ⟨by rw [HNO.out (by omega)]; rfl, (hb0.trans (hbb.mono (by have := HSZ.out; omega))).alloc (by have := hbb.size; have := HSZ.out; omega) _⟩
                · go_wp2_with fail
                  go_ret
                  exact ⟨by rw [HNO.out (by omega)]; rfl, (hb0.trans (hbb.mono (by have := HSZ.out; omega))).alloc (by have := hbb.size; have := HSZ.out; omega) _⟩
              · go_wp2_with fail
                go_ret
                exact ⟨by rw [HNO.out (by omega)]; rfl, (hb0.trans (hbb.mono (by have := HSZ.out; omega))).alloc (by have := hbb.size; have := HSZ.out; omega) _⟩
            · have e2 : Pc.rising 0 x = true := by rw [HR2.out, List.drop_eq_nil_of_le (by omega)]; rfl
              have E2 := Lib.hid e2; clear e2
              go_wp2_with fail
              go_roundg (ms.length - (j + 1))
              case rel => exact ⟨j + 1, by simp, by omega, rfl, Pc.good_next HR.out HX.out E2.out, hbb⟩
              case measure => have := HK.out; omega
        · have hj2 : j = ms.length := by omega
          subst hj2
          have e1 := Pc.good_all HR.out
          rw [e1, Bool.true_and] at HE
          clear HR e1 HK hlt hj h2
          go_wp2_with fail
          clear k4
          go_loopg [8, 9] os.length (fun k i _ wr => PrR (List Int) Pc.okOut os W k i wr)
          case atStart => exact ⟨0, rfl, by omega, by omega, Pc.good_zero _ _, hb⟩
          case round =>
            clear hb
            obtain ⟨j, rfl, hj, hk, hr, hb⟩ := hrel
            have HR := Lib.hid hr; clear hr
            have HK := Lib.hid hk; clear hk
            have k5 := (hb.cell (p := ⟨w.heap.size, 5, none⟩) (by have := HSZ.out; simp; omega)).trans HK5.out
            by_cases hlt : j < os.length
            · obtain ⟨x, hx⟩ := Pc.get_at hlt
              obtain ⟨g, o, v, rfl, _, hg, c0, ⟨Ax, cx, rfl, lx, mx, hxa⟩⟩ := (h3.below hb (by have := HSZ.out; omega)).row hx
              have HX := Lib.hid hx; clear hx
              clear h3
              unfold maxLen at mx
              by_cases q : x.length ≤ 500
              · go_wp2_with fail
                have KK5 := Lib.hid k5; clear k5
                have CC0 := Lib.hid c0; clear c0
                have hww : w.heap.size < wr.heap.size := by have := hb.size; have := HSZ.out; omega
                obtain ⟨wo, rfl⟩ : ∃ wo : World, wo = wr := ⟨_, rfl⟩
                go_loopg [9] x.length (fun k i wr => PrR Int (fun n => Pc.within n 0 3) x wo k i wr)
                case atStart => exact ⟨0, rfl, by omega, by omega, Pc.good_zero _ _, Below.refl _ _⟩
                case round =>
                  obtain ⟨j2, rfl, hj2, hk2, hr2, hb2⟩ := hrel
                  have HR2 := Lib.hid hr2; clear hr2
                  have HK2 := Lib.hid hk2; clear hk2
                  have k5 := (hb2.cell (p := ⟨w.heap.size, 5, none⟩) (by simpa using hww)).trans KK5.out
                  have c0 := (hb2.cell (p := ⟨g, o + j, none⟩) (by simp; omega)).trans CC0.out
                  have hbb := hb.trans (hb2.mono hb.size)
                  by_cases hlt2 : j2 < x.length
                  · obtain ⟨y, hy⟩ := Pc.get_at hlt2
                    obtain ⟨gx, ox, rfl, _, hgx, d0⟩ := (hxa.below hb2 (by omega)).int hy
                    have hno : ¬ (0 ≤ y ∧ y ≤ 3) → r = false := fun h => by rw [HE.out, Pc.bad_all HX.out (by unfold Pc.okOut; rw [Pc.bad_all (b := fun n => Pc.within n 0 3) hy (Pc.within_no h), Bool.and_false])]
                    have HNO := Lib.hid hno; clear hno
                    have HY := Lib.hid hy; clear hy hxa
                    by_cases p1 : y < 0
                    · go_wp2_with fail
                      go_ret
                      exact ⟨by rw [HNO.out (by omega)]; rfl, hb0.trans (hbb.mono (by have := HSZ.out; omega))⟩
                    · by_cases p2 : 3 < y
                      · go_wp2_with fail
                        go_ret
                        exact ⟨by rw [HNO.out (by omega)]; rfl, hb0.trans (hbb.mono (by have := HSZ.out; omega))⟩
                      · go_wp2_with fail
                        go_roundg (x.length - (j2 + 1))
                        case rel => exact ⟨j2 + 1, by simp, by omega, rfl, Pc.good_next HR2.out HY.out (Pc.within_yes (by omega)), hb2⟩
                        case measure => have := HK2.out; omega
                  · have e2 : Pc.okOut x = true := by
                      have hj3 : j2 = x.length := by omega
                      subst hj3
                      unfold Pc.okOut; rw [Pc.good_all HR2.out, Bool.and_true]; exact decide_eq_true q
                    have E2 := Lib.hid e2; clear e2
                    go_wp2_with fail
                    go_roundg (os.length - (j + 1))
                    case rel => exact ⟨j + 1, by simp, by omega, rfl, Pc.good_next HR.out HX.out E2.out, hbb⟩
                    case measure => have := HK.out; omega
              · go_wp2_with fail
                go_ret
                exact ⟨by rw [HE.out, Pc.bad_all HX.out (by unfold Pc.okOut; rw [decide_eq_false q, Bool.false_and])]; rfl, hb0.trans (hb.mono (by have := HSZ.out; omega))⟩
            · have hj2 : j = os.length := by omega
              subst hj2
              have e1 := Pc.good_all HR.out
              rw [e1] at HE
              clear HR e1 HK hlt hj h3
              go_wp2_with fail
              go_ret
              exact ⟨by rw [HE.out]; rfl, hb0.trans (hb.mono (by have := HSZ.out; omega))⟩

theorem rright_any (v : Value) (p : Pc.Piece) (w : World) (h : PieceIs false w 0 w.heap.size v p) : Calls Try.prog 22 #[v] w
    fun x w' => x = .returned (.bool (Pc.right p)) ∧ Below w.heap.size w w' := by
  cases hh : Pc.okHead p
  · exact rright_head v p w h hh
  · exact rright_tail v p w h hh
end Go.Proofs.Ytdfgnmdofjhnkaa
