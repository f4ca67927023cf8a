/- piece.Right -/
import Derived.Test.YtdfgnmdofjhnkaaPA
import Derived.Test.YtdfgnmdofjhnkaaPRep
namespace Go.Proofs.Ytdfgnmdofjhnkaa
open Go.RowKit

theorem right1_any (n : Int) (w : World) : Calls Try.prog 58 #[.int .i64 n] w fun x w' => x = .returned (.bool (!Pc.within n 0 3)) ∧ w = w' := by
  go_enter Try.func58, Try.ntmps58
  go_wp2_with fail
  refine (pwithin_any _ _ _).mono ?_
  rintro e w1 ⟨rfl, rfl⟩
  go_wp2_with fail
  go_ret
  exact ⟨rfl, rfl⟩

def PrR (α : Type) (b : α → Bool) (xs : List α) (w : World) (k : Nat) (i : Value) (wr : World) : Prop :=
  ∃ j : Nat, i = .int .i64 (j : Int) ∧ j ≤ xs.length ∧ k = xs.length - j ∧ Pc.good b xs j ∧ Below w.heap.size w wr

set_option maxRecDepth 100000 in
set_option maxHeartbeats 2000000 in
theorem right_head (v : Value) (p : Pc.Piece) (w : World) (h : PieceIs false w 0 w.heap.size v p) (hh : Pc.okHead p = false) : Calls Try.prog 21 #[v] w
    fun x w' => x = .returned (.bool (Pc.right p)) ∧ Below w.heap.size w w' := by
  obtain ⟨n, s, t, xs, ms, os⟩ := p
  obtain ⟨a, b, c, rfl, ⟨A1, c1, rfl, l1, m1, h1⟩, ⟨A2, c2, rfl, l2, m2, h2⟩, ⟨A3, c3, rfl, l3, m3, h3⟩⟩ := h
  dsimp only at l1 l2 l3 h1 h2 h3 ⊢
  have e : Pc.right ⟨n, s, t, xs, ms, os⟩ = false := by unfold Pc.right; rw [hh]; rfl
  rw [e]
  unfold Pc.okHead at hh
  have hh' := of_decide_eq_false hh
  dsimp only at hh'
  clear hh e h1 h2 h3
  by_cases q1 : 0 ≤ n ∧ n ≤ 5
  · by_cases q2 : 0 ≤ s ∧ s ≤ 7
    · by_cases q3 : 0 ≤ t ∧ t ≤ 2147483647
      · have q4 : 5 < max (max (xs.length : Int) ms.length) os.length := by omega
        clear hh'
        go_enter Try.func21, Try.ntmps21
        go_wp2_with fail
        refine (pwithin_yes _ _ q1 _).mono ?_
        rintro e w1 ⟨rfl, rfl⟩
        go_wp2_with fail
        refine (pwithin_yes _ _ q2 _).mono ?_
        rintro e w1 ⟨rfl, rfl⟩
        go_wp2_with fail
        refine (pwithin_yes _ _ q3 _).mono ?_
        rintro e w1 ⟨rfl, rfl⟩
        go_wp2_with fail
        go_ret
        exact ⟨rfl, (Below.refl _ _).alloc (Nat.le_refl _) _⟩
      · clear hh'
        go_enter Try.func21, Try.ntmps21
        go_wp2_with fail
        refine (pwithin_yes _ _ q1 _).mono ?_
        rintro e w1 ⟨rfl, rfl⟩
        go_wp2_with fail
        refine (pwithin_yes _ _ q2 _).mono ?_
        rintro e w1 ⟨rfl, rfl⟩
        go_wp2_with fail
        refine (pwithin_no _ _ q3 _).mono ?_
        rintro e w1 ⟨rfl, rfl⟩
        go_wp2_with fail
        go_ret
        exact ⟨rfl, (Below.refl _ _).alloc (Nat.le_refl _) _⟩
    · clear hh'
      go_enter Try.func21, Try.ntmps21
      go_wp2_with fail
      refine (pwithin_yes _ _ q1 _).mono ?_
      rintro e w1 ⟨rfl, rfl⟩
      go_wp2_with fail
      refine (pwithin_no _ _ q2 _).mono ?_
      rintro e w1 ⟨rfl, rfl⟩
      go_wp2_with fail
      go_ret
      exact ⟨rfl, (Below.refl _ _).alloc (Nat.le_refl _) _⟩
  · clear hh'
    go_enter Try.func21, Try.ntmps21
    go_wp2_with fail
    refine (pwithin_no _ _ q1 _).mono ?_
    rintro e w1 ⟨rfl, rfl⟩
    go_wp2_with fail
    go_ret
    exact ⟨rfl, (Below.refl _ _).alloc (Nat.le_refl _) _⟩

set_option maxRecDepth 100000 in
set_option maxHeartbeats 4000000 in
theorem right_tail (v : Value) (p : Pc.Piece) (w : World) (h : PieceIs false w 0 w.heap.size v p) (hh : Pc.okHead p = true) : Calls Try.prog 21 #[v] w
    fun x w' => x = .returned (.bool (Pc.right p)) ∧ Below w.heap.size w w' := by
  obtain ⟨n, s, t, xs, ms, os⟩ := p
  obtain ⟨a, b, c, rfl, ⟨A1, c1, rfl, l1, m1, h1⟩, ⟨A2, c2, rfl, l2, m2, h2⟩, ⟨A3, c3, rfl, l3, m3, h3⟩⟩ := h
  dsimp only at l1 l2 l3 h1 h2 h3 ⊢
  have e : Pc.right ⟨n, s, t, xs, ms, os⟩ = (xs.all (fun n => Pc.within n 0 500) && (ms.all (Pc.rising 0) && os.all Pc.okOut)) := by unfold Pc.right; rw [hh]; rfl
  unfold Pc.okHead at hh
  have hh' := of_decide_eq_true hh
  dsimp only at hh'
  clear hh
  obtain ⟨q1, q2, q3, q4, q5, q6⟩ := hh'
  have q7 : ¬ 5 < max (max (xs.length : Int) ms.length) os.length := by omega
  generalize hr : Pc.right ⟨n, s, t, xs, ms, os⟩ = r at e ⊢
  have HE := Lib.hid e; clear e hr
  have hb0 : Below w.heap.size w (w.alloc (.cells #[.int .i64 n, .int .i64 s, .int .i64 t, .slice A1 xs.length c1, .slice A2 ms.length c2, .slice A3 os.length c3] 26)) := (Below.refl _ _).alloc (Nat.le_refl _) _
  unfold maxLen at m1 m2 m3
  go_enter Try.func21, Try.ntmps21
  go_wp2_with fail
  refine (pwithin_yes _ _ q1 _).mono ?_
  rintro e w1 ⟨rfl, rfl⟩
  go_wp2_with fail
  refine (pwithin_yes _ _ q2 _).mono ?_
  rintro e w1 ⟨rfl, rfl⟩
  go_wp2_with fail
  refine (pwithin_yes _ _ q3 _).mono ?_
  rintro e w1 ⟨rfl, rfl⟩
  go_wp2_with fail
  generalize hW : w.alloc (.cells #[.int .i64 n, .int .i64 s, .int .i64 t, .slice A1 xs.length c1, .slice A2 ms.length c2, .slice A3 os.length c3] 26) = W at hb0
  have hsz : W.heap.size = w.heap.size + 1 := by rw [← hW]; simp
  have k4 : W.cell? ⟨w.heap.size, 4, none⟩ = some (.slice A2 ms.length c2) := by rw [← hW]; simp [go_sem]
  have k5 : W.cell? ⟨w.heap.size, 5, none⟩ = some (.slice A3 os.length c3) := by rw [← hW]; simp [go_sem]
  clear hW
  replace h1 := h1.below hb0 (Nat.le_refl _)
  replace h2 := h2.below hb0 (Nat.le_refl _)
  replace h3 := h3.below hb0 (Nat.le_refl _)
  have HSZ := Lib.hid hsz; clear hsz
  have HK4 := Lib.hid k4; clear k4
  have HK5 := Lib.hid k5; clear k5
  go_loopg [4, 42] xs.length (fun k _ i wr => PrR Int (fun n => Pc.within n 0 500) xs W k i wr)
  case atStart => exact ⟨0, rfl, by omega, by omega, Pc.good_zero _ _, Below.refl _ _⟩
  case round =>
    obtain ⟨j, rfl, hj, hk, hr, hb⟩ := hrel
    have HR := Lib.hid hr; clear hr
    have HK := Lib.hid hk; clear hk
    by_cases hlt : j < xs.length
    · obtain ⟨x, hx⟩ := Pc.get_at hlt
      obtain ⟨g, o, rfl, _, hg, c0⟩ := (h1.below hb (by have := HSZ.out; omega)).int hx
      have HX := Lib.hid hx; clear hx
      clear h1 h2 h3
      by_cases q : 0 ≤ x ∧ x ≤ 500
      · go_wp2_with fail
        refine (pwithin_yes _ _ q _).mono ?_
        rintro e w1 ⟨rfl, rfl⟩
        go_wp2_with fail
        go_roundg (xs.length - (j + 1))
        case rel => exact ⟨j + 1, by simp, by omega, rfl, Pc.good_next HR.out HX.out (Pc.within_yes q), hb⟩
        case measure => have := HK.out; omega
      · go_wp2_with fail
        refine (pwithin_no _ _ q _).mono ?_
        rintro e w1 ⟨rfl, rfl⟩
        go_wp2_with fail
        go_ret
        exact ⟨by rw [HE.out, Pc.bad_all (b := fun n => Pc.within n 0 500) HX.out (Pc.within_no q)]; rfl, hb0.trans (hb.mono (by have := HSZ.out; omega))⟩
    · have hj2 : j = xs.length := by omega
      subst hj2
      have e1 := Pc.good_all HR.out
      rw [e1, Bool.true_and] at HE
      clear HR e1 HK hlt hj h1
      have k4 := (hb.cell (p := ⟨w.heap.size, 4, none⟩) (by have := HSZ.out; simp; omega)).trans HK4.out
      go_wp2_with fail
      clear k4
      go_loopg [6, 53] ms.length (fun k _ i wr => PrR (List (Int × Int)) (Pc.rising 0) ms W k i wr)
      case atStart => exact ⟨0, rfl, by omega, by omega, Pc.good_zero _ _, hb⟩
      case round =>
        clear hb
        obtain ⟨j, rfl, hj, hk, hr, hb⟩ := hrel
        have HR := Lib.hid hr; clear hr
        have HK := Lib.hid hk; clear hk
        by_cases hlt : j < ms.length
        · obtain ⟨x, hx⟩ := Pc.get_at hlt
          obtain ⟨g, o, v, rfl, _, hg, c0, hv⟩ := (h2.below hb (by have := HSZ.out; omega)).row hx
          have HX := Lib.hid hx; clear hx
          clear h2 h3
          go_wp2_with fail
          refine (rising_any v x _ (hv.widen (Nat.le_refl _) (by have := hb.size; have := HSZ.out; omega))).mono ?_
          rintro e w1 ⟨rfl, hb1⟩
          replace hb := hb.trans (hb1.mono hb.size)
          cases hq : Pc.rising 0 x
          · have HQ := Lib.hid hq; clear hq
            go_wp2_with fail
            go_ret
            exact ⟨by rw [HE.out, Pc.bad_all HX.out HQ.out]; rfl, hb0.trans (hb.mono (by have := HSZ.out; omega))⟩
          · have HQ := Lib.hid hq; clear hq
            go_wp2_with fail
            go_roundg (ms.length - (j + 1))
            case rel => exact ⟨j + 1, by simp, by omega, rfl, Pc.good_next HR.out HX.out HQ.out, hb⟩
            case measure => have := HK.out; omega
        · have hj2 : j = ms.length := by omega
          subst hj2
          have e1 := Pc.good_all HR.out
          rw [e1, Bool.true_and] at HE
          clear HR e1 HK hlt hj h2
          have k5 := (hb.cell (p := ⟨w.heap.size, 5, none⟩) (by have := HSZ.out; simp; omega)).trans HK5.out
          go_wp2_with fail
          clear k5
          go_loopg [9, 64] os.length (fun k _ i wr => PrR (List Int) Pc.okOut os W k i wr)
          case atStart => exact ⟨0, rfl, by omega, by omega, Pc.good_zero _ _, hb⟩
          case round =>
            clear hb
            obtain ⟨j, rfl, hj, hk, hr, hb⟩ := hrel
            have HR := Lib.hid hr; clear hr
            have HK := Lib.hid hk; clear hk
            by_cases hlt : j < os.length
            · obtain ⟨x, hx⟩ := Pc.get_at hlt
              obtain ⟨g, o, v, rfl, _, hg, c0, hv⟩ := (h3.below hb (by have := HSZ.out; omega)).row hx
              have HX := Lib.hid hx; clear hx
              clear h3
              have hv' := hv.widen (Nat.le_refl 0) (show w.heap.size ≤ wr.heap.size by have := hb.size; have := HSZ.out; omega)
              obtain ⟨Ax, cx, rfl, lx, mx, _⟩ := hv
              have HV := Lib.hid hv'; clear hv'
              unfold maxLen at mx
              by_cases q : x.length ≤ 500
              · go_wp2_with fail
                refine (containsInts_any 58 (fun _ _ => rfl) (fun n => !Pc.within n 0 3) right1_any _ x _ HV.out).mono ?_
                rintro e w1 ⟨rfl, hb1⟩
                replace hb := hb.trans (hb1.mono hb.size)
                rw [Pc.all_not]
                cases hq : x.all (fun n => Pc.within n 0 3)
                · have HQ := Lib.hid hq; clear hq
                  go_wp2_with fail
                  go_ret
                  exact ⟨by rw [HE.out, Pc.bad_all HX.out (by unfold Pc.okOut; rw [HQ.out, Bool.and_false])]; rfl, hb0.trans (hb.mono (by have := HSZ.out; omega))⟩
                · have HQ := Lib.hid hq; clear hq
                  go_wp2_with fail
                  go_roundg (os.length - (j + 1))
                  case rel => exact ⟨j + 1, by simp, by omega, rfl, Pc.good_next HR.out HX.out (by unfold Pc.okOut; rw [HQ.out, Bool.and_true]; exact decide_eq_true q), hb⟩
                  case measure => have := HK.out; omega
              · go_wp2_with fail
                go_ret
                exact ⟨by rw [HE.out, Pc.bad_all HX.out (by unfold Pc.okOut; rw [decide_eq_false q, Bool.false_and])]; rfl, hb0.trans (hb.mono (by have := HSZ.out; omega))⟩
            · have hj2 : j = os.length := by omega
              subst hj2
              have e1 := Pc.good_all HR.out
              rw [e1] at HE
              clear HR e1 HK hlt hj h3
              go_wp2_with fail
              go_ret
              exact ⟨by rw [HE.out]; rfl, hb0.trans (hb.mono (by have := HSZ.out; omega))⟩

theorem right_any (v : Value) (p : Pc.Piece) (w : World) (h : PieceIs false w 0 w.heap.size v p) : Calls Try.prog 21 #[v] w
    fun x w' => x = .returned (.bool (Pc.right p)) ∧ Below w.heap.size w w' := by
  cases hh : Pc.okHead p
  · exact right_head v p w h hh
  · exact right_tail v p w h hh
end Go.Proofs.Ytdfgnmdofjhnkaa
