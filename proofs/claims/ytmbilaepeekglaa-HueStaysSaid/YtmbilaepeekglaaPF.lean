/- The document's Same, for pieces. -/
import Derived.Test.YtmbilaepeekglaaPC
import Derived.Test.YtmbilaepeekglaaHX
namespace Go.Proofs.Ytmbilaepeekglaa
open Go.RowKit

set_option maxRecDepth 100000 in
set_option maxHeartbeats 4000000 in
theorem rsame_any (v u : Value) (p q : Pc.Piece) (w : World) (h : PieceIs false w 0 w.heap.size v p) (h' : PieceIs false w 0 w.heap.size u q) : Calls Try.prog 26 #[v, u] w
    fun x w' => x = .returned (.bool (decide (p = q))) ∧ Below w.heap.size w w' := by
  obtain ⟨n, s, t, xs, ms, os⟩ := p
  obtain ⟨n', s', t', xs', ms', os'⟩ := q
  obtain ⟨a, b, c, rfl, h1, h2, h3⟩ := h
  obtain ⟨a', b', c', rfl, h1', h2', h3'⟩ := h'
  dsimp only at h1 h2 h3 h1' h2' h3' ⊢
  have hn := @Pc.same_no ⟨n, s, t, xs, ms, os⟩ ⟨n', s', t', xs', ms', os'⟩
  dsimp only at hn
  have hy : n = n' → s = s' → t = t' → xs = xs' → ms = ms' → os = os' → decide ((⟨n, s, t, xs, ms, os⟩ : Pc.Piece) = ⟨n', s', t', xs', ms', os'⟩) = true := by rintro rfl rfl rfl rfl rfl rfl; exact decide_eq_true rfl
  generalize decide ((⟨n, s, t, xs, ms, os⟩ : Pc.Piece) = ⟨n', s', t', xs', ms', os'⟩) = d at hn hy ⊢
  have HN := Lib.hid hn; clear hn
  have HY := Lib.hid hy; clear hy
  have hb0 : Below w.heap.size w ((w.alloc (.cells #[.int .i64 n, .int .i64 s, .int .i64 t, a, b, c] 35)).alloc (.cells #[.int .i64 n', .int .i64 s', .int .i64 t', a', b', c'] 35)) := below_2 _ _ _
  by_cases e1 : n = n'
  · subst e1
    have b1 : (n != n) = false := by simp
    by_cases e2 : s = s'
    · subst e2
      have b2 : (s != s) = false := by simp
      by_cases e3 : t = t'
      · subst e3
        have b3 : (t != t) = false := by simp
        obtain ⟨A2, c2, rfl, l2, m2, k2⟩ := h2
        obtain ⟨A2', c2', rfl, l2', m2', k2'⟩ := h2'
        obtain ⟨A3, c3, rfl, l3, m3, k3⟩ := h3
        obtain ⟨A3', c3', rfl, l3', m3', k3'⟩ := h3'
        unfold maxLen at m2 m2' m3 m3'
        have H1 := Lib.hid h1; have H2 := Lib.hid k2; have H3 := Lib.hid k3; have H1' := Lib.hid h1'; have H2' := Lib.hid k2'; have H3' := Lib.hid k3'
        clear h1 k2 k3 h1' k2' k3'
        go_enter Try.func26, Try.ntmps26
        go_wp2_with fail
        refine (rints_any a a' xs xs' _ ((H1.out.below hb0 (Nat.le_refl _)).widen (Nat.le_refl _) hb0.size) ((H1'.out.below hb0 (Nat.le_refl _)).widen (Nat.le_refl _) hb0.size)).mono ?_
        rintro e w1 ⟨rfl, hq⟩
        replace hb0 := hb0.trans (hq.below (B := w.heap.size))
        have bb := hq.below (B := w.heap.size + 2)
        have kb : w1.cell? ⟨w.heap.size, 4, none⟩ = some (.slice A2 ms.length c2) := (bb.cell (by simp)).trans (by simp [go_sem])
        have kb' : w1.cell? ⟨w.heap.size + 1, 4, none⟩ = some (.slice A2' ms'.length c2') := (bb.cell (by simp)).trans (by simp [go_sem])
        cases d1 : decide (xs = xs')
        · have D1 := Lib.hid (of_decide_eq_false d1); clear d1
          go_wp2_with fail
          go_ret
          exact ⟨by rw [HN.out (fun h => D1.out h.2.2.2.1)]; rfl, hb0⟩
        · have D1 := Lib.hid (of_decide_eq_true d1); clear d1
          by_cases e4 : ms.length = ms'.length
          · have b4 : ((ms.length : Int) != (ms'.length : Int)) = false := by simp [e4]
            have E4 := Lib.hid e4; clear e4
            have kc : w1.cell? ⟨w.heap.size, 5, none⟩ = some (.slice A3 os.length c3) := (bb.cell (by simp)).trans (by simp [go_sem])
            have kc' : w1.cell? ⟨w.heap.size + 1, 5, none⟩ = some (.slice A3' os'.length c3') := (bb.cell (by simp)).trans (by simp [go_sem])
            by_cases e5 : os.length = os'.length
            · have b5 : ((os.length : Int) != (os'.length : Int)) = false := by simp [e5]
              have E5 := Lib.hid e5; clear e5
              go_wp2_with fail
              clear b4 b5
              have KB := Lib.hid kb; have KB' := Lib.hid kb'; have KC := Lib.hid kc; have KC' := Lib.hid kc'
              clear kb kb' kc kc'
              have hw1 : w1.heap.size = w.heap.size + 2 := by rw [hq.size]; simp
              have HW1 := Lib.hid hw1; clear hw1 hq
              have H2w := Lib.hid (H2.out.below hb0 (Nat.le_refl _)); have H2w' := Lib.hid (H2'.out.below hb0 (Nat.le_refl _))
              have H3w := Lib.hid (H3.out.below hb0 (Nat.le_refl _)); have H3w' := Lib.hid (H3'.out.below hb0 (Nat.le_refl _))
              clear H2 H2' H3 H3' H1 H1'
              go_loopg [5] ms.length (fun k i wr => ∃ j : Nat, i = .int .i64 (j : Int) ∧ j ≤ ms.length ∧ k = ms.length - j ∧ ms.take j = ms'.take j ∧ Quiet w1 wr)
              case atStart => exact ⟨0, rfl, by omega, by omega, rfl, Quiet.refl _⟩
              case round =>
                obtain ⟨j, rfl, hj, hk, hl, hr⟩ := hrel
                have HL := Lib.hid hl; clear hl
                have HK := Lib.hid hk; clear hk
                have kb : wr.cell? ⟨w.heap.size, 4, none⟩ = some (.slice A2 ms.length c2) := (cell_of_block (by rw [hr.heap])).trans KB.out
                have kb' : wr.cell? ⟨w.heap.size + 1, 4, none⟩ = some (.slice A2' ms'.length c2') := (cell_of_block (by rw [hr.heap])).trans KB'.out
                have hrs := hr.size
                by_cases hlt : j < ms.length
                · have hlt' : j < ms'.length := by have := E4.out; omega
                  obtain ⟨x, hx⟩ := Pc.get_at hlt
                  obtain ⟨y, hy⟩ := Pc.get_at hlt'
                  obtain ⟨g, o, vx, rfl, _, _, c0, hvx⟩ := (hr.at_ H2w.out).row hx
                  obtain ⟨g', o', vy, rfl, _, _, c0', hvy⟩ := (hr.at_ H2w'.out).row hy
                  have HX := Lib.hid hx; clear hx
                  have HY2 := Lib.hid hy; clear hy
                  have hc := fun n => msgs_any vx vy x y (wr.drewN n) ((hvx.widen (hi' := wr.heap.size) (Nat.le_refl _) (by have := HW1.out; omega)).keep (fun _ _ _ => rfl)) ((hvy.widen (hi' := wr.heap.size) (Nat.le_refl _) (by have := HW1.out; omega)).keep (fun _ _ _ => rfl))
                  have HC := Lib.hid hc; clear hc hvx hvy hrs
                  generalize hz : decide (x = y) = z at HC
                  have HZ := Lib.hid hz; clear hz
                  cases z
                  · go_wp2_with fail
                    go_quiet ((go_at_call 16; exact Calls.quiet_of (HC.out _)))
                    go_wp2_with fail
                    go_ret
                    exact ⟨by rw [HN.out (fun h => (of_decide_eq_false HZ.out) (by have := HX.out; rw [h.2.2.2.2.1, HY2.out] at this; injection this with this; exact this.symm))]; rfl, hb0.trans ((hr.drewN _).below)⟩
                  · go_wp2_with fail
                    go_quiet ((go_at_call 16; exact Calls.quiet_of (HC.out _)))
                    go_wp2_with fail
                    go_roundg (ms.length - (j + 1))
                    case rel => exact ⟨j + 1, by simp, by omega, rfl, Pc.like_next HL.out HX.out (by rw [of_decide_eq_true HZ.out]; exact HY2.out), hr.drewN _⟩
                    case measure => have := HK.out; omega
                · have D2 := Lib.hid (of_decide_eq_true (Pc.like_end E4.out hlt HL.out))
                  clear HL HK H2w H2w'
                  go_wp2_with fail
                  clear kb kb' hrs hlt hj
                  go_loopg [6] os.length (fun k i wr => ∃ j : Nat, i = .int .i64 (j : Int) ∧ j ≤ os.length ∧ k = os.length - j ∧ os.take j = os'.take j ∧ Quiet w1 wr)
                  case atStart => exact ⟨0, rfl, by omega, by omega, rfl, hr⟩
                  case round =>
                    clear hr
                    obtain ⟨j, rfl, hj, hk, hl, hr⟩ := hrel
                    have HL := Lib.hid hl; clear hl
                    have HK := Lib.hid hk; clear hk
                    have kb : wr.cell? ⟨w.heap.size, 5, none⟩ = some (.slice A3 os.length c3) := (cell_of_block (by rw [hr.heap])).trans KC.out
                    have kb' : wr.cell? ⟨w.heap.size + 1, 5, none⟩ = some (.slice A3' os'.length c3') := (cell_of_block (by rw [hr.heap])).trans KC'.out
                    have hrs := hr.size
                    by_cases hlt : j < os.length
                    · have hlt' : j < os'.length := by have := E5.out; omega
                      obtain ⟨x, hx⟩ := Pc.get_at hlt
                      obtain ⟨y, hy⟩ := Pc.get_at hlt'
                      obtain ⟨g, o, vx, rfl, _, _, c0, hvx⟩ := (hr.at_ H3w.out).row hx
                      obtain ⟨g', o', vy, rfl, _, _, c0', hvy⟩ := (hr.at_ H3w'.out).row hy
                      have HX := Lib.hid hx; clear hx
                      have HY2 := Lib.hid hy; clear hy
                      have hc := fun n => rints_any vx vy x y (wr.drewN n) ((hvx.widen (hi' := wr.heap.size) (Nat.le_refl _) (by have := HW1.out; omega)).keep (fun _ _ _ => rfl)) ((hvy.widen (hi' := wr.heap.size) (Nat.le_refl _) (by have := HW1.out; omega)).keep (fun _ _ _ => rfl))
                      have HC := Lib.hid hc; clear hc hvx hvy hrs
                      generalize hz : decide (x = y) = z at HC
                      have HZ := Lib.hid hz; clear hz
                      cases z
                      · go_wp2_with fail
                        go_quiet ((go_at_call 37; exact Calls.quiet_of (HC.out _)))
                        go_wp2_with fail
                        go_ret
                        exact ⟨by rw [HN.out (fun h => (of_decide_eq_false HZ.out) (by have := HX.out; rw [h.2.2.2.2.2, HY2.out] at this; injection this with this; exact this.symm))]; rfl, hb0.trans ((hr.drewN _).below)⟩
                      · go_wp2_with fail
                        go_quiet ((go_at_call 37; exact Calls.quiet_of (HC.out _)))
                        go_wp2_with fail
                        go_roundg (os.length - (j + 1))
                        case rel => exact ⟨j + 1, by simp, by omega, rfl, Pc.like_next HL.out HX.out (by rw [of_decide_eq_true HZ.out]; exact HY2.out), hr.drewN _⟩
                        case measure => have := HK.out; omega
                    · have D3 := Lib.hid (of_decide_eq_true (Pc.like_end E5.out hlt HL.out))
                      go_wp2_with fail
                      go_ret
                      exact ⟨by rw [HY.out (by simp) (by simp) (by simp) D1.out D2.out D3.out]; rfl, hb0.trans hr.below⟩
            · have b5 : ((os.length : Int) != (os'.length : Int)) = true := by rw [bne_iff_ne]; omega
              have E5 := Lib.hid e5; clear e5
              go_wp2_with fail
              go_ret
              exact ⟨by rw [HN.out (fun h => E5.out (by rw [h.2.2.2.2.2]))]; rfl, hb0⟩
          · have b4 : ((ms.length : Int) != (ms'.length : Int)) = true := by rw [bne_iff_ne]; omega
            have E4 := Lib.hid e4; clear e4
            go_wp2_with fail
            go_ret
            exact ⟨by rw [HN.out (fun h => E4.out (by rw [h.2.2.2.2.1]))]; rfl, hb0⟩
      · have b3 : (t != t') = true := by simpa using e3
        have E3 := Lib.hid e3; clear e3 h1 h2 h3 h1' h2' h3'
        go_enter Try.func26, Try.ntmps26
        go_wp2_with fail
        go_ret
        exact ⟨by rw [HN.out (fun h => E3.out h.2.2.1)]; rfl, hb0⟩
    · have b2 : (s != s') = true := by simpa using e2
      have E2 := Lib.hid e2; clear e2 h1 h2 h3 h1' h2' h3'
      go_enter Try.func26, Try.ntmps26
      go_wp2_with fail
      go_ret
      exact ⟨by rw [HN.out (fun h => E2.out h.2.1)]; rfl, hb0⟩
  · have b1 : (n != n') = true := by simpa using e1
    have E1 := Lib.hid e1; clear e1 h1 h2 h3 h1' h2' h3'
    go_enter Try.func26, Try.ntmps26
    go_wp2_with fail
    go_ret
    exact ⟨by rw [HN.out (fun h => E1.out h.1)]; rfl, hb0⟩

end Go.Proofs.Ytmbilaepeekglaa
