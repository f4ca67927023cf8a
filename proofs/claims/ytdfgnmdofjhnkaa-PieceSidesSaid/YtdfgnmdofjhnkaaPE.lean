/- piece.Same, and the document's Same. -/
import Derived.Test.YtdfgnmdofjhnkaaPD
namespace Go.Proofs.Ytdfgnmdofjhnkaa
open Go.RowKit

namespace Pc
theorem same_no {p q : Piece} (h : ¬ (p.node = q.node ∧ p.state = q.state ∧ p.steps = q.steps ∧ p.sent = q.sent ∧ p.inn = q.inn ∧ p.out = q.out)) : decide (p = q) = false := by
  apply decide_eq_false
  rintro rfl
  exact h ⟨rfl, rfl, rfl, rfl, rfl, rfl⟩
end Pc

set_option maxRecDepth 100000 in
set_option maxHeartbeats 4000000 in
theorem same_any (v u : Value) (p q : Pc.Piece) (w : World) (h : PieceIs false w 0 w.heap.size v p) (h' : PieceIs false w 0 w.heap.size u q) : Calls Try.prog 23 #[v, u] w
    fun x w' => x = .returned (.bool (decide (p = q))) ∧ Below w.heap.size w w' := by
  obtain ⟨n, s, t, xs, ms, os⟩ := p
  obtain ⟨n', s', t', xs', ms', os'⟩ := q
  obtain ⟨a, b, c, rfl, h1, h2, h3⟩ := h
  obtain ⟨a', b', c', rfl, h1', h2', h3'⟩ := h'
  dsimp only at h1 h2 h3 h1' h2' h3' ⊢
  have hn := @Pc.same_no ⟨n, s, t, xs, ms, os⟩ ⟨n', s', t', xs', ms', os'⟩
  dsimp only at hn
  have hy : n = n' → s = s' → t = t' → xs = xs' → ms = ms' → os = os' → decide ((⟨n, s, t, xs, ms, os⟩ : Pc.Piece) = ⟨n', s', t', xs', ms', os'⟩) = true := by rintro rfl rfl rfl rfl rfl rfl; exact decide_eq_true rfl
  generalize decide ((⟨n, s, t, xs, ms, os⟩ : Pc.Piece) = ⟨n', s', t', xs', ms', os'⟩) = d at hn hy ⊢
  have HN := Lib.hid hn; clear hn
  have HY := Lib.hid hy; clear hy
  have hb0 : Below w.heap.size w ((w.alloc (.cells #[.int .i64 n, .int .i64 s, .int .i64 t, a, b, c] 26)).alloc (.cells #[.int .i64 n', .int .i64 s', .int .i64 t', a', b', c'] 26)) := below_2 _ _ _
  by_cases e1 : n = n'
  · subst e1
    have b1 : (n == n) = true := by simp
    by_cases e2 : s = s'
    · subst e2
      have b2 : (s == s) = true := by simp
      by_cases e3 : t = t'
      · subst e3
        have b3 : (t == t) = true := by simp
        have H1 := Lib.hid h1; have H2 := Lib.hid h2; have H3 := Lib.hid h3; have H1' := Lib.hid h1'; have H2' := Lib.hid h2'; have H3' := Lib.hid h3'
        clear h1 h2 h3 h1' h2' h3'
        go_enter Try.func23, Try.ntmps23
        go_wp2_with fail
        refine (eqInts_any a a' xs xs' _ ((H1.out.below hb0 (Nat.le_refl _)).widen (Nat.le_refl _) hb0.size) ((H1'.out.below hb0 (Nat.le_refl _)).widen (Nat.le_refl _) hb0.size)).mono ?_
        rintro e w1 ⟨rfl, hq⟩
        replace hb0 := hb0.trans (hq.below (B := w.heap.size))
        have bb := hq.below (B := w.heap.size + 2)
        have kb : w1.cell? ⟨w.heap.size, 4, none⟩ = some b := (bb.cell (by simp)).trans (by simp [go_sem])
        have kb' : w1.cell? ⟨w.heap.size + 1, 4, none⟩ = some b' := (bb.cell (by simp)).trans (by simp [go_sem])
        cases d1 : decide (xs = xs')
        · have D1 := Lib.hid (of_decide_eq_false d1); clear d1
          go_wp2_with fail
          go_ret
          exact ⟨by rw [HN.out (fun h => D1.out h.2.2.2.1)]; rfl, hb0⟩
        · have D1 := Lib.hid (of_decide_eq_true d1); clear d1
          go_wp2_with fail
          clear kb kb'
          refine (eqfMsgs_any b b' ms ms' _ ((H2.out.below hb0 (Nat.le_refl _)).widen (Nat.le_refl _) hb0.size) ((H2'.out.below hb0 (Nat.le_refl _)).widen (Nat.le_refl _) hb0.size)).mono ?_
          rintro e w2 ⟨rfl, hq2⟩
          replace hb0 := hb0.trans (hq2.below (B := w.heap.size))
          replace bb := bb.trans (hq2.below (B := w.heap.size + 2))
          have kb : w2.cell? ⟨w.heap.size, 5, none⟩ = some c := (bb.cell (by simp)).trans (by simp [go_sem])
          have kb' : w2.cell? ⟨w.heap.size + 1, 5, none⟩ = some c' := (bb.cell (by simp)).trans (by simp [go_sem])
          cases d2 : decide (ms = ms')
          · have D2 := Lib.hid (of_decide_eq_false d2); clear d2
            go_wp2_with fail
            go_ret
            exact ⟨by rw [HN.out (fun h => D2.out h.2.2.2.2.1)]; rfl, hb0⟩
          · have D2 := Lib.hid (of_decide_eq_true d2); clear d2
            go_wp2_with fail
            clear kb kb'
            refine (eqfInts_any c c' os os' _ ((H3.out.below hb0 (Nat.le_refl _)).widen (Nat.le_refl _) hb0.size) ((H3'.out.below hb0 (Nat.le_refl _)).widen (Nat.le_refl _) hb0.size)).mono ?_
            rintro e w3 ⟨rfl, hq3⟩
            replace hb0 := hb0.trans (hq3.below (B := w.heap.size))
            cases d3 : decide (os = os')
            · have D3 := Lib.hid (of_decide_eq_false d3); clear d3
              go_wp2_with fail
              go_ret
              exact ⟨by rw [HN.out (fun h => D3.out h.2.2.2.2.2)]; rfl, hb0⟩
            · have D3 := Lib.hid (of_decide_eq_true d3); clear d3
              go_wp2_with fail
              go_ret
              exact ⟨by rw [HY.out (by simp) (by simp) (by simp) D1.out D2.out D3.out]; rfl, hb0⟩
      · have b3 : (t == t') = false := by simpa using e3
        have E3 := Lib.hid e3; clear e3 h1 h2 h3 h1' h2' h3'
        go_enter Try.func23, Try.ntmps23
        go_wp2_with fail
        go_ret
        exact ⟨by rw [HN.out (fun h => E3.out h.2.2.1)]; rfl, hb0⟩
    · have b2 : (s == s') = false := by simpa using e2
      have E2 := Lib.hid e2; clear e2 h1 h2 h3 h1' h2' h3'
      go_enter Try.func23, Try.ntmps23
      go_wp2_with fail
      go_ret
      exact ⟨by rw [HN.out (fun h => E2.out h.2.1)]; rfl, hb0⟩
  · have b1 : (n == n') = false := by simpa using e1
    have E1 := Lib.hid e1; clear e1 h1 h2 h3 h1' h2' h3'
    go_enter Try.func23, Try.ntmps23
    go_wp2_with fail
    go_ret
    exact ⟨by rw [HN.out (fun h => E1.out h.1)]; rfl, hb0⟩

end Go.Proofs.Ytdfgnmdofjhnkaa
