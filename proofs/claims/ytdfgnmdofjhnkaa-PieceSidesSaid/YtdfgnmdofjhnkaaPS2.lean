/- Lists of the call's own whose numbers are written over. -/
import Derived.Test.YtdfgnmdofjhnkaaPE2
namespace Go.Proofs.Ytdfgnmdofjhnkaa
open Go.RowKit

/-- w' is w, but for numbers in the blocks lo .. hi. -/
structure Scr (lo hi : Nat) (w w' : World) : Prop where
  low : Below lo w w'
  size : w'.heap.size = w.heap.size
  high : ∀ b, hi ≤ b → w'.heap[b]? = w.heap[b]?
  slices : ∀ b o A n c, w.cell? ⟨b, o, none⟩ = some (.slice A n c) → w'.cell? ⟨b, o, none⟩ = some (.slice A n c)
  ints : ∀ b o x, w.cell? ⟨b, o, none⟩ = some (.int .i64 x) → ∃ y, w'.cell? ⟨b, o, none⟩ = some (.int .i64 y)
  free : ∀ b o, w'.frozen? ⟨b, o, none⟩ = w.frozen? ⟨b, o, none⟩
section
variable {lo hi : Nat} {w w' : World}
theorem Scr.refl (lo hi : Nat) (w : World) : Scr lo hi w w := ⟨Below.refl _ _, rfl, fun _ _ => rfl, fun _ _ _ _ _ h => h, fun _ _ x h => ⟨x, h⟩, fun _ _ => rfl⟩
theorem Scr.set_ (h : Scr lo hi w w') {b o : Nat} {y : Int} (hc : w'.cell? ⟨b, o, none⟩ = some (.int .i64 y)) (h1 : lo ≤ b) (h2 : b < hi) (z : Int) : Scr lo hi w (w'.setCell ⟨b, o, none⟩ (.int .i64 z)) := by
  refine ⟨h.low.setCell h1 _, by rw [← h.size]; simp [World.setCell], fun k hk => (heap_setCell_other _ _ _ _ (by show k ≠ b; omega)).trans (h.high k hk), fun b' o' A n c hs => ?_, fun b' o' x hx => ?_, fun b' o' => ?_⟩
  · have h3 := h.slices b' o' A n c hs
    by_cases hb : b' = b
    · subst hb
      by_cases ho : o' = o
      · subst ho; rw [hc] at h3; cases h3
      · rw [setCell_ne ho]; exact h3
    · rw [cell_of_block (heap_setCell_other _ _ _ _ hb)]; exact h3
  · obtain ⟨y', h3⟩ := h.ints b' o' x hx
    by_cases hb : b' = b
    · subst hb
      by_cases ho : o' = o
      · subst ho; exact ⟨z, setCell_at h3⟩
      · exact ⟨y', by rw [setCell_ne ho]; exact h3⟩
    · exact ⟨y', by rw [cell_of_block (heap_setCell_other _ _ _ _ hb)]; exact h3⟩
  · by_cases hb : b' = b
    · subst hb; exact setCell_free.trans (h.free _ _)
    · exact (frozen_of_block (heap_setCell_other _ _ _ _ hb)).trans (h.free _ _)
theorem Scr.box (h : Scr lo hi w w') {b : Nat} {cs : Array Value} {T : TypeId} (hb : Box w b cs T) (ho : b < lo ∨ hi ≤ b) : Box w' b cs T := by
  rcases ho with ho | ho
  · exact (h.low.block b ho).trans hb
  · exact (h.high b ho).trans hb
theorem Scr.piece {fr : Bool} {l l' : Nat} {v : Value} {p : Pc.Piece} (h : Scr lo hi w w') (hp : PieceIs fr w l l' v p) (ho : l' ≤ lo ∨ hi ≤ l) : PieceIs fr w' l l' v p := by
  rcases ho with ho | ho
  · exact hp.keep fun b _ h2 => h.low.block b (by omega)
  · exact hp.keep fun b h1 _ => h.high b (by omega)
/-- A number in a slice. -/
theorem Scr.int_at (h : Scr lo hi w w') {A : Option Addr} {xs : List Int} {k : Nat} (hs : SliceAt Rep.int true w lo hi A xs) (hk : k < xs.length) :
    ∃ g o y, A = some ⟨g, o, none⟩ ∧ lo ≤ g ∧ g < hi ∧ w'.cell? ⟨g, o + k, none⟩ = some (.int .i64 y) ∧ w'.frozen? ⟨g, o + k, none⟩ = false := by
  obtain ⟨g, o, cs, rfl, h1, h3, h4⟩ := AtOn.at_ hs (List.getElem?_eq_getElem hk)
  have h3' : cs = [.int .i64 xs[k]] := h3
  subst h3'
  have e0 := h4 0 _ rfl
  simp only [Rep.int, Nat.mul_one, Nat.add_zero] at e0
  obtain ⟨y, hy⟩ := h.ints _ _ _ e0.1
  exact ⟨g, o, y, rfl, h1.1, h1.2, hy, (h.free _ _).trans (e0.2 trivial)⟩
theorem Scr.msg_at (h : Scr lo hi w w') {A : Option Addr} {xs : List (Int × Int)} {k : Nat} (hs : SliceAt Rep.msg true w lo hi A xs) (hk : k < xs.length) :
    ∃ g o y z, A = some ⟨g, o, none⟩ ∧ lo ≤ g ∧ g < hi ∧ w'.cell? ⟨g, o + k * 2, none⟩ = some (.int .i64 y) ∧ w'.cell? ⟨g, o + k * 2 + 1, none⟩ = some (.int .i64 z) ∧ w'.frozen? ⟨g, o + k * 2, none⟩ = false ∧ w'.frozen? ⟨g, o + k * 2 + 1, none⟩ = false := by
  obtain ⟨g, o, cs, rfl, h1, h3, h4⟩ := AtOn.at_ hs (List.getElem?_eq_getElem hk)
  have h3' : cs = [.int .i64 xs[k].1, .int .i64 xs[k].2] := h3
  subst h3'
  have e0 := h4 0 _ rfl
  have e1 := h4 1 _ rfl
  simp only [Rep.msg, Nat.add_zero] at e0 e1
  rw [← Nat.add_assoc] at e1
  obtain ⟨y, hy⟩ := h.ints _ _ _ e0.1
  obtain ⟨z, hz⟩ := h.ints _ _ _ e1.1
  exact ⟨g, o, y, z, rfl, h1.1, h1.2, hy, hz, (h.free _ _).trans (e0.2 trivial), (h.free _ _).trans (e1.2 trivial)⟩
theorem Scr.row_at {α : Type} {r : Rep α} (h : Scr lo hi w w') {A : Option Addr} {xs : List (List α)} {k : Nat} (hs : SliceAt r.slice true w lo hi A xs) (hk : k < xs.length) :
    ∃ g o A' c', A = some ⟨g, o, none⟩ ∧ w'.cell? ⟨g, o + k, none⟩ = some (.slice A' xs[k].length c') ∧ xs[k].length ≤ c' ∧ c' ≤ maxLen ∧ SliceAt r true w lo hi A' xs[k] := by
  obtain ⟨g, o, cs, rfl, h1, ⟨v, rfl, A', c', rfl, q1, q2, q3⟩, h4⟩ := AtOn.at_ hs (List.getElem?_eq_getElem hk)
  have e0 := (h4 0 _ rfl).1
  simp only [Rep.slice, Nat.mul_one, Nat.add_zero] at e0
  exact ⟨g, o, A', c', rfl, h.slices _ _ _ _ _ e0, q1, q2, q3⟩
end
section
variable {P : Program} {Q : Exit → Act → World → Prop} {md : Region.Mode}
/-- Three may come up. -/
theorem wpAny_threeM (i j k m1 m2 m3 : Nat) {M : Nat} {wM : World} {l : List Oper} {fuel mask : Nat} {a : Act} {w : World} (hin : edgesIn l = true) (hr : (readyM mask (l.map (edgeMask md)) 0 == [i, j, k]) = true) (hil : i < l.length) (hjl : j < l.length) (hkl : k < l.length) (hm1 : mask ||| 2 ^ i = m1) (hm2 : mask ||| 2 ^ j = m2) (hm3 : mask ||| 2 ^ k = m3)
    (h1 : wpList P l.toArray (stepQ fun a w => (M.testBit i = true → Ext wM w) ∧ wpAnyM P md l.toArray Q M wM fuel (arrM l.length m1) a w) [l.getD i default] a w)
    (h2 : wpList P l.toArray (stepQ fun a w => (M.testBit j = true → Ext wM w) ∧ wpAnyM P md l.toArray Q M wM fuel (arrM l.length m2) a w) [l.getD j default] a w)
    (h3 : wpList P l.toArray (stepQ fun a w => (M.testBit k = true → Ext wM w) ∧ wpAnyM P md l.toArray Q M wM fuel (arrM l.length m3) a w) [l.getD k default] a w) : wpAnyM P md l.toArray Q M wM (fuel + 1) (arrM l.length mask) a w := by
  subst hm1 hm2 hm3
  have hr' := beq_iff_eq.1 hr
  rw [← ready_arrM l mask hin] at hr'
  refine wpAnyM_all hr' (by simp) (fun x hx => ?_)
  simp only [List.mem_cons, List.not_mem_nil, or_false] at hx
  rcases hx with rfl | rfl | rfl
  · exact oneM hil h1
  · exact oneM hjl h2
  · exact oneM hkl h3
theorem name_any {M : Nat} {wM : World} {ops : Array Oper} {fuel : Nat} {li : Array Bool} {a : Act} {w : World} (h : ∀ W, w = W → wpAnyM P md ops Q M wM fuel li a W) : wpAnyM P md ops Q M wM fuel li a w := h w rfl
end
/-- A piece in blocks that are there. -/
def Fix (w : World) (lo hi : Nat) (v : Value) (p : Pc.Piece) : Prop := PieceIs true w lo hi v p ∧ hi ≤ w.heap.size
theorem Fix.next {w w' : World} {lo hi : Nat} {v : Value} {p : Pc.Piece} (h : Fix w lo hi v p) (hb : Below w.heap.size w w') : Fix w' lo hi v p := ⟨h.1.below hb h.2, Nat.le_trans h.2 hb.size⟩
/-- Two boxes: a copy in blocks of its own; another one. -/
def Sides (p : Pc.Piece) (W1 : World) (u9 u10 : Value) (w : World) : Prop :=
  ∃ (b9 b10 lo9 hi9 lo10 hi10 : Nat) (A3 A4 A5 B3 B4 B5 : Option Addr) (a3 a4 a5 c3 c4 c5 : Nat), u9 = .pointer (some ⟨b9, 0, none⟩) ∧ u10 = .pointer (some ⟨b10, 0, none⟩) ∧
    Box w b9 #[.int .i64 p.node, .int .i64 p.state, .int .i64 p.steps, .slice A3 p.sent.length a3, .slice A4 p.inn.length a4, .slice A5 p.out.length a5] 26 ∧
    Box w b10 #[.int .i64 p.node, .int .i64 p.state, .int .i64 p.steps, .slice B3 p.sent.length c3, .slice B4 p.inn.length c4, .slice B5 p.out.length c5] 26 ∧
    PieceIs true w lo9 hi9 (.agg #[.int .i64 p.node, .int .i64 p.state, .int .i64 p.steps, .slice A3 p.sent.length a3, .slice A4 p.inn.length a4, .slice A5 p.out.length a5]) p ∧
    PieceIs true w lo10 hi10 (.agg #[.int .i64 p.node, .int .i64 p.state, .int .i64 p.steps, .slice B3 p.sent.length c3, .slice B4 p.inn.length c4, .slice B5 p.out.length c5]) p ∧
    W1.heap.size ≤ lo9 ∧ hi9 ≤ lo10 ∧ hi10 ≤ w.heap.size ∧ (b9 < lo9 ∨ hi9 ≤ b9) ∧ (b10 < lo9 ∨ hi9 ≤ b10) ∧ Below W1.heap.size W1 w
theorem Sides.of {p : Pc.Piece} {W1 w : World} {b9 b10 lo9 hi9 lo10 hi10 : Nat} {z0 z1 z2 z3 z4 z5 y0 y1 y2 y3 y4 y5 : Value} {A3 A4 A5 B3 B4 B5 : Option Addr} {a3 a4 a5 c3 c4 c5 : Nat} (x9 : Box w b9 #[z0, z1, z2, z3, z4, z5] 26) (x10 : Box w b10 #[y0, y1, y2, y3, y4, y5] 26)
    (ha : Fix w lo9 hi9 (.agg #[.int .i64 p.node, .int .i64 p.state, .int .i64 p.steps, .slice A3 p.sent.length a3, .slice A4 p.inn.length a4, .slice A5 p.out.length a5]) p)
    (hb : Fix w lo10 hi10 (.agg #[.int .i64 p.node, .int .i64 p.state, .int .i64 p.steps, .slice B3 p.sent.length c3, .slice B4 p.inn.length c4, .slice B5 p.out.length c5]) p)
    (hne : b9 ≠ b10) (d1 : b9 < lo9 ∨ hi9 ≤ b9) (d2 : b9 < lo10 ∨ hi10 ≤ b9) (d3 : b10 < lo9 ∨ hi9 ≤ b10) (d4 : b10 < lo10 ∨ hi10 ≤ b10) (h1 : W1.heap.size ≤ b9) (h2 : W1.heap.size ≤ b10) (h3 : W1.heap.size ≤ lo9) (h4 : hi9 ≤ lo10) (hB : Below W1.heap.size W1 w) :
    Sides p W1 (.pointer (some ⟨b9, 0, none⟩)) (.pointer (some ⟨b10, 0, none⟩)) (wsix (wsix w b9 (.int .i64 p.node) (.int .i64 p.state) (.int .i64 p.steps) (.slice A3 p.sent.length a3) (.slice A4 p.inn.length a4) (.slice A5 p.out.length a5)) b10 (.int .i64 p.node) (.int .i64 p.state) (.int .i64 p.steps) (.slice B3 p.sent.length c3) (.slice B4 p.inn.length c4) (.slice B5 p.out.length c5)) := by
  refine ⟨b9, b10, lo9, hi9, lo10, hi10, A3, A4, A5, B3, B4, B5, a3, a4, a5, c3, c4, c5, rfl, rfl, (six_box x9).six_far hne, six_box (x10.six_far (Ne.symm hne)), ?_, ?_, h3, h4, by rw [six_size, six_size]; exact hb.2, d1, d3, six_below' (six_below' hB h1) h2⟩
  · exact (ha.1.keep fun b k1 k2 => six_far (b := b9) (by omega)).keep fun b k1 k2 => six_far (b := b10) (by omega)
  · exact (hb.1.keep fun b k1 k2 => six_far (b := b9) (by omega)).keep fun b k1 k2 => six_far (b := b10) (by omega)
end Go.Proofs.Ytdfgnmdofjhnkaa
