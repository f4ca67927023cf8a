/- Lemmas, walks and contracts that the statements of this seat are proved by. -/
import Derived.Test.YtdfgnmdofjhnkaaG21
/- Frames whose lists' numbers are written over. Nothing of the program. -/
namespace Go.Proofs.Ytdfgnmdofjhnkaa
open Go.RowKit

theorem Fr.cut_cut (f : Fr) : Fr.cut (Fr.cut f) = Fr.cut f := by
  have h : ∀ l : List Pc.Piece, (((l.take 7).map Pc.cut).take 7).map Pc.cut = (l.take 7).map Pc.cut := by
    intro l
    rw [← List.map_take, List.take_take, List.map_map]
    apply List.map_congr_left
    intro p _
    exact Pc.cut_cut p
  unfold Fr.cut
  simp only [Fr.mk.injEq, true_and]
  exact ⟨h _, by simp [List.take_take]⟩
section
variable {lo hi : Nat} {w w' : World}
theorem Scr.fr {fr : Bool} {l l' : Nat} {v : Value} {f : Fr} (h : Scr lo hi w w') (hf : FrIs fr w l l' v f) (ho : l' ≤ lo ∨ hi ≤ l) : FrIs fr w' l l' v f :=
  hf.keep fun b h1 h2 => by
    rcases ho with ho | ho
    · exact h.low.block b (by omega)
    · exact h.high b (by omega)
theorem Scr.piece_at (h : Scr lo hi w w') {A : Option Addr} {ps : List Pc.Piece} {k : Nat} (hs : SliceAt Rep.piece true w lo hi A ps) (hk : k < ps.length) :
    ∃ g o y A' c', A = some ⟨g, o, none⟩ ∧ lo ≤ g ∧ g < hi ∧ w'.cell? ⟨g, o + k * 6, none⟩ = some (.int .i64 y) ∧ w'.frozen? ⟨g, o + k * 6, none⟩ = false ∧ w'.cell? ⟨g, o + k * 6 + 3, none⟩ = some (.slice A' ps[k].sent.length c') ∧ ps[k].sent.length ≤ c' ∧ c' ≤ maxLen ∧ SliceAt Rep.int true w lo hi A' ps[k].sent := by
  obtain ⟨g, o, cs, rfl, h1, h3, h4⟩ := AtOn.at_ hs (List.getElem?_eq_getElem hk)
  obtain ⟨a, b, c, rfl, ⟨A', c', rfl, q1, q2, q3⟩, _, _⟩ := h3
  have e0 := h4 0 _ rfl
  have e3 := h4 3 _ rfl
  simp only [Rep.piece, Nat.add_zero] at e0 e3
  rw [← Nat.add_assoc] at e3
  obtain ⟨y, hy⟩ := h.ints _ _ _ e0.1
  exact ⟨g, o, y, A', c', rfl, h1.1, h1.2, hy, (h.free _ _).trans (e0.2 trivial), h.slices _ _ _ _ _ e3.1, q1, q2, q3⟩
end
/-- A frame in blocks that are there. -/
def FixF (fr : Bool) (w : World) (lo hi : Nat) (v : Value) (f : Fr) : Prop := FrIs fr w lo hi v f ∧ hi ≤ w.heap.size
theorem FixF.next {fr : Bool} {w w' : World} {lo hi : Nat} {v : Value} {f : Fr} (h : FixF fr w lo hi v f) (hb : Below w.heap.size w w') : FixF fr w' lo hi v f := ⟨h.1.keep fun b _ q => hb.block b (Nat.lt_of_lt_of_le q h.2), Nat.le_trans h.2 hb.size⟩
/-- A frame whose lists lie in the blocks S, which are there. -/
def FixS (w : World) (S : Nat → Prop) (v : Value) (f : Fr) : Prop := FrOn false w S v f ∧ ∀ b, S b → b < w.heap.size
theorem FixS.next {w w' : World} {S : Nat → Prop} {v : Value} {f : Fr} (h : FixS w S v f) (hb : Below w.heap.size w w') : FixS w' S v f := by
  obtain ⟨⟨A, B, k, l, rfl, h1, h2⟩, h3⟩ := h
  exact ⟨⟨A, B, k, l, rfl, h1.keep fun b q => hb.block b (h3 b q), h2.keep fun b q => hb.block b (h3 b q)⟩, fun b q => Nat.lt_of_lt_of_le (h3 b q) hb.size⟩
/-- Two boxes: a frame whose lists lie in blocks of their own; the same frame, elsewhere. -/
def Sides7 (p : Fr) (W1 : World) (u3 u4 : Value) (w : World) : Prop :=
  ∃ (b3 b4 lo hi lo4 hi4 : Nat) (aA aB cA cB : Option Addr) (ak al ck cl : Nat), u3 = .pointer (some ⟨b3, 0, none⟩) ∧ u4 = .pointer (some ⟨b4, 0, none⟩) ∧
    Box w b3 #[.int .i64 p.kind, .int .i64 p.epoch, .int .i64 p.seq, .int .i64 p.letter, .slice aA p.pieces.length ak, .int .i64 p.init, .int .i64 p.num, .int .i64 p.count, .slice aB p.path.length al] 58 ∧ Box w b4 #[.int .i64 p.kind, .int .i64 p.epoch, .int .i64 p.seq, .int .i64 p.letter, .slice cA p.pieces.length ck, .int .i64 p.init, .int .i64 p.num, .int .i64 p.count, .slice cB p.path.length cl] 64 ∧ FrIs true w lo hi (.agg #[.int .i64 p.kind, .int .i64 p.epoch, .int .i64 p.seq, .int .i64 p.letter, .slice aA p.pieces.length ak, .int .i64 p.init, .int .i64 p.num, .int .i64 p.count, .slice aB p.path.length al]) p ∧ FrIs false w lo4 hi4 (.agg #[.int .i64 p.kind, .int .i64 p.epoch, .int .i64 p.seq, .int .i64 p.letter, .slice cA p.pieces.length ck, .int .i64 p.init, .int .i64 p.num, .int .i64 p.count, .slice cB p.path.length cl]) p ∧
    W1.heap.size ≤ lo ∧ hi ≤ lo4 ∧ hi4 ≤ w.heap.size ∧ hi ≤ w.heap.size ∧ (b3 < lo ∨ hi ≤ b3) ∧ (b4 < lo ∨ hi ≤ b4) ∧ Below W1.heap.size W1 w
theorem Sides7.of {p : Fr} {W1 w : World} {b3 b4 lo hi : Nat} {S : Nat → Prop} {z0 z1 z2 z3 z4 z5 z6 z7 z8 y0 y1 y2 y3 y4 y5 y6 y7 y8 : Value} {aA aB cA cB : Option Addr} {ak al ck cl : Nat} (x3 : Box w b3 #[z0, z1, z2, z3, z4, z5, z6, z7, z8] 58) (x4 : Box w b4 #[y0, y1, y2, y3, y4, y5, y6, y7, y8] 64)
    (ha : FixF true w lo hi (.agg #[.int .i64 p.kind, .int .i64 p.epoch, .int .i64 p.seq, .int .i64 p.letter, .slice aA p.pieces.length ak, .int .i64 p.init, .int .i64 p.num, .int .i64 p.count, .slice aB p.path.length al]) p) (hc : FixS w S (.agg #[.int .i64 p.kind, .int .i64 p.epoch, .int .i64 p.seq, .int .i64 p.letter, .slice cA p.pieces.length ck, .int .i64 p.init, .int .i64 p.num, .int .i64 p.count, .slice cB p.path.length cl]) p)
    (hne : b3 ≠ b4) (d1 : b3 < lo ∨ hi ≤ b3) (d2 : ¬ S b3) (d3 : b4 < lo ∨ hi ≤ b4) (d4 : ¬ S b4) (h1 : W1.heap.size ≤ b3) (h2 : W1.heap.size ≤ b4) (h3 : W1.heap.size ≤ lo) (h4 : ∀ b, S b → hi ≤ b) (hB : Below W1.heap.size W1 w) :
    Sides7 p W1 (.pointer (some ⟨b3, 0, none⟩)) (.pointer (some ⟨b4, 0, none⟩)) (wnine (wnine w b3 (.int .i64 p.kind) (.int .i64 p.epoch) (.int .i64 p.seq) (.int .i64 p.letter) (.slice aA p.pieces.length ak) (.int .i64 p.init) (.int .i64 p.num) (.int .i64 p.count) (.slice aB p.path.length al)) b4 (.int .i64 p.kind) (.int .i64 p.epoch) (.int .i64 p.seq) (.int .i64 p.letter) (.slice cA p.pieces.length ck) (.int .i64 p.init) (.int .i64 p.num) (.int .i64 p.count) (.slice cB p.path.length cl)) := by
  obtain ⟨⟨_, _, _, _, he, q1, q2⟩, q3⟩ := hc
  cases he
  refine ⟨b3, b4, lo, hi, hi, w.heap.size, aA, aB, cA, cB, ak, al, ck, cl, rfl, rfl, (nine_box x3).nine_far hne, nine_box (x4.nine_far (Ne.symm hne)), ?_, ?_, h3, Nat.le_refl _, by rw [nine_size, nine_size]; exact Nat.le_refl _, by rw [nine_size, nine_size]; exact ha.2, d1, d3, nine_below (nine_below hB h1) h2⟩
  · exact (ha.1.keep fun b k1 k2 => nine_far (b := b3) (by omega)).keep fun b k1 k2 => nine_far (b := b4) (by omega)
  · have hne3 : ∀ b, S b → b ≠ b3 := fun b hb he => d2 (he ▸ hb)
    have hne4 : ∀ b, S b → b ≠ b4 := fun b hb he => d4 (he ▸ hb)
    exact ⟨_, _, _, _, rfl, SliceOn.is_ (((q1.keep fun b hb => nine_far (hne3 b hb)).keep fun b hb => nine_far (hne4 b hb)).widen fun b hb => ⟨h4 b hb, q3 b hb⟩), SliceOn.is_ (((q2.keep fun b hb => nine_far (hne3 b hb)).keep fun b hb => nine_far (hne4 b hb)).widen fun b hb => ⟨h4 b hb, q3 b hb⟩)⟩
end Go.Proofs.Ytdfgnmdofjhnkaa
