/- Rows that are written in place; what lies behind them stays. -/
import Derived.Test.YtmbilaepeekglaaHRow
namespace Go.Proofs.Ytmbilaepeekglaa
open Go.RowKit

/-- v: n elements of m cells each, in a block of B .. hi, which may be written. -/
def Pad (w : World) (B hi : Nat) (v : Value) (n m : Nat) : Prop :=
  n = 0 ∨ ∃ g cap cur e, v = .slice (some ⟨g, 0, none⟩) n cap ∧ B ≤ g ∧ g < hi ∧ w.heap[g]? = some (.cells cur e (0, 0)) ∧ n * m ≤ cur.size
theorem Pad.of {α : Type} {r : Rep α} {e : TypeId} {B : Nat} {w : World} {b : Option Nat} {v : Value} {xs : List α} (h : Row r e B w b v xs) : Pad w B w.heap.size v xs.length r.size := by
  obtain ⟨cells, ⟨h1, h2⟩, _, h3⟩ := h
  rcases h2 with ⟨_, h0⟩ | ⟨g, cap, cur, hv, hg, hh, hn, hc, hs, _⟩
  · exact .inl h0
  · exact .inr ⟨g, cap, cur, e, hv, hg, lt_of_block hh, hh, by rw [hs]; exact Nat.mul_le_mul_right _ hn⟩
theorem Pad.keep {w w' : World} {B hi n m : Nat} {v : Value} (h : Pad w B hi v n m) (hk : ∀ b, B ≤ b → b < hi → w'.heap[b]? = w.heap[b]?) : Pad w' B hi v n m := by
  rcases h with h | ⟨g, cap, cur, e, hv, h1, h2, hh, hs⟩
  · exact .inl h
  · exact .inr ⟨g, cap, cur, e, hv, h1, h2, (hk g h1 h2).trans hh, hs⟩
theorem Pad.get {w : World} {B hi n m c : Nat} {A : Option Addr} (h : Pad w B hi (.slice A n c) n m) (hn : 0 < n) : ∃ g, A = some ⟨g, 0, none⟩ ∧ B ≤ g ∧ g < hi ∧ (∀ i, i < n * m → ∃ u, w.cell? ⟨g, i, none⟩ = some u) ∧ (∀ i, w.frozen? ⟨g, i, none⟩ = false) := by
  rcases h with h | ⟨g, cap, cur, e, hv, h1, h2, hh, hs⟩
  · omega
  · cases hv
    refine ⟨g, rfl, h1, h2, fun i hi => ?_, fun i => by simp [World.frozen?, hh]⟩
    rw [blk_cell hh i]
    exact ⟨cur[i]'(by omega), by simp [Array.getElem?_eq_getElem (show i < cur.size by omega)]⟩
theorem Pad.set {w : World} {B hi n m c g : Nat} (h : Pad w B hi (.slice (some ⟨g, 0, none⟩) n c) n m) (i : Nat) (u : Value) : Pad (w.setCell ⟨g, i, none⟩ u) B hi (.slice (some ⟨g, 0, none⟩) n c) n m := by
  rcases h with h | ⟨g', cap, cur, e, hv, h1, h2, hh, hs⟩
  · exact .inl h
  · cases hv
    exact .inr ⟨g, c, _, e, rfl, h1, h2, blk_set hh i u, by simpa using hs⟩
/-- From block k on all is as it was. -/
def Kp (k : Nat) (W w : World) : Prop := w.heap.size = W.heap.size ∧ ∀ b, k ≤ b → w.heap[b]? = W.heap[b]?
theorem Kp.refl (k : Nat) (W : World) : Kp k W W := ⟨rfl, fun _ _ => rfl⟩
theorem Kp.set {k : Nat} {W w : World} (h : Kp k W w) {p : Addr} (hp : p.block < k) (u : Value) : Kp k W (w.setCell p u) :=
  ⟨by simpa [World.setCell] using h.1, fun b hb => (heap_setCell_other _ _ _ _ (by omega)).trans (h.2 b hb)⟩
theorem Kp.up {k k' : Nat} {W w : World} (h : Kp k W w) (hk : k ≤ k') : Kp k' W w := ⟨h.1, fun b hb => h.2 b (Nat.le_trans hk hb)⟩
theorem Kp.trans {k : Nat} {a b c : World} (h : Kp k a b) (h' : Kp k b c) : Kp k a c := ⟨h'.1.trans h.1, fun x hx => (h'.2 x hx).trans (h.2 x hx)⟩
theorem Kp.slice {α : Type} {r : Rep α} {fr : Bool} {k lo hi : Nat} {W w : World} {v : Value} {xs : List α} (h : Kp k W w) (hs : SliceIs r fr W lo hi v xs) (hlo : k ≤ lo) : SliceIs r fr w lo hi v xs := hs.keep fun b h1 _ => h.2 b (by omega)
theorem Kp.pad {k B hi n m : Nat} {W w : World} {v : Value} (h : Kp k W w) (hp : Pad W B hi v n m) (hB : k ≤ B) : Pad w B hi v n m := hp.keep fun b h1 _ => h.2 b (by omega)
theorem Kp.box {k g : Nat} {W w : World} {cs : Array Value} {T : TypeId} (h : Kp k W w) (hb : Box W g cs T) (hg : k ≤ g) : Box w g cs T := (h.2 g hg).trans hb
/-- A slice of a row, in blocks that are there. -/
def Lies {α : Type} (r : Rep α) (k : Nat) (w : World) (v : Value) (xs : List α) : Prop := ∃ lo hi, k ≤ lo ∧ hi ≤ w.heap.size ∧ SliceIs r false w lo hi v xs
section
variable {α : Type} {r : Rep α} {k : Nat} {w w' : World} {v : Value} {xs : List α}
theorem Lies.next (h : Lies r k w v xs) (hb : Below w.heap.size w w') : Lies r k w' v xs := by
  obtain ⟨lo, hi, h1, h2, h3⟩ := h
  exact ⟨lo, hi, h1, Nat.le_trans h2 hb.size, h3.below hb h2⟩
theorem Lies.kp (h : Lies r k w v xs) (hk : Kp k w w') : Lies r k w' v xs := by
  obtain ⟨lo, hi, h1, h2, h3⟩ := h
  exact ⟨lo, hi, h1, by rw [hk.1]; exact h2, hk.slice h3 h1⟩
theorem Lies.got (h : Lies r k w v xs) : SliceIs r false w 0 w.heap.size v xs := by
  obtain ⟨lo, hi, h1, h2, h3⟩ := h
  exact h3.widen (Nat.zero_le _) h2
theorem Lies.of {fr : Bool} {lo : Nat} (h : SliceIs r fr w lo w.heap.size v xs) (hk : k ≤ lo) : Lies r k w v xs := ⟨lo, _, hk, Nat.le_refl _, h.soft⟩
end
theorem Pad.next {w w' : World} {B hi n m : Nat} {v : Value} (h : Pad w B hi v n m) (hb : Below w.heap.size w w') (hh : hi ≤ w.heap.size) : Pad w' B hi v n m := h.keep fun b _ h2 => hb.block b (by omega)
theorem cell_next {w w' : World} {g o : Nat} {u : Value} (h : w.cell? ⟨g, o, none⟩ = some u) (hb : Below w.heap.size w w') (hg : g < w.heap.size) : w'.cell? ⟨g, o, none⟩ = some u := (cell_of_block (hb.block g hg)).trans h
end Go.Proofs.Ytmbilaepeekglaa
