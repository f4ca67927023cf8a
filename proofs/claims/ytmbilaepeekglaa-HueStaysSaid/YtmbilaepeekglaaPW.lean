/- Words for long walks: boxes, pieces that are carried from world to world. -/
import Derived.Test.YtmbilaepeekglaaPF
import Derived.Test.YtmbilaepeekglaaPO
import Derived.Test.YtmbilaepeekglaaPS
import Derived.Test.YtmbilaepeekglaaPDec
namespace Go.Proofs.Ytmbilaepeekglaa
open Go.RowKit

theorem name_call {P : Program} {f : FuncId} {args : Array Value} {w : World} {R : Ending → World → Prop} (h : ∀ W, w = W → Calls P f args W R) : Calls P f args w R := h w rfl
theorem name_wp {P : Program} {c : Code} {a : Act} {w : World} {Q : Exit → Act → World → Prop} (h : ∀ W, w = W → Code.wp P c Q a W) : Code.wp P c Q a w := h w rfl

/-- Block b holds these cells. -/
def Box (w : World) (b : Nat) (cs : Array Value) (T : TypeId) : Prop := w.heap[b]? = some (.cells cs T (0, 0))
section
variable {w w' : World} {b : Nat} {cs : Array Value} {T : TypeId} {x0 x1 x2 x3 x4 x5 : Value}
theorem Box.lt (h : Box w b cs T) : b < w.heap.size := lt_of_block h
theorem Box.next (h : Box w b cs T) (hb : Below w.heap.size w w') : Box w' b cs T := (hb.block b h.lt).trans h
theorem Box.six (h : Box w b #[x0, x1, x2, x3, x4, x5] T) : w.cell? ⟨b, 0, none⟩ = some x0 ∧ w.cell? ⟨b, 1, none⟩ = some x1 ∧ w.cell? ⟨b, 2, none⟩ = some x2 ∧ w.cell? ⟨b, 3, none⟩ = some x3 ∧ w.cell? ⟨b, 4, none⟩ = some x4 ∧ w.cell? ⟨b, 5, none⟩ = some x5 := six_cells h
theorem Box.free (h : Box w b #[x0, x1, x2, x3, x4, x5] T) : w.frozen? ⟨b, 0, none⟩ = false ∧ w.frozen? ⟨b, 1, none⟩ = false ∧ w.frozen? ⟨b, 2, none⟩ = false ∧ w.frozen? ⟨b, 3, none⟩ = false ∧ w.frozen? ⟨b, 4, none⟩ = false ∧ w.frozen? ⟨b, 5, none⟩ = false := six_free h
theorem Box.new (w : World) (cs : Array Value) (T : TypeId) : Box (w.alloc (.cells cs T)) w.heap.size cs T := heap_alloc_new _ _
theorem Box.alloc (h : Box w b cs T) (o : Obj) : Box (w.alloc o) b cs T := (heap_alloc_old _ _ h.lt).trans h
/-- A world in which six cells of block b were written. -/
def wsix (w : World) (b : Nat) (a0 a1 a2 a3 a4 a5 : Value) : World := (((((w.setCell ⟨b, 0, none⟩ a0).setCell ⟨b, 1, none⟩ a1).setCell ⟨b, 2, none⟩ a2).setCell ⟨b, 3, none⟩ a3).setCell ⟨b, 4, none⟩ a4).setCell ⟨b, 5, none⟩ a5
variable {a0 a1 a2 a3 a4 a5 : Value}
theorem six_box (h : Box w b #[x0, x1, x2, x3, x4, x5] T) : Box (wsix w b a0 a1 a2 a3 a4 a5) b #[a0, a1, a2, a3, a4, a5] T := six_set h _ _ _ _ _ _
theorem six_far {k : Nat} (hk : k ≠ b) : (wsix w b a0 a1 a2 a3 a4 a5).heap[k]? = w.heap[k]? := by
  have o : ∀ (w0 : World) (i : Nat) (u : Value), (w0.setCell ⟨b, i, none⟩ u).heap[k]? = w0.heap[k]? := fun w0 i u => heap_setCell_other _ _ _ _ hk
  unfold wsix; rw [o, o, o, o, o, o]
theorem six_size : (wsix w b a0 a1 a2 a3 a4 a5).heap.size = w.heap.size := by simp [wsix, World.setCell]
theorem six_below' {B : Nat} {w0 : World} (h : Below B w0 w) (hB : B ≤ b) : Below B w0 (wsix w b a0 a1 a2 a3 a4 a5) := six_below h hB _ _ _ _ _ _
theorem Box.six_far {k : Nat} (h : Box w k cs T) (hk : k ≠ b) : Box (wsix w b a0 a1 a2 a3 a4 a5) k cs T := (Go.Proofs.Ytmbilaepeekglaa.six_far hk).trans h
end
section
variable {fr : Bool} {w w' : World} {lo lo' : Nat} {v : Value} {p : Pc.Piece} {b : Nat} {a0 a1 a2 a3 a4 a5 : Value}
theorem PieceIs.next (h : PieceIs fr w lo w.heap.size v p) (hb : Below w.heap.size w w') : PieceIs fr w' lo w'.heap.size v p := (h.below hb (Nat.le_refl _)).widen (Nat.le_refl _) hb.size
theorem PieceIs.zero_ (h : PieceIs fr w lo w.heap.size v p) : PieceIs false w 0 w.heap.size v p := (h.widen (Nat.zero_le _) (Nat.le_refl _)).soft
theorem PieceIs.six_far (h : PieceIs fr w lo w.heap.size v p) (hk : b < lo) : PieceIs fr (wsix w b a0 a1 a2 a3 a4 a5) lo (wsix w b a0 a1 a2 a3 a4 a5).heap.size v p := by
  rw [six_size]; exact h.keep fun k h1 _ => Go.Proofs.Ytmbilaepeekglaa.six_far (by omega)
end
theorem SliceOn.of_block {α : Type} {r : Rep α} {fr : Bool} {w : World} {S : Nat → Prop} {g n c : Nat} {e : TypeId} {cells : List Value} {xs : List α} (h : w.heap[g]? = some (.cells cells.toArray e (0, 0))) (ha : r.all fr w S cells xs) (hS : S g)
    (hn : n = xs.length) (hl : xs.length ≤ c) (hm : c ≤ maxLen) : SliceOn r fr w S (.slice (some ⟨g, 0, none⟩) n c) xs := by
  subst hn
  refine ⟨_, c, rfl, hl, hm, cells, ha, fun _ => ⟨g, 0, rfl, hS, fun j u hj => ⟨?_, fun _ => by simp [World.frozen?, h]⟩⟩⟩
  rw [Nat.zero_add, cell_of_row w g j cells.toArray e (0, 0) h]
  simpa using hj
theorem str_cut (s : ByteArray) (n : Nat) (k : Nat) (h : k ≤ n) : (s.extract 0 k).size ≤ n := by
  rw [ByteArray.size_extract]; omega
theorem Pc.err_yes {p : Pc.Piece} (h : Pc.right p = true) : Pc.err p = 0 ∧ Pc.enc p = W.puts (Pc.nums p) := by simp [Pc.err, Pc.enc, h]
theorem Pc.err_no {p : Pc.Piece} (h : Pc.right p = false) : Pc.err p = 4 ∧ Pc.enc p = [] := by simp [Pc.err, Pc.enc, h]
theorem bytes_lit (l : List UInt8) : (ByteArray.mk l.toArray).data.toList = l := rfl
end Go.Proofs.Ytmbilaepeekglaa
