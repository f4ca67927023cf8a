/- A piece in memory. -/
import Derived.Test.YtmbilaepeekglaaRep
import Derived.Test.YtmbilaepeekglaaPLaw
namespace Go.Proofs.Ytmbilaepeekglaa
open Go.RowKit

@[go_sem high] theorem run_max_ints3 {P : Program} (w : World) (ts : Array TypeId) (t : TypeId) (k k' k'' : IntKind) (x y z : Int) :
    (Builtin.max_ ts t #[.int k x, .int k' y, .int k'' z]).run P w = .ok (.int k (max (max x y) z)) w := by
  have e : ∀ x y : Int, (if y > x then y else x) = max x y := by
    intro x y
    rw [Int.max_def]
    split <;> split <;> omega
  simp [Builtin.max_, Builtin.max2, e]

/-- A piece: six cells. -/
def Rep.piece : Rep Pc.Piece where
  size := 6
  pos := by omega
  is fr w S cs p := ∃ a b c, cs = [.int .i64 p.node, .int .i64 p.state, .int .i64 p.steps, a, b, c] ∧ SliceOn Rep.int fr w S a p.sent ∧ SliceOn Rep.msg.slice fr w S b p.inn ∧ SliceOn Rep.int.slice fr w S c p.out
  len h := by obtain ⟨a, b, c, rfl, _⟩ := h; rfl
  keep h hk := by obtain ⟨a, b, c, rfl, h1, h2, h3⟩ := h; exact ⟨a, b, c, rfl, h1.keep hk, h2.keep hk, h3.keep hk⟩
  widen h k1 := by obtain ⟨a, b, c, rfl, h1, h2, h3⟩ := h; exact ⟨a, b, c, rfl, h1.widen k1, h2.widen k1, h3.widen k1⟩
  soft h := by obtain ⟨a, b, c, rfl, h1, h2, h3⟩ := h; exact ⟨a, b, c, rfl, h1.soft, h2.soft, h3.soft⟩
  one h := by
    obtain ⟨a, b, c, rfl, ⟨_, _, rfl, _⟩, ⟨_, _, rfl, _⟩, ⟨_, _, rfl, _⟩⟩ := h
    intro u hu
    simp at hu
    rcases hu with rfl | rfl | rfl | rfl | rfl | rfl <;> rfl

/-- A piece by value. -/
def PieceIs (fr : Bool) (w : World) (lo hi : Nat) (v : Value) (p : Pc.Piece) : Prop :=
  ∃ a b c, v = .agg #[.int .i64 p.node, .int .i64 p.state, .int .i64 p.steps, a, b, c] ∧ SliceIs Rep.int fr w lo hi a p.sent ∧ SliceIs Rep.msg.slice fr w lo hi b p.inn ∧ SliceIs Rep.int.slice fr w lo hi c p.out

section
variable {fr : Bool} {w w' : World} {lo hi lo' hi' : Nat} {v : Value} {p : Pc.Piece}
theorem PieceIs.keep (h : PieceIs fr w lo hi v p) (hk : ∀ b, lo ≤ b → b < hi → w'.heap[b]? = w.heap[b]?) : PieceIs fr w' lo hi v p := by
  obtain ⟨a, b, c, rfl, h1, h2, h3⟩ := h; exact ⟨a, b, c, rfl, h1.keep hk, h2.keep hk, h3.keep hk⟩
theorem PieceIs.below {B : Nat} (h : PieceIs fr w lo hi v p) (hb : Below B w w') (hB : hi ≤ B) : PieceIs fr w' lo hi v p := h.keep fun b _ h2 => hb.block b (by omega)
theorem PieceIs.widen (h : PieceIs fr w lo hi v p) (k1 : lo' ≤ lo) (k2 : hi ≤ hi') : PieceIs fr w lo' hi' v p := by
  obtain ⟨a, b, c, rfl, h1, h2, h3⟩ := h; exact ⟨a, b, c, rfl, h1.widen k1 k2, h2.widen k1 k2, h3.widen k1 k2⟩
theorem PieceIs.soft (h : PieceIs fr w lo hi v p) : PieceIs false w lo hi v p := by
  obtain ⟨a, b, c, rfl, h1, h2, h3⟩ := h; exact ⟨a, b, c, rfl, h1.soft, h2.soft, h3.soft⟩
theorem PieceIs.of_cells {cs : List Value} (h : Rep.piece.is fr w (rng lo hi) cs p) : PieceIs fr w lo hi (.agg cs.toArray) p := by
  obtain ⟨a, b, c, rfl, h1⟩ := h; exact ⟨a, b, c, rfl, h1⟩
theorem PieceIs.cells (h : PieceIs fr w lo hi v p) : ∃ cs : List Value, v = .agg cs.toArray ∧ Rep.piece.is fr w (rng lo hi) cs p := by
  obtain ⟨a, b, c, rfl, h1⟩ := h; exact ⟨_, rfl, a, b, c, rfl, h1⟩
end
end Go.Proofs.Ytmbilaepeekglaa
