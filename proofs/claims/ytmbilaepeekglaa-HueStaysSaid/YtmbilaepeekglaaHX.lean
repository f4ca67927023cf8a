/- Lemmas of other texts. -/
import Derived.Test.YtmbilaepeekglaaProg
import Derived.Test.YtmbilaepeekglaaPRep
import Derived.Test.YtmbilaepeekglaaAcc
import Derived.Test.YtmbilaepeekglaaPDec
import Derived.Deep.DeepCutAuto
import Derived.Deep.RegionHeld3
import Derived.Deep.RegionLaw
import Derived.Deep.DrawnRows
import Derived.Deep.CutBlock
import Derived.Laws.EntriesVeiled
namespace Go.Proofs.Ytmbilaepeekglaa
open Go.RowKit
theorem below_2 (w : World) (o o' : Obj) : Below w.heap.size w ((w.alloc o).alloc o') := ((Below.refl _ _).alloc (Nat.le_refl _) o).alloc (by simp) o'
theorem Try.infoInt : (Try.prog.info? 3).map (fun i => (i.zero, i.size, i.bytes)) = some (some (.int .i64 0), 1, 8) := by kernel_rfl
theorem Try.infoMsg : (Try.prog.info? 54).map (fun i => (i.zero, i.size, i.bytes)) = some (some (.agg #[.int .i64 0, .int .i64 0]), 2, 16) := by kernel_rfl
theorem Try.infoInts : (Try.prog.info? 23).map (fun i => (i.zero, i.size, i.bytes)) = some (some (.slice none 0 0), 1, 24) := by kernel_rfl
theorem Try.infoMsgs : (Try.prog.info? 24).map (fun i => (i.zero, i.size, i.bytes)) = some (some (.slice none 0 0), 1, 24) := by kernel_rfl
theorem grown_trans {a b c : World} {row : Option Nat} (h : a.grownBy b row) (h2 : b.grownBy c row) : a.grownBy c row :=
  ⟨h2.os.trans h.os, h2.tape.trans h.tape, h2.output.trans h.output, Nat.le_trans h.size h2.size, fun k hk hne => (h2.block k (Nat.lt_of_lt_of_le hk h.size) hne).trans (h.block k hk hne)⟩
theorem set_slice {α : Type} {r : Rep α} {fr : Bool} {w : World} {lo hi : Nat} {v : Value} {xs : List α} (h : SliceIs r fr w lo hi v xs) {p : Addr} (hp : p.block < lo) (u : Value) : SliceIs r fr (w.setCell p u) lo hi v xs :=
  h.keep fun b h1 _ => heap_setCell_other _ _ _ _ (by omega)
theorem grown_of_below {a w : World} {row : Option Nat} (h : Below a.heap.size a w) : a.grownBy w row := ⟨h.os, h.tape, h.output, h.size, fun i hi _ => h.block i hi⟩
theorem grown_set {w : World} {g : Nat} (u : Value) : w.grownBy (w.setCell ⟨g, 0, none⟩ u) (some g) :=
  ⟨rfl, rfl, rfl, by simp [World.setCell], fun k hk hne => heap_setCell_other _ _ _ _ (by rintro rfl; exact hne rfl)⟩
theorem grown_keep {w w' : World} {g b : Nat} (h : w.grownBy w' (some g)) (hb : b < w.heap.size) (hne : b ≠ g) : w'.heap[b]? = w.heap[b]? := h.block b hb (fun e => hne (by injection e))
theorem blk_set {w : World} {g : Nat} {cs : Array Value} {t : TypeId} (h : w.heap[g]? = some (.cells cs t (0, 0))) (i : Nat) (u : Value) : (w.setCell ⟨g, i, none⟩ u).heap[g]? = some (.cells (cs.setIfInBounds i u) t (0, 0)) := by
  simp [World.setCell, Array.getElem?_modify, h]
theorem blk_cell {w : World} {g : Nat} {cs : Array Value} {t : TypeId} (h : w.heap[g]? = some (.cells cs t (0, 0))) (i : Nat) : w.cell? ⟨g, i, none⟩ = cs[i]? := cell_of_row w g i cs t (0, 0) h
section
variable {w : World} {g : Nat}
theorem setCell_at {o : Nat} {u u0 : Value} (h : w.cell? ⟨g, o, none⟩ = some u0) : (w.setCell ⟨g, o, none⟩ u).cell? ⟨g, o, none⟩ = some u := by
  unfold World.cell? at h ⊢
  cases hb : w.heap[g]? with
  | none => rw [hb] at h; cases h
  | some x =>
    rw [hb] at h
    cases x <;> dsimp only at h <;> try (cases h; done)
    case cells c e fr =>
      simp only [Option.isSome_none, Bool.false_eq_true, if_false] at h
      have hlt : o < c.size := (Array.getElem?_eq_some_iff.1 h).1
      have hg : g < w.heap.size := (Array.getElem?_eq_some_iff.1 hb).1
      have e1 : (w.setCell ⟨g, o, none⟩ u).heap[g]? = some (.cells (c.setIfInBounds o u) e fr) := by
        unfold World.setCell
        have := Array.getElem?_eq_some_iff.1 hb
        simp [Array.getElem?_modify, hb]
      rw [e1]
      simp [hlt]
theorem setCell_ne {o o' : Nat} {u : Value} (h : o' ≠ o) : (w.setCell ⟨g, o, none⟩ u).cell? ⟨g, o', none⟩ = w.cell? ⟨g, o', none⟩ := by
  unfold World.cell?
  have e : (w.setCell ⟨g, o, none⟩ u).heap[g]? = (w.heap[g]?).map fun x => match x with | .cells c e fr => .cells (c.setIfInBounds o u) e fr | x => x := by
    unfold World.setCell
    simp [Array.getElem?_modify]
    cases w.heap[g]? with
    | none => rfl
    | some x => cases x <;> rfl
  rw [e]
  cases w.heap[g]? with
  | none => rfl
  | some x => cases x <;> simp [Ne.symm h]
theorem setCell_free {o o' : Nat} {u : Value} : (w.setCell ⟨g, o, none⟩ u).frozen? ⟨g, o', none⟩ = w.frozen? ⟨g, o', none⟩ := by
  unfold World.frozen?
  have e : (w.setCell ⟨g, o, none⟩ u).heap[g]? = (w.heap[g]?).map fun x => match x with | .cells c e fr => .cells (c.setIfInBounds o u) e fr | x => x := by
    unfold World.setCell
    simp [Array.getElem?_modify]
    cases w.heap[g]? with
    | none => rfl
    | some x => cases x <;> rfl
  rw [e]
  cases w.heap[g]? with
  | none => rfl
  | some x => cases x <;> rfl
end

/-- Blocks above gp have not turned. -/
def Keeps (gp : Nat) (w w' : World) : Prop := w.heap.size ≤ w'.heap.size ∧ ∀ b, gp < b → b < w.heap.size → w'.heap[b]? = w.heap[b]?
theorem Keeps.trans {gp : Nat} {a b c : World} (h : Keeps gp a b) (h' : Keeps gp b c) : Keeps gp a c :=
  ⟨Nat.le_trans h.1 h'.1, fun k h1 h2 => (h'.2 k h1 (Nat.lt_of_lt_of_le h2 h.1)).trans (h.2 k h1 h2)⟩
theorem Keeps.set_ (gp i : Nat) (w : World) (u : Value) : Keeps gp w (w.setCell ⟨gp, i, none⟩ u) := ⟨by simp [World.setCell], fun b h1 _ => heap_setCell_other _ _ _ _ (by simp; omega)⟩
theorem Keeps.set' {gp : Nat} {w w' : World} (h : Keeps gp w w') {p : Addr} (hp : p.block ≤ gp) (u : Value) : Keeps gp w (w'.setCell p u) :=
  ⟨by have := h.1; simpa [World.setCell] using this, fun b h1 h2 => (heap_setCell_other _ _ _ _ (by omega)).trans (h.2 b h1 h2)⟩
theorem below_only {w w' : World} (h : w.grownBy w' (some w.heap.size)) : Below w.heap.size w w' := ⟨h.os, h.tape, h.output, h.size, fun i hi => h.block i hi (fun e => by injection e; omega)⟩
section
variable {w : World} {R : Nat} {T : TypeId} {a b c d e f : Value}
theorem six_cells (h : w.heap[R]? = some (.cells #[a, b, c, d, e, f] T (0, 0))) : w.cell? ⟨R, 0, none⟩ = some a ∧ w.cell? ⟨R, 1, none⟩ = some b ∧ w.cell? ⟨R, 2, none⟩ = some c ∧ w.cell? ⟨R, 3, none⟩ = some d ∧ w.cell? ⟨R, 4, none⟩ = some e ∧ w.cell? ⟨R, 5, none⟩ = some f :=
  ⟨blk_cell h 0, blk_cell h 1, blk_cell h 2, blk_cell h 3, blk_cell h 4, blk_cell h 5⟩
theorem six_free (h : w.heap[R]? = some (.cells #[a, b, c, d, e, f] T (0, 0))) : w.frozen? ⟨R, 0, none⟩ = false ∧ w.frozen? ⟨R, 1, none⟩ = false ∧ w.frozen? ⟨R, 2, none⟩ = false ∧ w.frozen? ⟨R, 3, none⟩ = false ∧ w.frozen? ⟨R, 4, none⟩ = false ∧ w.frozen? ⟨R, 5, none⟩ = false := by
  have k : ∀ i, w.frozen? ⟨R, i, none⟩ = false := fun i => by simp [World.frozen?, h]
  exact ⟨k 0, k 1, k 2, k 3, k 4, k 5⟩
theorem six_set (h : w.heap[R]? = some (.cells #[a, b, c, d, e, f] T (0, 0))) (a' b' c' d' e' f' : Value) :
    ((((((w.setCell ⟨R, 0, none⟩ a').setCell ⟨R, 1, none⟩ b').setCell ⟨R, 2, none⟩ c').setCell ⟨R, 3, none⟩ d').setCell ⟨R, 4, none⟩ e').setCell ⟨R, 5, none⟩ f').heap[R]? = some (.cells #[a', b', c', d', e', f'] T (0, 0)) :=
  blk_set (blk_set (blk_set (blk_set (blk_set (blk_set h 0 a') 1 b') 2 c') 3 d') 4 e') 5 f'
theorem six_below {B : Nat} {w0 : World} (h : Below B w0 w) (hR : B ≤ R) (a' b' c' d' e' f' : Value) :
    Below B w0 ((((((w.setCell ⟨R, 0, none⟩ a').setCell ⟨R, 1, none⟩ b').setCell ⟨R, 2, none⟩ c').setCell ⟨R, 3, none⟩ d').setCell ⟨R, 4, none⟩ e').setCell ⟨R, 5, none⟩ f') :=
  (((((h.setCell hR _).setCell hR _).setCell hR _).setCell hR _).setCell hR _).setCell hR _
theorem six_keeps {gp : Nat} {w0 : World} (h : Keeps gp w0 w) (hR : R ≤ gp) (a' b' c' d' e' f' : Value) :
    Keeps gp w0 ((((((w.setCell ⟨R, 0, none⟩ a').setCell ⟨R, 1, none⟩ b').setCell ⟨R, 2, none⟩ c').setCell ⟨R, 3, none⟩ d').setCell ⟨R, 4, none⟩ e').setCell ⟨R, 5, none⟩ f') :=
  (((((h.set' hR _).set' hR _).set' hR _).set' hR _).set' hR _).set' hR _
end
theorem Keeps.below {gp : Nat} {w w' : World} (h : Below w.heap.size w w') : Keeps gp w w' := ⟨h.size, fun b _ h2 => h.block b h2⟩
theorem Keeps.slice {gp : Nat} {w w' : World} {α : Type} {r : Rep α} {fr : Bool} {lo hi : Nat} {v : Value} {xs : List α} (h : Keeps gp w w') (hs : SliceIs r fr w lo hi v xs) (hlo : gp < lo) (hhi : hi ≤ w.heap.size) : SliceIs r fr w' lo hi v xs :=
  hs.keep fun b h1 h2 => h.2 b (by omega) (by omega)

theorem grown_slice {α : Type} {r : Rep α} {fr : Bool} {w w' : World} {lo hi g : Nat} {v : Value} {xs : List α} (h : SliceIs r fr w lo hi v xs) (hg : w.grownBy w' (some g)) (hlo : g < lo) (hhi : hi ≤ w.heap.size) : SliceIs r fr w' lo hi v xs :=
  h.keep fun b h1 h2 => grown_keep hg (by omega) (by omega)


theorem below_drewL {B : Nat} {w w' : World} (h : Below B w w') : Below B w.drew w' := ⟨h.os, h.tape, h.output, h.size, h.block⟩
section
variable {P : Program} {w : World} {ops : Array Oper} {o : Oper} {a : Act} {Q : Exit → Act → World → Prop}
theorem step_accB {α : Type} {r : Rep α} {w0 : World} {xs : List α} {y : α} {K : Act → World → Prop} {E : Prop} (hgd : o.guard = none) (s x : Operand) (t : TypeId) (ho : o.op = .call { callee := .builtin .append, args := #[s, x], argTypes := #[t, t] })
    (B : Nat) (e : TypeId) {z : Value} {bytes : Nat} (hinfo : (P.info? e).map (fun i => (i.zero, i.size, i.bytes)) = some (some z, r.size, bytes)) (ht : P.underlying t = some (.slice e))
    (hzs : z.cells.size = r.size) (hby : bytes ≤ 1000) (v : Value) (hs : a.eval s = v) (hacc : Acc r e B w0 v xs) (hk : ∀ b, B ≤ b → b < w0.heap.size → w.heap[b]? = w0.heap[b]?) (hsz : w0.heap.size ≤ w.heap.size) (hB : B ≤ w0.heap.size)
    (c H : Nat) (cs : List Value) (hx : a.eval x = .slice (some ⟨H, 0, none⟩) 1 c) (hH : w.heap.size = H) (hcs : r.is true w (rng w0.heap.size w.heap.size) cs y) (hn : xs.length ≤ 1000000)
    (h : ∀ v' w', Acc r e B w' v' (xs ++ [y]) → w.grownBy w' v.ownBlock → Below B w w' → K (a.put o.dst v') w') :
    if Region.wanted o (yielded ops a.tmps) = true then Oper.wp P o a (w.alloc (.cells cs.toArray e)) K Q else E := by
  subst hH
  obtain ⟨cells, hown, hnext⟩ := hacc.step hk hsz hB hcs
  have hown' : (w.alloc (.cells cs.toArray e)).ownsRow B e r.size v xs.length cells := hown.alloc _
  refine step_appendB hgd s x t ho B e hinfo ht hzs r.pos v xs.length cells hs hown' _ 1 c cs hx (by rw [r.len hcs]; omega) (Src.block cs e 1) (r.one hcs) (by unfold maxLen; omega) (Nat.le_trans (Nat.mul_le_mul (show xs.length + 1 ≤ 1000001 by omega) hby) (by omega)) (by simp; omega) ?_
  intro v' w' h1 h2 h3 h4
  have h0 := World.grownBy_alloc w (.cells cs.toArray e) v.ownBlock
  have hg : w.grownBy w' v.ownBlock := ⟨h2.os.trans h0.os, h2.tape.trans h0.tape, h2.output.trans h0.output, Nat.le_trans h0.size h2.size, fun k hk hne => (h2.block k (by simp; omega) hne).trans (h0.block k hk hne)⟩
  refine h v' w' (hnext v' w' h1 hg ?_) hg (((Below.refl _ _).alloc (by omega) _).trans h3)
  rcases h4 with h4 | h4
  · exact .inl h4
  · exact .inr ⟨_, h4, by simp⟩
end


namespace Pc
theorem same_no {p q : Piece} (h : ¬ (p.node = q.node ∧ p.state = q.state ∧ p.steps = q.steps ∧ p.sent = q.sent ∧ p.inn = q.inn ∧ p.out = q.out)) : decide (p = q) = false := by
  apply decide_eq_false
  rintro rfl
  exact h ⟨rfl, rfl, rfl, rfl, rfl, rfl⟩
end Pc
end Go.Proofs.Ytmbilaepeekglaa
