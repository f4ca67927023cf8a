/- Arguments of a law that read as lists, lists of lists, pieces. Nothing of the program. -/
import Derived.Test.YtmbilaepeekglaaFrame
import Derived.Test.YtmbilaepeekglaaPRep
import Derived.Test.YtmbilaepeekglaaApp
import Derived.Deep.Slices
import Derived.ChangeArms
namespace Go.Proofs.Ytmbilaepeekglaa
open Go.ChangeShapes Go.WideShapes Go.ChangeAt Go.RowKit
section
variable {H : Type} {enc : TypeId × Value → H} {P : Program} {W : World} {α : Type} {r : Rep α} {t e : TypeId}

/-- Cells of type t that were read ahead of the call read as r says. -/
def Opens (enc : TypeId × Value → H) (P : Program) (W : World) (t : TypeId) (r : Rep α) : Prop :=
  ∀ (fuel : Nat) (cs : List Value) (x : DataW H × List MemPlace), DataW.trod enc P W 0 (fun _ => true) true fuel t cs = some x → ∃ a, r.is false W (rng 0 W.heap.size) cs a

theorem opens_int (ht : P.underlying t = some (.int .i64)) : Opens enc P W t Rep.int := by
  intro fuel cs x h
  obtain ⟨n, rfl, _⟩ := DataW.trod_int ht h
  exact ⟨n, rfl⟩
theorem addr_form {a : Addr} {u : Value} (h : W.cell? a = some u) : a = ⟨a.block, a.off, none⟩ := by
  obtain ⟨b, o, s⟩ := a
  cases s with
  | none => rfl
  | some s =>
    exfalso
    unfold World.cell? at h
    split at h <;> simp at h
theorem all_opens (ho : Opens enc P W e r) (hc : P.cellsOf e = r.size) {a : Addr} {n : Nat} {D : Nat → DataW H} {Pl : Nat → List MemPlace} : ∀ (m k : Nat),
    (∀ i, i < k + m → ∃ cs', W.cells? 0 (a.add (i * P.cellsOf e)) (P.cellsOf e) = some cs' ∧ DataW.trod enc P W 0 (fun _ => true) true n e cs' = some (D i, Pl i)) →
    ∃ cells xs, r.all false W (rng 0 W.heap.size) cells xs ∧ xs.length = m ∧ ∀ j u, cells[j]? = some u → W.cell? ((a.add (k * r.size)).add j) = some u := by
  intro m
  induction m with
  | zero => intro k _; exact ⟨[], [], rfl, rfl, fun j u h => by simp at h⟩
  | succ m ih =>
    intro k h
    obtain ⟨cs, h1, h2⟩ := h k (by omega)
    obtain ⟨x, hx⟩ := ho _ _ _ h2
    obtain ⟨cells, xs, h3, h4, h5⟩ := ih (k + 1) (fun i hi => h i (by omega))
    obtain ⟨_, hl, hat⟩ := World.cells?_some h1
    rw [hc] at hl hat
    refine ⟨cs ++ cells, x :: xs, ⟨cs, cells, rfl, hx, h3⟩, by simp [h4], fun j u hj => ?_⟩
    by_cases hjl : j < cs.length
    · rw [List.getElem?_append_left hjl] at hj
      rw [hat j (by omega)]; exact hj
    · rw [List.getElem?_append_right (by omega)] at hj
      have := h5 _ _ hj
      rw [Go.Deep.add_add] at this ⊢
      rw [show (k + 1) * r.size + (j - cs.length) = k * r.size + j from by rw [Nat.succ_mul]; omega] at this
      exact this
theorem opens_slice (ht : P.underlying t = some (.slice e)) (hc : P.cellsOf e = r.size) (ho : Opens enc P W e r) : Opens enc P W t r.slice := by
  intro fuel cs x h
  rcases Go.Deep.open_slice ht h with ⟨rfl, _⟩ | ⟨a, len, cap, m, n, D, Pl, rfl, _, hl, hm, hmm, _, hel⟩
  · exact ⟨[], _, rfl, SliceOn.none_⟩
  · have hlm : len ≤ m := by rw [hmm]; simpa using hl
    obtain ⟨cells, xs, h1, h2, h3⟩ := all_opens ho hc len 0 (fun i hi => hel i (by omega))
    rw [Nat.zero_mul] at h3
    subst h2
    refine ⟨xs, _, rfl, some a, cap, rfl, hl, hm, cells, h1, fun hpos => ?_⟩
    have hlen := Rep.all_len h1
    have hpos2 : 0 < cells.length := by rw [hlen]; exact Nat.mul_pos hpos r.pos
    have h0 := h3 0 cells[0] (by simp)
    have h0 : W.cell? a = some cells[0] := by simpa [Addr.add] using h0
    have ha := addr_form h0
    have hblk : a.block < W.heap.size := World.block_lt_of_cell? W _ h0
    refine ⟨a.block, a.off, by rw [← ha], ⟨Nat.zero_le _, hblk⟩, fun j u hj => ⟨?_, fun h => by cases h⟩⟩
    have := h3 j u hj
    rw [Go.Deep.add_add, Nat.zero_add, ha, add_at] at this
    exact this
theorem opens_msg {f0 f1 : Field} (hs : P.underlying t = some (.struct #[f0, f1])) (h0 : P.underlying f0.type = some (.int .i64)) (h1 : P.underlying f1.type = some (.int .i64)) (hc : P.cellsOf t = 2) (o0 : f0.offset = 0) (o1 : f1.offset = 1) (c0 : P.cellsOf f0.type = 1) (c1 : P.cellsOf f1.type = 1) :
    Opens enc P W t Rep.msg := by
  intro fuel cs x h
  obtain ⟨xs, n, _, _, hl, hxl, hf⟩ := DataW.trod_struct hs h
  rw [hc] at hl
  match cs, hl, xs, hxl with
  | [u0, u1], _, [x0, x1], _ =>
    have e0 := hf 0 f0 rfl
    have e1 := hf 1 f1 rfl
    rw [o0, c0] at e0
    rw [o1, c1] at e1
    obtain ⟨a, ha, _⟩ := DataW.trod_int h0 e0
    obtain ⟨b, hb, _⟩ := DataW.trod_int h1 e1
    simp at ha hb
    exact ⟨(a, b), by rw [ha, hb]; rfl⟩
theorem opens_piece {f0 f1 f2 f3 f4 f5 : Field} (hs : P.underlying t = some (.struct #[f0, f1, f2, f3, f4, f5])) (h0 : P.underlying f0.type = some (.int .i64)) (h1 : P.underlying f1.type = some (.int .i64)) (h2 : P.underlying f2.type = some (.int .i64))
    (h3 : Opens enc P W f3.type Rep.int.slice) (h4 : Opens enc P W f4.type Rep.msg.slice.slice) (h5 : Opens enc P W f5.type Rep.int.slice.slice) (hc : P.cellsOf t = 6)
    (o : f0.offset = 0 ∧ f1.offset = 1 ∧ f2.offset = 2 ∧ f3.offset = 3 ∧ f4.offset = 4 ∧ f5.offset = 5) (c : P.cellsOf f0.type = 1 ∧ P.cellsOf f1.type = 1 ∧ P.cellsOf f2.type = 1 ∧ P.cellsOf f3.type = 1 ∧ P.cellsOf f4.type = 1 ∧ P.cellsOf f5.type = 1) :
    Opens enc P W t Rep.piece := by
  obtain ⟨o0, o1, o2, o3, o4, o5⟩ := o
  obtain ⟨c0, c1, c2, c3, c4, c5⟩ := c
  intro fuel cs x h
  obtain ⟨xs, n, _, _, hl, hxl, hf⟩ := DataW.trod_struct hs h
  rw [hc] at hl
  match cs, hl, xs, hxl with
  | [u0, u1, u2, u3, u4, u5], _, [x0, x1, x2, x3, x4, x5], _ =>
    have e0 := hf 0 f0 rfl
    have e1 := hf 1 f1 rfl
    have e2 := hf 2 f2 rfl
    have e3 := hf 3 f3 rfl
    have e4 := hf 4 f4 rfl
    have e5 := hf 5 f5 rfl
    rw [o0, c0] at e0
    rw [o1, c1] at e1
    rw [o2, c2] at e2
    rw [o3, c3] at e3
    rw [o4, c4] at e4
    rw [o5, c5] at e5
    obtain ⟨a0, q0, _⟩ := DataW.trod_int h0 e0
    obtain ⟨a1, q1, _⟩ := DataW.trod_int h1 e1
    obtain ⟨a2, q2, _⟩ := DataW.trod_int h2 e2
    obtain ⟨a3, v3, q3, q3'⟩ := h3 _ _ _ e3
    obtain ⟨a4, v4, q4, q4'⟩ := h4 _ _ _ e4
    obtain ⟨a5, v5, q5, q5'⟩ := h5 _ _ _ e5
    simp at q0 q1 q2 q3 q4 q5
    subst q0 q1 q2 q3 q4 q5
    exact ⟨⟨a0, a1, a2, a3, a4, a5⟩, _, _, _, rfl, q3', q4', q5'⟩
/-- An argument of a struct's type. -/
theorem arg_agg {v : Value} {d : DataW H} {p : List MemPlace} {fs : Array Field} {base : Nat} (hs : P.underlying t = some (.struct fs)) (ho : Opens enc P W t r) (hv : Value.okWide P W .any base t v) (h : DataW.Trod enc P W 0 (fun _ => true) true t v d p) :
    ∃ (cs : List Value) (a : α), v = .agg cs.toArray ∧ r.is false W (rng 0 W.heap.size) cs a := by
  obtain ⟨cs, rfl, _⟩ := okWide_struct hs hv
  obtain ⟨fuel, hf⟩ := h
  obtain ⟨a, ha⟩ := ho _ _ _ hf
  exact ⟨cs.toList, a, by simp, ha⟩
/-- An argument that is a slice. -/
theorem arg_slice {v : Value} {d : DataW H} {p : List MemPlace} {base : Nat} (ht : P.underlying t = some (.slice e)) (ho : Opens enc P W t r.slice) (hv : Value.okWide P W .any base t v) (h : DataW.Trod enc P W 0 (fun _ => true) true t v d p) :
    ∃ xs : List α, SliceIs r false W 0 W.heap.size v xs := by
  obtain ⟨a0, len, cap, rfl⟩ := okWide_slice ht hv
  obtain ⟨fuel, hf⟩ := h
  obtain ⟨xs, v, hv, hs⟩ := ho _ _ _ hf
  simp [Value.cells] at hv
  subst hv
  exact ⟨xs, hs⟩
end
end Go.Proofs.Ytmbilaepeekglaa
