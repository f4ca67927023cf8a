/- A row of eight pieces of the call's own whose fields are written. -/
import Derived.Test.YtdfgnmdofjhnkaaPV
namespace Go.Proofs.Ytdfgnmdofjhnkaa
open Go.RowKit

theorem Pc.cut_cut (p : Pc.Piece) : Pc.cut (Pc.cut p) = Pc.cut p := by
  have h : ∀ {α : Type} (l : List (List α)), (((l.take 7).map (List.take 20)).take 7).map (List.take 20) = (l.take 7).map (List.take 20) := by
    intro α l
    rw [← List.map_take, List.take_take, List.map_map]
    simp [Function.comp_def, List.take_take]
  unfold Pc.cut
  simp only [Pc.Piece.mk.injEq, true_and]
  exact ⟨by simp [List.take_take], h _, h _⟩

def upd {α : Type} (f : Nat → α) (k : Nat) (x : α) : Nat → α := fun i => if i = k then x else f i
theorem upd_at {α : Type} (f : Nat → α) (k : Nat) (x : α) : upd f k x k = x := by simp [upd]
theorem upd_ne {α : Type} (f : Nat → α) {k i : Nat} (x : α) (h : i ≠ k) : upd f k x i = f i := by simp [upd, h]

/-- Every block but g. -/
abbrev butS (w : World) (g : Nat) : Nat → Prop := fun b => b ≠ g ∧ b < w.heap.size
/-- Block g holds eight pieces. -/
structure Each (w : World) (g : Nat) (f : Nat → Pc.Piece) : Prop where
  lt : g < w.heap.size
  free : ∀ o, w.frozen? ⟨g, o, none⟩ = false
  at_ : ∀ i, i < 8 → ∃ a b c, w.cell? ⟨g, i * 6, none⟩ = some (.int .i64 (f i).node) ∧ w.cell? ⟨g, i * 6 + 1, none⟩ = some (.int .i64 (f i).state) ∧ w.cell? ⟨g, i * 6 + 2, none⟩ = some (.int .i64 (f i).steps) ∧
    w.cell? ⟨g, i * 6 + 3, none⟩ = some a ∧ w.cell? ⟨g, i * 6 + 4, none⟩ = some b ∧ w.cell? ⟨g, i * 6 + 5, none⟩ = some c ∧
    SliceOn Rep.int false w (butS w g) a (f i).sent ∧ SliceOn Rep.msg.slice false w (butS w g) b (f i).inn ∧ SliceOn Rep.int.slice false w (butS w g) c (f i).out
section
variable {w w' : World} {g k : Nat} {f : Nat → Pc.Piece}
theorem Each.next (h : Each w g f) (hb : Below w.heap.size w w') : Each w' g f := by
  have hc : ∀ o, w'.cell? ⟨g, o, none⟩ = w.cell? ⟨g, o, none⟩ := fun o => cell_of_block (hb.block g h.lt)
  have hs : ∀ b, butS w g b → butS w' g b := fun b h => ⟨h.1, Nat.lt_of_lt_of_le h.2 hb.size⟩
  refine ⟨Nat.lt_of_lt_of_le h.lt hb.size, fun o => (frozen_of_block (hb.block g h.lt)).trans (h.free o), fun i hi => ?_⟩
  obtain ⟨a, b, c, h0, h1, h2, h3, h4, h5, h6, h7, h8⟩ := h.at_ i hi
  exact ⟨a, b, c, (hc _).trans h0, (hc _).trans h1, (hc _).trans h2, (hc _).trans h3, (hc _).trans h4, (hc _).trans h5, (h6.keep fun b hb' => hb.block b hb'.2).widen hs, (h7.keep fun b hb' => hb.block b hb'.2).widen hs, (h8.keep fun b hb' => hb.block b hb'.2).widen hs⟩
theorem Each.piece (h : Each w g f) {i : Nat} (hi : i < 8) : ∃ a b c, w.cell? ⟨g, i * 6, none⟩ = some (.int .i64 (f i).node) ∧ w.cell? ⟨g, i * 6 + 1, none⟩ = some (.int .i64 (f i).state) ∧ w.cell? ⟨g, i * 6 + 2, none⟩ = some (.int .i64 (f i).steps) ∧
    w.cell? ⟨g, i * 6 + 3, none⟩ = some a ∧ w.cell? ⟨g, i * 6 + 4, none⟩ = some b ∧ w.cell? ⟨g, i * 6 + 5, none⟩ = some c ∧ PieceIs false w 0 w.heap.size (.agg #[.int .i64 (f i).node, .int .i64 (f i).state, .int .i64 (f i).steps, a, b, c]) (f i) := by
  obtain ⟨a, b, c, h0, h1, h2, h3, h4, h5, h6, h7, h8⟩ := h.at_ i hi
  have hs : ∀ b, butS w g b → rng 0 w.heap.size b := fun b h => ⟨Nat.zero_le _, h.2⟩
  exact ⟨a, b, c, h0, h1, h2, h3, h4, h5, _, _, _, rfl, SliceOn.is_ (h6.widen hs), SliceOn.is_ (h7.widen hs), SliceOn.is_ (h8.widen hs)⟩
theorem setCell_at {o : Nat} {u u0 : Value} (h : w.cell? ⟨g, o, none⟩ = some u0) : (w.setCell ⟨g, o, none⟩ u).cell? ⟨g, o, none⟩ = some u := by
  unfold World.cell? at h ⊢
  cases hb : w.heap[g]? with
  | none => rw [hb] at h; cases h
  | some x =>
    rw [hb] at h
    cases x <;> dsimp only at h <;> try (cases h; done)
    case cells c e fr =>
      simp only [Option.isSome_none, Bool.false_eq_true, if_false] at h
      have hlt : o < c.size := (Array.getElem?_eq_some_iff.1 h).1
      have hg : g < w.heap.size := (Array.getElem?_eq_some_iff.1 hb).1
      have e1 : (w.setCell ⟨g, o, none⟩ u).heap[g]? = some (.cells (c.setIfInBounds o u) e fr) := by
        unfold World.setCell
        have := Array.getElem?_eq_some_iff.1 hb
        simp [Array.getElem?_modify, hb]
      rw [e1]
      simp [hlt]
theorem setCell_ne {o o' : Nat} {u : Value} (h : o' ≠ o) : (w.setCell ⟨g, o, none⟩ u).cell? ⟨g, o', none⟩ = w.cell? ⟨g, o', none⟩ := by
  unfold World.cell?
  have e : (w.setCell ⟨g, o, none⟩ u).heap[g]? = (w.heap[g]?).map fun x => match x with | .cells c e fr => .cells (c.setIfInBounds o u) e fr | x => x := by
    unfold World.setCell
    simp [Array.getElem?_modify]
    cases w.heap[g]? with
    | none => rfl
    | some x => cases x <;> rfl
  rw [e]
  cases w.heap[g]? with
  | none => rfl
  | some x => cases x <;> simp [Ne.symm h]
theorem setCell_free {o o' : Nat} {u : Value} : (w.setCell ⟨g, o, none⟩ u).frozen? ⟨g, o', none⟩ = w.frozen? ⟨g, o', none⟩ := by
  unfold World.frozen?
  have e : (w.setCell ⟨g, o, none⟩ u).heap[g]? = (w.heap[g]?).map fun x => match x with | .cells c e fr => .cells (c.setIfInBounds o u) e fr | x => x := by
    unfold World.setCell
    simp [Array.getElem?_modify]
    cases w.heap[g]? with
    | none => rfl
    | some x => cases x <;> rfl
  rw [e]
  cases w.heap[g]? with
  | none => rfl
  | some x => cases x <;> rfl
/-- A field of element k is written: 'j': which; 'p': what element k is then. -/
theorem Each.set_ (h : Each w g f) (hk : k < 8) (j : Nat) (hj : j < 6) (u : Value) (p : Pc.Piece)
    (hp : ∀ a b c, SliceOn Rep.int false w (butS w g) a (f k).sent → SliceOn Rep.msg.slice false w (butS w g) b (f k).inn → SliceOn Rep.int.slice false w (butS w g) c (f k).out →
      ∃ a' b' c', (∀ i, i < 6 → ([Value.int .i64 (f k).node, .int .i64 (f k).state, .int .i64 (f k).steps, a, b, c].set j u)[i]? = [Value.int .i64 p.node, .int .i64 p.state, .int .i64 p.steps, a', b', c'][i]?) ∧
        SliceOn Rep.int false w (butS w g) a' p.sent ∧ SliceOn Rep.msg.slice false w (butS w g) b' p.inn ∧ SliceOn Rep.int.slice false w (butS w g) c' p.out) :
    Each (w.setCell ⟨g, k * 6 + j, none⟩ u) g (upd f k p) := by
  have hz : (w.setCell ⟨g, k * 6 + j, none⟩ u).heap.size = w.heap.size := by simp [World.setCell]
  have hfar : ∀ b, butS w g b → (w.setCell ⟨g, k * 6 + j, none⟩ u).heap[b]? = w.heap[b]? := fun b hb => heap_setCell_other _ _ _ _ hb.1
  have hs : ∀ b, butS w g b → butS (w.setCell ⟨g, k * 6 + j, none⟩ u) g b := fun b hb => ⟨hb.1, by rw [hz]; exact hb.2⟩
  refine ⟨by rw [hz]; exact h.lt, fun o => setCell_free.trans (h.free o), fun i hi => ?_⟩
  by_cases hik : i = k
  · subst hik
    rw [upd_at]
    obtain ⟨a, b, c, h0, h1, h2, h3, h4, h5, h6, h7, h8⟩ := h.at_ i hi
    obtain ⟨a', b', c', he, q1, q2, q3⟩ := hp a b c h6 h7 h8
    have key : ∀ m, m < 6 → ∀ v v', [Value.int .i64 (f i).node, .int .i64 (f i).state, .int .i64 (f i).steps, a, b, c][m]? = some v → [Value.int .i64 p.node, .int .i64 p.state, .int .i64 p.steps, a', b', c'][m]? = some v' → w.cell? ⟨g, i * 6 + m, none⟩ = some v → (w.setCell ⟨g, i * 6 + j, none⟩ u).cell? ⟨g, i * 6 + m, none⟩ = some v' := by
      intro m hm v v' e1 e2 e3
      have e4 := he m hm
      by_cases hmj : m = j
      · subst hmj
        rw [setCell_at e3]
        rw [e2, List.getElem?_set_self (by simpa using hm)] at e4
        exact e4
      · rw [setCell_ne (by omega), e3]
        rw [e2, List.getElem?_set_ne (Ne.symm hmj), e1] at e4
        exact e4
    exact ⟨a', b', c', key 0 (by omega) _ _ rfl rfl h0, key 1 (by omega) _ _ rfl rfl h1, key 2 (by omega) _ _ rfl rfl h2, key 3 (by omega) _ _ rfl rfl h3, key 4 (by omega) _ _ rfl rfl h4, key 5 (by omega) _ _ rfl rfl h5,
      (q1.keep hfar).widen hs, (q2.keep hfar).widen hs, (q3.keep hfar).widen hs⟩
  · rw [upd_ne _ _ hik]
    obtain ⟨a, b, c, h0, h1, h2, h3, h4, h5, h6, h7, h8⟩ := h.at_ i hi
    have o : ∀ m, m < 6 → (w.setCell ⟨g, k * 6 + j, none⟩ u).cell? ⟨g, i * 6 + m, none⟩ = w.cell? ⟨g, i * 6 + m, none⟩ := fun m hm => setCell_ne (by omega)
    exact ⟨a, b, c, (o 0 (by omega)).trans h0, (o 1 (by omega)).trans h1, (o 2 (by omega)).trans h2, (o 3 (by omega)).trans h3, (o 4 (by omega)).trans h4, (o 5 (by omega)).trans h5, (h6.keep hfar).widen hs, (h7.keep hfar).widen hs, (h8.keep hfar).widen hs⟩
theorem Each.node (h : Each w g f) (hk : k < 8) (x : Int) : Each (w.setCell ⟨g, k * 6 + 0, none⟩ (.int .i64 x)) g (upd f k { f k with node := x }) :=
  h.set_ hk 0 (by omega) _ _ fun a b c h1 h2 h3 => ⟨a, b, c, fun i hi => rfl, h1, h2, h3⟩
theorem Each.state (h : Each w g f) (hk : k < 8) (x : Int) : Each (w.setCell ⟨g, k * 6 + 1, none⟩ (.int .i64 x)) g (upd f k { f k with state := x }) :=
  h.set_ hk 1 (by omega) _ _ fun a b c h1 h2 h3 => ⟨a, b, c, fun i hi => rfl, h1, h2, h3⟩
theorem Each.steps (h : Each w g f) (hk : k < 8) (x : Int) : Each (w.setCell ⟨g, k * 6 + 2, none⟩ (.int .i64 x)) g (upd f k { f k with steps := x }) :=
  h.set_ hk 2 (by omega) _ _ fun a b c h1 h2 h3 => ⟨a, b, c, fun i hi => rfl, h1, h2, h3⟩
theorem Each.sent (h : Each w g f) (hk : k < 8) {v : Value} {xs : List Int} (hv : SliceOn Rep.int false w (butS w g) v xs) : Each (w.setCell ⟨g, k * 6 + 3, none⟩ v) g (upd f k { f k with sent := xs }) :=
  h.set_ hk 3 (by omega) _ _ fun a b c h1 h2 h3 => ⟨v, b, c, fun i hi => rfl, hv, h2, h3⟩
theorem Each.inn (h : Each w g f) (hk : k < 8) {v : Value} {xs : List (List (Int × Int))} (hv : SliceOn Rep.msg.slice false w (butS w g) v xs) : Each (w.setCell ⟨g, k * 6 + 4, none⟩ v) g (upd f k { f k with inn := xs }) :=
  h.set_ hk 4 (by omega) _ _ fun a b c h1 h2 h3 => ⟨a, v, c, fun i hi => rfl, h1, hv, h3⟩
theorem Each.out (h : Each w g f) (hk : k < 8) {v : Value} {xs : List (List Int)} (hv : SliceOn Rep.int.slice false w (butS w g) v xs) : Each (w.setCell ⟨g, k * 6 + 5, none⟩ v) g (upd f k { f k with out := xs }) :=
  h.set_ hk 5 (by omega) _ _ fun a b c h1 h2 h3 => ⟨a, b, v, fun i hi => rfl, h1, h2, hv⟩
/-- What was grown by appending. -/
theorem Each.of_acc {e : TypeId} {B : Nat} {v : Value} {xs : List Pc.Piece} (h : Acc Rep.piece e B w v xs) (hn : xs.length = 8) : ∃ c, (∃ g, v = .slice (some ⟨g, 0, none⟩) 8 c ∧ B ≤ g ∧ Each w g (fun i => xs.getD i Pc.zero)) ∧ 8 ≤ c ∧ c ≤ maxLen := by
  obtain ⟨cells, S, hown, hall, hS, hd⟩ := h
  obtain ⟨hlen, h0 | ⟨g, cap, cur, rfl, hBg, hh, hnc, hcm, hsz, htake⟩⟩ := hown
  · rw [h0.2] at hn; cases hn
  · rw [hn] at hnc
    refine ⟨cap, ⟨g, by rw [hn], hBg, lt_of_block hh, fun o => by simp [World.frozen?, hh], fun i hi => ?_⟩, hnc, hcm⟩
    have hx : xs[i]? = some (xs.getD i Pc.zero) := by simp [List.getD, show i < xs.length by omega]
    obtain ⟨cs, ⟨a, b, c, hcs, q1, q2, q3⟩, hat⟩ := Rep.all_at hall hx
    have hcell : ∀ j u, cs[j]? = some u → w.cell? ⟨g, i * 6 + j, none⟩ = some u := by
      intro j u hj
      rw [cell_of_row w g (i * 6 + j) cur e (0, 0) hh]
      have h1 := hat j u hj
      rw [← htake] at h1
      rw [List.getElem?_take] at h1
      split at h1
      · simpa [Rep.piece] using h1
      · cases h1
    subst hcs
    have hs : ∀ b, S b → butS w g b := fun b hb => ⟨fun e => hd g rfl (e ▸ hb), (hS b hb).2⟩
    exact ⟨a, b, c, hcell 0 _ rfl, hcell 1 _ rfl, hcell 2 _ rfl, hcell 3 _ rfl, hcell 4 _ rfl, hcell 5 _ rfl, (q1.soft).widen hs, (q2.soft).widen hs, (q3.soft).widen hs⟩
end
/-- Elements 0 .. m-1 may not be; the others are as they were. -/
def EachTo (w : World) (g m : Nat) (p : Pc.Piece) : Prop := ∃ f, Each w g f ∧ (∀ i, i < m → Pc.right (f i) = false) ∧ ∀ i, m ≤ i → f i = p
section
variable {w w' : World} {g m : Nat} {p q : Pc.Piece}
theorem EachTo.next (h : EachTo w g m p) (hb : Below w.heap.size w w') : EachTo w' g m p := by obtain ⟨f, h1, h2, h3⟩ := h; exact ⟨f, h1.next hb, h2, h3⟩
theorem EachTo.lt (h : EachTo w g m p) : g < w.heap.size := by obtain ⟨f, h1, _⟩ := h; exact h1.lt
theorem EachTo.free (h : EachTo w g m p) (o : Nat) : w.frozen? ⟨g, o, none⟩ = false := by obtain ⟨f, h1, _⟩ := h; exact h1.free o
theorem EachTo.push (h : EachTo w g m p) (he : ∀ f, Each w g f → f m = p → Each w' g (upd f m q)) (hq : Pc.right q = false) : EachTo w' g (m + 1) p := by
  obtain ⟨f, h1, h2, h3⟩ := h
  refine ⟨_, he f h1 (h3 m (Nat.le_refl _)), fun i hi => ?_, fun i hi => ?_⟩
  · by_cases him : i = m
    · subst him; rw [upd_at]; exact hq
    · rw [upd_ne _ _ him]; exact h2 i (by omega)
  · rw [upd_ne _ _ (by omega)]; exact h3 i (by omega)
theorem EachTo.slot (h : EachTo w g m p) (i : Nat) (hm : m ≤ i) (hi : i < 8) : ∃ a b c, w.cell? ⟨g, i * 6, none⟩ = some (.int .i64 p.node) ∧ w.cell? ⟨g, i * 6 + 1, none⟩ = some (.int .i64 p.state) ∧ w.cell? ⟨g, i * 6 + 2, none⟩ = some (.int .i64 p.steps) ∧
    w.cell? ⟨g, i * 6 + 3, none⟩ = some a ∧ w.cell? ⟨g, i * 6 + 4, none⟩ = some b ∧ w.cell? ⟨g, i * 6 + 5, none⟩ = some c ∧
    SliceOn Rep.int false w (butS w g) a p.sent ∧ SliceOn Rep.msg.slice false w (butS w g) b p.inn ∧ SliceOn Rep.int.slice false w (butS w g) c p.out := by
  obtain ⟨f, h1, _, h3⟩ := h
  have := h1.at_ i hi
  rw [h3 i hm] at this
  exact this
theorem EachTo.node (h : EachTo w g m p) (hm : m < 8) (x : Int) (hq : Pc.right { p with node := x } = false) : EachTo (w.setCell ⟨g, m * 6 + 0, none⟩ (.int .i64 x)) g (m + 1) p :=
  h.push (fun f h1 h2 => by have := h1.node hm x; rwa [h2] at this) hq
theorem EachTo.state (h : EachTo w g m p) (hm : m < 8) (x : Int) (hq : Pc.right { p with state := x } = false) : EachTo (w.setCell ⟨g, m * 6 + 1, none⟩ (.int .i64 x)) g (m + 1) p :=
  h.push (fun f h1 h2 => by have := h1.state hm x; rwa [h2] at this) hq
theorem EachTo.steps (h : EachTo w g m p) (hm : m < 8) (x : Int) (hq : Pc.right { p with steps := x } = false) : EachTo (w.setCell ⟨g, m * 6 + 2, none⟩ (.int .i64 x)) g (m + 1) p :=
  h.push (fun f h1 h2 => by have := h1.steps hm x; rwa [h2] at this) hq
theorem EachTo.sent (h : EachTo w g m p) (hm : m < 8) {v : Value} {xs : List Int} (hv : SliceOn Rep.int false w (butS w g) v xs) (hq : Pc.right { p with sent := xs } = false) : EachTo (w.setCell ⟨g, m * 6 + 3, none⟩ v) g (m + 1) p :=
  h.push (fun f h1 h2 => by have := h1.sent hm hv; rwa [h2] at this) hq
theorem EachTo.inn (h : EachTo w g m p) (hm : m < 8) {v : Value} {xs : List (List (Int × Int))} (hv : SliceOn Rep.msg.slice false w (butS w g) v xs) (hq : Pc.right { p with inn := xs } = false) : EachTo (w.setCell ⟨g, m * 6 + 4, none⟩ v) g (m + 1) p :=
  h.push (fun f h1 h2 => by have := h1.inn hm hv; rwa [h2] at this) hq
theorem EachTo.out (h : EachTo w g m p) (hm : m < 8) {v : Value} {xs : List (List Int)} (hv : SliceOn Rep.int.slice false w (butS w g) v xs) (hq : Pc.right { p with out := xs } = false) : EachTo (w.setCell ⟨g, m * 6 + 5, none⟩ v) g (m + 1) p :=
  h.push (fun f h1 h2 => by have := h1.out hm hv; rwa [h2] at this) hq
end
theorem Src.ofOn {α : Type} {r : Rep α} {fr : Bool} {w : World} {S : Nat → Prop} {A : Option Addr} {xs : List α} (h : AtOn r fr w S A xs) :
    ∃ news, news.length = xs.length * r.size ∧ r.all fr w S news xs ∧ Src w A xs.length news := by
  obtain ⟨cells, h1, h2⟩ := h
  refine ⟨cells, Rep.all_len h1, h1, fun hn => ?_⟩
  obtain ⟨g, o, rfl, _, h3⟩ := h2 hn
  exact ⟨g, o, rfl, fun j u hj => (h3 j u hj).1⟩
section
variable {P : Program} {w : World} {ops : Array Oper} {rest : List Oper} {o : Oper} {a : Act} {Q : Exit → Act → World → Prop}
/-- 'append(s, x...)', x a slice that reads as a list in the blocks S. -/
theorem wpList_appendOn {α : Type} {r : Rep α} {fr : Bool} {S : Nat → Prop} {ys : List α} (hgd : o.guard = none) (s x : Operand) (t : TypeId) (ho : o.op = .call { callee := .builtin .append, args := #[s, x], argTypes := #[t, t] })
    (base : Nat) (e : TypeId) {z : Value} {bytes : Nat} (hinfo : (P.info? e).map (fun i => (i.zero, i.size, i.bytes)) = some (some z, r.size, bytes)) (ht : P.underlying t = some (.slice e))
    (hzs : z.cells.size = r.size) (v : Value) (n : Nat) (xs : List Value) (hs : a.eval s = v) (hown : w.ownsRow base e r.size v n xs)
    (A : Option Addr) (c : Nat) (hx : a.eval x = .slice A ys.length c) (hr : AtOn r fr w S A ys)
    (h63 : n + ys.length ≤ maxLen) (hbytes : (n + ys.length) * bytes ≤ 140737488355328) (hbase : base ≤ w.heap.size)
    (h : ∀ v' w' news, r.all fr w S news ys → w'.ownsRow base e r.size v' (n + ys.length) (xs ++ news) → w.grownBy w' v.ownBlock → Below base w w' → (v'.ownBlock = v.ownBlock ∨ v'.ownBlock = some w.heap.size) → wpList P ops Q rest (a.put o.dst v') w') : wpList P ops Q (o :: rest) a w := by
  obtain ⟨news, h1, h2, h3⟩ := Src.ofOn hr
  exact wpList_plain hgd fun _ hK => wp_append_src s x t ho base e hinfo ht hzs r.pos v n xs hs hown A ys.length c news hx h1 h3 (Rep.all_one h2) h63 hbytes hbase fun v' w' k1 k2 k3 k4 => hK _ _ (h v' w' news h2 k1 k2 k3 k4)
end
theorem own_push {α : Type} {r : Rep α} {w : World} {S : Nat → Prop} {B : Nat} {e : TypeId} {v : Value} {cs news : List Value} {y : α} {ys : List α} (h : w.ownsRow B e r.size v (1 + ys.length) (cs ++ news)) (hx : r.is false w S cs y) (hn : r.all false w S news ys) (hS : ∀ b, B ≤ b → b < w.heap.size → S b) : SliceOn r false w S v (y :: ys) := by
  have h' : w.ownsRow B e r.size v (y :: ys).length (cs ++ news) := by rw [List.length_cons, Nat.add_comm]; exact h
  exact SliceOn.of_own h' ⟨cs, news, rfl, hx, hn⟩ fun b hb => hS b (h'.lt b hb).1 (h'.lt b hb).2
section
variable {p : Pc.Piece}
theorem Pc.head_no {p : Pc.Piece} (h : Pc.okHead p = false) : Pc.right p = false := by simp [Pc.right, h]
theorem Pc.node_no (k : Nat) : Pc.right { p with node := 6 + (k : Int) } = false := Pc.head_no (decide_eq_false (by dsimp only; omega))
theorem Pc.state_no (k : Nat) : Pc.right { p with state := 8 + (k : Int) } = false := Pc.head_no (decide_eq_false (by dsimp only; omega))
theorem Pc.steps_no (k : Nat) : Pc.right { p with steps := -1 - (k : Int) } = false := Pc.head_no (decide_eq_false (by dsimp only; omega))
theorem Pc.sent_no (k : Nat) (t : List Int) : Pc.right { p with sent := (501 + (k : Int)) :: t } = false := by
  have : Pc.within (501 + (k : Int)) 0 500 = false := Pc.within_no (by omega)
  simp [Pc.right, this]
theorem Pc.sent6_no (k : Nat) : Pc.right { p with sent := [0, 0, 0, 0, 0, (k : Int)] } = false := Pc.head_no (decide_eq_false (by simp))
theorem Pc.inn_no (a b c d : Int) (h : ¬ a < c) (t : List (List (Int × Int))) : Pc.right { p with inn := [(a, b), (c, d)] :: t } = false := by
  have : Pc.rising 0 [(a, b), (c, d)] = false := by simp [Pc.rising, h]
  simp [Pc.right, this]
theorem Pc.inn1_no (a b : Int) (h : ¬ 0 < a) (t : List (List (Int × Int))) : Pc.right { p with inn := [(a, b)] :: t } = false := by
  have : Pc.rising 0 [(a, b)] = false := by simp [Pc.rising, h]
  simp [Pc.right, this]
theorem Pc.out_no (k : Nat) (t : List (List Int)) : Pc.right { p with out := [0, 4 + (k : Int)] :: t } = false := by
  have h : Pc.within (4 + (k : Int)) 0 3 = false := Pc.within_no (by omega)
  have : Pc.okOut [0, 4 + (k : Int)] = false := by simp [Pc.okOut, h]
  simp [Pc.right, this]
end
end Go.Proofs.Ytdfgnmdofjhnkaa
