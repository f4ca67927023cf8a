/- Lemmas, walks and contracts that the statements of this seat are proved by. -/
import Derived.Test.YtdfgnmdofjhnkaaG20
import Derived.Test.YtdfgnmdofjhnkaaG7
/- Frames' bytes with one byte more, or one less; bounds of frames that may be. Nothing of the program but contracts. -/
namespace Go.Proofs.Ytdfgnmdofjhnkaa
open Go.RowKit

namespace Fr
theorem right_len {f : Fr} (h : right f = true) : f.pieces.length ≤ 6 ∧ f.path.length ≤ 6 := by
  by_cases h5 : f.kind = 5
  · refine ⟨(right_pieces h h5).2.1.2, ?_⟩
    have ho := right_only h
    rw [ho]
    unfold only
    rw [if_neg (by omega), if_pos h5]
    simp
  · have ho := right_only h
    by_cases h6 : f.kind = 6
    · refine ⟨?_, (right_nums6 h h6).2.2.2.1.2⟩
      rw [ho]
      unfold only
      rw [if_neg (by omega), if_neg h5, if_pos h6]
      simp
    · by_cases h0 : f.kind = 0
      · rw [ho]
        unfold only
        rw [if_pos h0]
        simp
      · rw [ho]
        unfold only
        rw [if_neg h0, if_neg h5, if_neg h6]
        simp
theorem puts_two (a b : Int) (r : List UInt8) : 2 ≤ (W.puts [a, b] ++ r).length := by
  have h1 := (W.rd_pos _ _ _ _ _ (W.rd_put a [])).1
  have h2 := (W.rd_pos _ _ _ _ _ (W.rd_put b [])).1
  simp [W.puts]
  omega
theorem body_two (f : Fr) : 2 ≤ (body f).length := by
  by_cases h5 : f.kind = 5
  · have e : body f = W.puts [5, f.epoch] ++ (W.puts [(f.pieces.length : Int)] ++ texts f.pieces) := by rw [body_5' h5]; simp [W.puts]
    rw [e]; exact puts_two _ _ _
  · by_cases h6 : f.kind = 6
    · have e : body f = W.puts [6, f.init] ++ W.puts ([f.num, f.count, (f.path.length : Int)] ++ f.path) := by rw [body6 h6]; simp [W.puts]
      rw [e]; exact puts_two _ _ _
    · by_cases h0 : f.kind = 0
      · have e : body f = W.puts [0, f.epoch] ++ W.puts [f.seq, f.letter] := by rw [body_4 h5, heads_0 h0]; simp [W.puts]
        rw [e]; exact puts_two _ _ _
      · rw [body_4 h5, heads_4 h0 h6]; exact puts_two _ _ _
theorem dec_less {f : Fr} (h : right f = true) {k : Nat} (hk : k < (body f).length) : dec ((body f).take k) = zero ∧ decE ((body f).take k) = 4 := by
  apply dec_no
  intro F hF hb
  have e : body F ++ (body f).drop k = body f ++ [] := by rw [hb, List.take_append_drop, List.append_nil]
  have h2 := (body_split hF h e).2
  have h3 : ((body f).drop k).length = 0 := by rw [h2]; rfl
  rw [List.length_drop] at h3
  omega
theorem dec_more {f : Fr} {x : UInt8} (h : decE (body f ++ [x]) = 0) : right (dec (body f ++ [x])) = true ∧ dec (body f ++ [x]) ≠ f := by
  obtain ⟨h1, h2⟩ := dec_right h
  refine ⟨h1, fun he => ?_⟩
  rw [he] at h2
  have := congrArg List.length h2
  simp at this
end Fr
theorem cref2 {v : Value} {f : Fr} {w : World} (h : FrIs false w 0 w.heap.size v f) (hn : f.pieces.length ≤ 1000000) : Calls Try.prog 33 #[v] w
    fun x w' => (∃ A k B l, x = .returned (.agg #[.int .i64 f.kind, .int .i64 f.epoch, .int .i64 f.seq, .int .i64 f.letter, .slice A f.pieces.length k, .int .i64 f.init, .int .i64 f.num, .int .i64 f.count, .slice B f.path.length l]) ∧ FrIs false w' 0 w'.heap.size (.agg #[.int .i64 f.kind, .int .i64 f.epoch, .int .i64 f.seq, .int .i64 f.letter, .slice A f.pieces.length k, .int .i64 f.init, .int .i64 f.num, .int .i64 f.count, .slice B f.path.length l]) f) ∧ Below w.heap.size w w' := by
  refine (frref_any v f w h hn).mono ?_
  rintro x w' ⟨⟨v, rfl, hv⟩, hb⟩
  have hv' := hv
  obtain ⟨A, B, k, l, rfl, _, _⟩ := hv'
  exact ⟨⟨A, k, B, l, rfl, hv⟩, hb⟩
theorem extract_take (X : ByteArray) (k : Nat) : (X.extract 0 k).data.toList = X.data.toList.take k := by simp
theorem append_list (X : ByteArray) (l : List UInt8) : (X ++ ByteArray.mk l.toArray).data.toList = X.data.toList ++ l := by simp
end Go.Proofs.Ytdfgnmdofjhnkaa

/- A row of eight pieces of the call's own whose fields are written. -/
namespace Go.Proofs.Ytdfgnmdofjhnkaa
open Go.RowKit

theorem Pc.cut_cut (p : Pc.Piece) : Pc.cut (Pc.cut p) = Pc.cut p := by
  have h : ∀ {α : Type} (l : List (List α)), (((l.take 7).map (List.take 20)).take 7).map (List.take 20) = (l.take 7).map (List.take 20) := by
    intro α l
    rw [← List.map_take, List.take_take, List.map_map]
    simp [Function.comp_def, List.take_take]
  unfold Pc.cut
  simp only [Pc.Piece.mk.injEq, true_and]
  exact ⟨by simp [List.take_take], h _, h _⟩

def upd {α : Type} (f : Nat → α) (k : Nat) (x : α) : Nat → α := fun i => if i = k then x else f i
theorem upd_at {α : Type} (f : Nat → α) (k : Nat) (x : α) : upd f k x k = x := by simp [upd]
theorem upd_ne {α : Type} (f : Nat → α) {k i : Nat} (x : α) (h : i ≠ k) : upd f k x i = f i := by simp [upd, h]

/-- Every block but g. -/
abbrev butS (w : World) (g : Nat) : Nat → Prop := fun b => b ≠ g ∧ b < w.heap.size
/-- Block g holds eight pieces. -/
structure Each (w : World) (g : Nat) (f : Nat → Pc.Piece) : Prop where
  lt : g < w.heap.size
  free : ∀ o, w.frozen? ⟨g, o, none⟩ = false
  at_ : ∀ i, i < 8 → ∃ a b c, w.cell? ⟨g, i * 6, none⟩ = some (.int .i64 (f i).node) ∧ w.cell? ⟨g, i * 6 + 1, none⟩ = some (.int .i64 (f i).state) ∧ w.cell? ⟨g, i * 6 + 2, none⟩ = some (.int .i64 (f i).steps) ∧
    w.cell? ⟨g, i * 6 + 3, none⟩ = some a ∧ w.cell? ⟨g, i * 6 + 4, none⟩ = some b ∧ w.cell? ⟨g, i * 6 + 5, none⟩ = some c ∧
    SliceOn Rep.int false w (butS w g) a (f i).sent ∧ SliceOn Rep.msg.slice false w (butS w g) b (f i).inn ∧ SliceOn Rep.int.slice false w (butS w g) c (f i).out
section
variable {w w' : World} {g k : Nat} {f : Nat → Pc.Piece}
theorem Each.next (h : Each w g f) (hb : Below w.heap.size w w') : Each w' g f := by
  have hc : ∀ o, w'.cell? ⟨g, o, none⟩ = w.cell? ⟨g, o, none⟩ := fun o => cell_of_block (hb.block g h.lt)
  have hs : ∀ b, butS w g b → butS w' g b := fun b h => ⟨h.1, Nat.lt_of_lt_of_le h.2 hb.size⟩
  refine ⟨Nat.lt_of_lt_of_le h.lt hb.size, fun o => (frozen_of_block (hb.block g h.lt)).trans (h.free o), fun i hi => ?_⟩
  obtain ⟨a, b, c, h0, h1, h2, h3, h4, h5, h6, h7, h8⟩ := h.at_ i hi
  exact ⟨a, b, c, (hc _).trans h0, (hc _).trans h1, (hc _).trans h2, (hc _).trans h3, (hc _).trans h4, (hc _).trans h5, (h6.keep fun b hb' => hb.block b hb'.2).widen hs, (h7.keep fun b hb' => hb.block b hb'.2).widen hs, (h8.keep fun b hb' => hb.block b hb'.2).widen hs⟩
theorem Each.piece (h : Each w g f) {i : Nat} (hi : i < 8) : ∃ a b c, w.cell? ⟨g, i * 6, none⟩ = some (.int .i64 (f i).node) ∧ w.cell? ⟨g, i * 6 + 1, none⟩ = some (.int .i64 (f i).state) ∧ w.cell? ⟨g, i * 6 + 2, none⟩ = some (.int .i64 (f i).steps) ∧
    w.cell? ⟨g, i * 6 + 3, none⟩ = some a ∧ w.cell? ⟨g, i * 6 + 4, none⟩ = some b ∧ w.cell? ⟨g, i * 6 + 5, none⟩ = some c ∧ PieceIs false w 0 w.heap.size (.agg #[.int .i64 (f i).node, .int .i64 (f i).state, .int .i64 (f i).steps, a, b, c]) (f i) := by
  obtain ⟨a, b, c, h0, h1, h2, h3, h4, h5, h6, h7, h8⟩ := h.at_ i hi
  have hs : ∀ b, butS w g b → rng 0 w.heap.size b := fun b h => ⟨Nat.zero_le _, h.2⟩
  exact ⟨a, b, c, h0, h1, h2, h3, h4, h5, _, _, _, rfl, SliceOn.is_ (h6.widen hs), SliceOn.is_ (h7.widen hs), SliceOn.is_ (h8.widen hs)⟩
theorem setCell_at {o : Nat} {u u0 : Value} (h : w.cell? ⟨g, o, none⟩ = some u0) : (w.setCell ⟨g, o, none⟩ u).cell? ⟨g, o, none⟩ = some u := by
  unfold World.cell? at h ⊢
  cases hb : w.heap[g]? with
  | none => rw [hb] at h; cases h
  | some x =>
    rw [hb] at h
    cases x <;> dsimp only at h <;> try (cases h; done)
    case cells c e fr =>
      simp only [Option.isSome_none, Bool.false_eq_true, if_false] at h
      have hlt : o < c.size := (Array.getElem?_eq_some_iff.1 h).1
      have hg : g < w.heap.size := (Array.getElem?_eq_some_iff.1 hb).1
      have e1 : (w.setCell ⟨g, o, none⟩ u).heap[g]? = some (.cells (c.setIfInBounds o u) e fr) := by
        unfold World.setCell
        have := Array.getElem?_eq_some_iff.1 hb
        simp [Array.getElem?_modify, hb]
      rw [e1]
      simp [hlt]
theorem setCell_ne {o o' : Nat} {u : Value} (h : o' ≠ o) : (w.setCell ⟨g, o, none⟩ u).cell? ⟨g, o', none⟩ = w.cell? ⟨g, o', none⟩ := by
  unfold World.cell?
  have e : (w.setCell ⟨g, o, none⟩ u).heap[g]? = (w.heap[g]?).map fun x => match x with | .cells c e fr => .cells (c.setIfInBounds o u) e fr | x => x := by
    unfold World.setCell
    simp [Array.getElem?_modify]
    cases w.heap[g]? with
    | none => rfl
    | some x => cases x <;> rfl
  rw [e]
  cases w.heap[g]? with
  | none => rfl
  | some x => cases x <;> simp [Ne.symm h]
theorem setCell_free {o o' : Nat} {u : Value} : (w.setCell ⟨g, o, none⟩ u).frozen? ⟨g, o', none⟩ = w.frozen? ⟨g, o', none⟩ := by
  unfold World.frozen?
  have e : (w.setCell ⟨g, o, none⟩ u).heap[g]? = (w.heap[g]?).map fun x => match x with | .cells c e fr => .cells (c.setIfInBounds o u) e fr | x => x := by
    unfold World.setCell
    simp [Array.getElem?_modify]
    cases w.heap[g]? with
    | none => rfl
    | some x => cases x <;> rfl
  rw [e]
  cases w.heap[g]? with
  | none => rfl
  | some x => cases x <;> rfl
/-- A field of element k is written: 'j': which; 'p': what element k is then. -/
theorem Each.set_ (h : Each w g f) (hk : k < 8) (j : Nat) (hj : j < 6) (u : Value) (p : Pc.Piece)
    (hp : ∀ a b c, SliceOn Rep.int false w (butS w g) a (f k).sent → SliceOn Rep.msg.slice false w (butS w g) b (f k).inn → SliceOn Rep.int.slice false w (butS w g) c (f k).out →
      ∃ a' b' c', (∀ i, i < 6 → ([Value.int .i64 (f k).node, .int .i64 (f k).state, .int .i64 (f k).steps, a, b, c].set j u)[i]? = [Value.int .i64 p.node, .int .i64 p.state, .int .i64 p.steps, a', b', c'][i]?) ∧
        SliceOn Rep.int false w (butS w g) a' p.sent ∧ SliceOn Rep.msg.slice false w (butS w g) b' p.inn ∧ SliceOn Rep.int.slice false w (butS w g) c' p.out) :
    Each (w.setCell ⟨g, k * 6 + j, none⟩ u) g (upd f k p) := by
  have hz : (w.setCell ⟨g, k * 6 + j, none⟩ u).heap.size = w.heap.size := by simp [World.setCell]
  have hfar : ∀ b, butS w g b → (w.setCell ⟨g, k * 6 + j, none⟩ u).heap[b]? = w.heap[b]? := fun b hb => heap_setCell_other _ _ _ _ hb.1
  have hs : ∀ b, butS w g b → butS (w.setCell ⟨g, k * 6 + j, none⟩ u) g b := fun b hb => ⟨hb.1, by rw [hz]; exact hb.2⟩
  refine ⟨by rw [hz]; exact h.lt, fun o => setCell_free.trans (h.free o), fun i hi => ?_⟩
  by_cases hik : i = k
  · subst hik
    rw [upd_at]
    obtain ⟨a, b, c, h0, h1, h2, h3, h4, h5, h6, h7, h8⟩ := h.at_ i hi
    obtain ⟨a', b', c', he, q1, q2, q3⟩ := hp a b c h6 h7 h8
    have key : ∀ m, m < 6 → ∀ v v', [Value.int .i64 (f i).node, .int .i64 (f i).state, .int .i64 (f i).steps, a, b, c][m]? = some v → [Value.int .i64 p.node, .int .i64 p.state, .int .i64 p.steps, a', b', c'][m]? = some v' → w.cell? ⟨g, i * 6 + m, none⟩ = some v → (w.setCell ⟨g, i * 6 + j, none⟩ u).cell? ⟨g, i * 6 + m, none⟩ = some v' := by
      intro m hm v v' e1 e2 e3
      have e4 := he m hm
      by_cases hmj : m = j
      · subst hmj
        rw [setCell_at e3]
        rw [e2, List.getElem?_set_self (by simpa using hm)] at e4
        exact e4
      · rw [setCell_ne (by omega), e3]
        rw [e2, List.getElem?_set_ne (Ne.symm hmj), e1] at e4
        exact e4
    exact ⟨a', b', c', key 0 (by omega) _ _ rfl rfl h0, key 1 (by omega) _ _ rfl rfl h1, key 2 (by omega) _ _ rfl rfl h2, key 3 (by omega) _ _ rfl rfl h3, key 4 (by omega) _ _ rfl rfl h4, key 5 (by omega) _ _ rfl rfl h5,
      (q1.keep hfar).widen hs, (q2.keep hfar).widen hs, (q3.keep hfar).widen hs⟩
  · rw [upd_ne _ _ hik]
    obtain ⟨a, b, c, h0, h1, h2, h3, h4, h5, h6, h7, h8⟩ := h.at_ i hi
    have o : ∀ m, m < 6 → (w.setCell ⟨g, k * 6 + j, none⟩ u).cell? ⟨g, i * 6 + m, none⟩ = w.cell? ⟨g, i * 6 + m, none⟩ := fun m hm => setCell_ne (by omega)
    exact ⟨a, b, c, (o 0 (by omega)).trans h0, (o 1 (by omega)).trans h1, (o 2 (by omega)).trans h2, (o 3 (by omega)).trans h3, (o 4 (by omega)).trans h4, (o 5 (by omega)).trans h5, (h6.keep hfar).widen hs, (h7.keep hfar).widen hs, (h8.keep hfar).widen hs⟩
theorem Each.node (h : Each w g f) (hk : k < 8) (x : Int) : Each (w.setCell ⟨g, k * 6 + 0, none⟩ (.int .i64 x)) g (upd f k { f k with node := x }) :=
  h.set_ hk 0 (by omega) _ _ fun a b c h1 h2 h3 => ⟨a, b, c, fun i hi => rfl, h1, h2, h3⟩
theorem Each.state (h : Each w g f) (hk : k < 8) (x : Int) : Each (w.setCell ⟨g, k * 6 + 1, none⟩ (.int .i64 x)) g (upd f k { f k with state := x }) :=
  h.set_ hk 1 (by omega) _ _ fun a b c h1 h2 h3 => ⟨a, b, c, fun i hi => rfl, h1, h2, h3⟩
theorem Each.steps (h : Each w g f) (hk : k < 8) (x : Int) : Each (w.setCell ⟨g, k * 6 + 2, none⟩ (.int .i64 x)) g (upd f k { f k with steps := x }) :=
  h.set_ hk 2 (by omega) _ _ fun a b c h1 h2 h3 => ⟨a, b, c, fun i hi => rfl, h1, h2, h3⟩
theorem Each.sent (h : Each w g f) (hk : k < 8) {v : Value} {xs : List Int} (hv : SliceOn Rep.int false w (butS w g) v xs) : Each (w.setCell ⟨g, k * 6 + 3, none⟩ v) g (upd f k { f k with sent := xs }) :=
  h.set_ hk 3 (by omega) _ _ fun a b c h1 h2 h3 => ⟨v, b, c, fun i hi => rfl, hv, h2, h3⟩
theorem Each.inn (h : Each w g f) (hk : k < 8) {v : Value} {xs : List (List (Int × Int))} (hv : SliceOn Rep.msg.slice false w (butS w g) v xs) : Each (w.setCell ⟨g, k * 6 + 4, none⟩ v) g (upd f k { f k with inn := xs }) :=
  h.set_ hk 4 (by omega) _ _ fun a b c h1 h2 h3 => ⟨a, v, c, fun i hi => rfl, h1, hv, h3⟩
theorem Each.out (h : Each w g f) (hk : k < 8) {v : Value} {xs : List (List Int)} (hv : SliceOn Rep.int.slice false w (butS w g) v xs) : Each (w.setCell ⟨g, k * 6 + 5, none⟩ v) g (upd f k { f k with out := xs }) :=
  h.set_ hk 5 (by omega) _ _ fun a b c h1 h2 h3 => ⟨a, b, v, fun i hi => rfl, h1, h2, hv⟩
/-- What was grown by appending. -/
theorem Each.of_acc {e : TypeId} {B : Nat} {v : Value} {xs : List Pc.Piece} (h : Acc Rep.piece e B w v xs) (hn : xs.length = 8) : ∃ c, (∃ g, v = .slice (some ⟨g, 0, none⟩) 8 c ∧ B ≤ g ∧ Each w g (fun i => xs.getD i Pc.zero)) ∧ 8 ≤ c ∧ c ≤ maxLen := by
  obtain ⟨cells, S, hown, hall, hS, hd⟩ := h
  obtain ⟨hlen, h0 | ⟨g, cap, cur, rfl, hBg, hh, hnc, hcm, hsz, htake⟩⟩ := hown
  · rw [h0.2] at hn; cases hn
  · rw [hn] at hnc
    refine ⟨cap, ⟨g, by rw [hn], hBg, lt_of_block hh, fun o => by simp [World.frozen?, hh], fun i hi => ?_⟩, hnc, hcm⟩
    have hx : xs[i]? = some (xs.getD i Pc.zero) := by simp [List.getD, show i < xs.length by omega]
    obtain ⟨cs, ⟨a, b, c, hcs, q1, q2, q3⟩, hat⟩ := Rep.all_at hall hx
    have hcell : ∀ j u, cs[j]? = some u → w.cell? ⟨g, i * 6 + j, none⟩ = some u := by
      intro j u hj
      rw [cell_of_row w g (i * 6 + j) cur e (0, 0) hh]
      have h1 := hat j u hj
      rw [← htake] at h1
      rw [List.getElem?_take] at h1
      split at h1
      · simpa [Rep.piece] using h1
      · cases h1
    subst hcs
    have hs : ∀ b, S b → butS w g b := fun b hb => ⟨fun e => hd g rfl (e ▸ hb), (hS b hb).2⟩
    exact ⟨a, b, c, hcell 0 _ rfl, hcell 1 _ rfl, hcell 2 _ rfl, hcell 3 _ rfl, hcell 4 _ rfl, hcell 5 _ rfl, (q1.soft).widen hs, (q2.soft).widen hs, (q3.soft).widen hs⟩
end
/-- Elements 0 .. m-1 may not be; the others are as they were. -/
def EachTo (w : World) (g m : Nat) (p : Pc.Piece) : Prop := ∃ f, Each w g f ∧ (∀ i, i < m → Pc.right (f i) = false) ∧ ∀ i, m ≤ i → f i = p
section
variable {w w' : World} {g m : Nat} {p q : Pc.Piece}
theorem EachTo.next (h : EachTo w g m p) (hb : Below w.heap.size w w') : EachTo w' g m p := by obtain ⟨f, h1, h2, h3⟩ := h; exact ⟨f, h1.next hb, h2, h3⟩
theorem EachTo.lt (h : EachTo w g m p) : g < w.heap.size := by obtain ⟨f, h1, _⟩ := h; exact h1.lt
theorem EachTo.free (h : EachTo w g m p) (o : Nat) : w.frozen? ⟨g, o, none⟩ = false := by obtain ⟨f, h1, _⟩ := h; exact h1.free o
theorem EachTo.push (h : EachTo w g m p) (he : ∀ f, Each w g f → f m = p → Each w' g (upd f m q)) (hq : Pc.right q = false) : EachTo w' g (m + 1) p := by
  obtain ⟨f, h1, h2, h3⟩ := h
  refine ⟨_, he f h1 (h3 m (Nat.le_refl _)), fun i hi => ?_, fun i hi => ?_⟩
  · by_cases him : i = m
    · subst him; rw [upd_at]; exact hq
    · rw [upd_ne _ _ him]; exact h2 i (by omega)
  · rw [upd_ne _ _ (by omega)]; exact h3 i (by omega)
theorem EachTo.slot (h : EachTo w g m p) (i : Nat) (hm : m ≤ i) (hi : i < 8) : ∃ a b c, w.cell? ⟨g, i * 6, none⟩ = some (.int .i64 p.node) ∧ w.cell? ⟨g, i * 6 + 1, none⟩ = some (.int .i64 p.state) ∧ w.cell? ⟨g, i * 6 + 2, none⟩ = some (.int .i64 p.steps) ∧
    w.cell? ⟨g, i * 6 + 3, none⟩ = some a ∧ w.cell? ⟨g, i * 6 + 4, none⟩ = some b ∧ w.cell? ⟨g, i * 6 + 5, none⟩ = some c ∧
    SliceOn Rep.int false w (butS w g) a p.sent ∧ SliceOn Rep.msg.slice false w (butS w g) b p.inn ∧ SliceOn Rep.int.slice false w (butS w g) c p.out := by
  obtain ⟨f, h1, _, h3⟩ := h
  have := h1.at_ i hi
  rw [h3 i hm] at this
  exact this
theorem EachTo.node (h : EachTo w g m p) (hm : m < 8) (x : Int) (hq : Pc.right { p with node := x } = false) : EachTo (w.setCell ⟨g, m * 6 + 0, none⟩ (.int .i64 x)) g (m + 1) p :=
  h.push (fun f h1 h2 => by have := h1.node hm x; rwa [h2] at this) hq
theorem EachTo.state (h : EachTo w g m p) (hm : m < 8) (x : Int) (hq : Pc.right { p with state := x } = false) : EachTo (w.setCell ⟨g, m * 6 + 1, none⟩ (.int .i64 x)) g (m + 1) p :=
  h.push (fun f h1 h2 => by have := h1.state hm x; rwa [h2] at this) hq
theorem EachTo.steps (h : EachTo w g m p) (hm : m < 8) (x : Int) (hq : Pc.right { p with steps := x } = false) : EachTo (w.setCell ⟨g, m * 6 + 2, none⟩ (.int .i64 x)) g (m + 1) p :=
  h.push (fun f h1 h2 => by have := h1.steps hm x; rwa [h2] at this) hq
theorem EachTo.sent (h : EachTo w g m p) (hm : m < 8) {v : Value} {xs : List Int} (hv : SliceOn Rep.int false w (butS w g) v xs) (hq : Pc.right { p with sent := xs } = false) : EachTo (w.setCell ⟨g, m * 6 + 3, none⟩ v) g (m + 1) p :=
  h.push (fun f h1 h2 => by have := h1.sent hm hv; rwa [h2] at this) hq
theorem EachTo.inn (h : EachTo w g m p) (hm : m < 8) {v : Value} {xs : List (List (Int × Int))} (hv : SliceOn Rep.msg.slice false w (butS w g) v xs) (hq : Pc.right { p with inn := xs } = false) : EachTo (w.setCell ⟨g, m * 6 + 4, none⟩ v) g (m + 1) p :=
  h.push (fun f h1 h2 => by have := h1.inn hm hv; rwa [h2] at this) hq
theorem EachTo.out (h : EachTo w g m p) (hm : m < 8) {v : Value} {xs : List (List Int)} (hv : SliceOn Rep.int.slice false w (butS w g) v xs) (hq : Pc.right { p with out := xs } = false) : EachTo (w.setCell ⟨g, m * 6 + 5, none⟩ v) g (m + 1) p :=
  h.push (fun f h1 h2 => by have := h1.out hm hv; rwa [h2] at this) hq
end
theorem Src.ofOn {α : Type} {r : Rep α} {fr : Bool} {w : World} {S : Nat → Prop} {A : Option Addr} {xs : List α} (h : AtOn r fr w S A xs) :
    ∃ news, news.length = xs.length * r.size ∧ r.all fr w S news xs ∧ Src w A xs.length news := by
  obtain ⟨cells, h1, h2⟩ := h
  refine ⟨cells, Rep.all_len h1, h1, fun hn => ?_⟩
  obtain ⟨g, o, rfl, _, h3⟩ := h2 hn
  exact ⟨g, o, rfl, fun j u hj => (h3 j u hj).1⟩
section
variable {P : Program} {w : World} {ops : Array Oper} {rest : List Oper} {o : Oper} {a : Act} {Q : Exit → Act → World → Prop}
/-- 'append(s, x...)', x a slice that reads as a list in the blocks S. -/
theorem wpList_appendOn {α : Type} {r : Rep α} {fr : Bool} {S : Nat → Prop} {ys : List α} (hgd : o.guard = none) (s x : Operand) (t : TypeId) (ho : o.op = .call { callee := .builtin .append, args := #[s, x], argTypes := #[t, t] })
    (base : Nat) (e : TypeId) {z : Value} {bytes : Nat} (hinfo : (P.info? e).map (fun i => (i.zero, i.size, i.bytes)) = some (some z, r.size, bytes)) (ht : P.underlying t = some (.slice e))
    (hzs : z.cells.size = r.size) (v : Value) (n : Nat) (xs : List Value) (hs : a.eval s = v) (hown : w.ownsRow base e r.size v n xs)
    (A : Option Addr) (c : Nat) (hx : a.eval x = .slice A ys.length c) (hr : AtOn r fr w S A ys)
    (h63 : n + ys.length ≤ maxLen) (hbytes : (n + ys.length) * bytes ≤ 140737488355328) (hbase : base ≤ w.heap.size)
    (h : ∀ v' w' news, r.all fr w S news ys → w'.ownsRow base e r.size v' (n + ys.length) (xs ++ news) → w.grownBy w' v.ownBlock → Below base w w' → (v'.ownBlock = v.ownBlock ∨ v'.ownBlock = some w.heap.size) → wpList P ops Q rest (a.put o.dst v') w') : wpList P ops Q (o :: rest) a w := by
  obtain ⟨news, h1, h2, h3⟩ := Src.ofOn hr
  exact wpList_plain hgd fun _ hK => wp_append_src s x t ho base e hinfo ht hzs r.pos v n xs hs hown A ys.length c news hx h1 h3 (Rep.all_one h2) h63 hbytes hbase fun v' w' k1 k2 k3 k4 => hK _ _ (h v' w' news h2 k1 k2 k3 k4)
end
theorem own_push {α : Type} {r : Rep α} {w : World} {S : Nat → Prop} {B : Nat} {e : TypeId} {v : Value} {cs news : List Value} {y : α} {ys : List α} (h : w.ownsRow B e r.size v (1 + ys.length) (cs ++ news)) (hx : r.is false w S cs y) (hn : r.all false w S news ys) (hS : ∀ b, B ≤ b → b < w.heap.size → S b) : SliceOn r false w S v (y :: ys) := by
  have h' : w.ownsRow B e r.size v (y :: ys).length (cs ++ news) := by rw [List.length_cons, Nat.add_comm]; exact h
  exact SliceOn.of_own h' ⟨cs, news, rfl, hx, hn⟩ fun b hb => hS b (h'.lt b hb).1 (h'.lt b hb).2
section
variable {p : Pc.Piece}
theorem Pc.head_no {p : Pc.Piece} (h : Pc.okHead p = false) : Pc.right p = false := by simp [Pc.right, h]
theorem Pc.node_no (k : Nat) : Pc.right { p with node := 6 + (k : Int) } = false := Pc.head_no (decide_eq_false (by dsimp only; omega))
theorem Pc.state_no (k : Nat) : Pc.right { p with state := 8 + (k : Int) } = false := Pc.head_no (decide_eq_false (by dsimp only; omega))
theorem Pc.steps_no (k : Nat) : Pc.right { p with steps := -1 - (k : Int) } = false := Pc.head_no (decide_eq_false (by dsimp only; omega))
theorem Pc.sent_no (k : Nat) (t : List Int) : Pc.right { p with sent := (501 + (k : Int)) :: t } = false := by
  have : Pc.within (501 + (k : Int)) 0 500 = false := Pc.within_no (by omega)
  simp [Pc.right, this]
theorem Pc.sent6_no (k : Nat) : Pc.right { p with sent := [0, 0, 0, 0, 0, (k : Int)] } = false := Pc.head_no (decide_eq_false (by simp))
theorem Pc.inn_no (a b c d : Int) (h : ¬ a < c) (t : List (List (Int × Int))) : Pc.right { p with inn := [(a, b), (c, d)] :: t } = false := by
  have : Pc.rising 0 [(a, b), (c, d)] = false := by simp [Pc.rising, h]
  simp [Pc.right, this]
theorem Pc.inn1_no (a b : Int) (h : ¬ 0 < a) (t : List (List (Int × Int))) : Pc.right { p with inn := [(a, b)] :: t } = false := by
  have : Pc.rising 0 [(a, b)] = false := by simp [Pc.rising, h]
  simp [Pc.right, this]
theorem Pc.out_no (k : Nat) (t : List (List Int)) : Pc.right { p with out := [0, 4 + (k : Int)] :: t } = false := by
  have h : Pc.within (4 + (k : Int)) 0 3 = false := Pc.within_no (by omega)
  have : Pc.okOut [0, 4 + (k : Int)] = false := by simp [Pc.okOut, h]
  simp [Pc.right, this]
end
end Go.Proofs.Ytdfgnmdofjhnkaa

/- Lists of the call's own whose numbers are written over. -/
namespace Go.Proofs.Ytdfgnmdofjhnkaa
open Go.RowKit

/-- w' is w, but for numbers in the blocks lo .. hi. -/
structure Scr (lo hi : Nat) (w w' : World) : Prop where
  low : Below lo w w'
  size : w'.heap.size = w.heap.size
  high : ∀ b, hi ≤ b → w'.heap[b]? = w.heap[b]?
  slices : ∀ b o A n c, w.cell? ⟨b, o, none⟩ = some (.slice A n c) → w'.cell? ⟨b, o, none⟩ = some (.slice A n c)
  ints : ∀ b o x, w.cell? ⟨b, o, none⟩ = some (.int .i64 x) → ∃ y, w'.cell? ⟨b, o, none⟩ = some (.int .i64 y)
  free : ∀ b o, w'.frozen? ⟨b, o, none⟩ = w.frozen? ⟨b, o, none⟩
section
variable {lo hi : Nat} {w w' : World}
theorem Scr.refl (lo hi : Nat) (w : World) : Scr lo hi w w := ⟨Below.refl _ _, rfl, fun _ _ => rfl, fun _ _ _ _ _ h => h, fun _ _ x h => ⟨x, h⟩, fun _ _ => rfl⟩
theorem Scr.set_ (h : Scr lo hi w w') {b o : Nat} {y : Int} (hc : w'.cell? ⟨b, o, none⟩ = some (.int .i64 y)) (h1 : lo ≤ b) (h2 : b < hi) (z : Int) : Scr lo hi w (w'.setCell ⟨b, o, none⟩ (.int .i64 z)) := by
  refine ⟨h.low.setCell h1 _, by rw [← h.size]; simp [World.setCell], fun k hk => (heap_setCell_other _ _ _ _ (by show k ≠ b; omega)).trans (h.high k hk), fun b' o' A n c hs => ?_, fun b' o' x hx => ?_, fun b' o' => ?_⟩
  · have h3 := h.slices b' o' A n c hs
    by_cases hb : b' = b
    · subst hb
      by_cases ho : o' = o
      · subst ho; rw [hc] at h3; cases h3
      · rw [setCell_ne ho]; exact h3
    · rw [cell_of_block (heap_setCell_other _ _ _ _ hb)]; exact h3
  · obtain ⟨y', h3⟩ := h.ints b' o' x hx
    by_cases hb : b' = b
    · subst hb
      by_cases ho : o' = o
      · subst ho; exact ⟨z, setCell_at h3⟩
      · exact ⟨y', by rw [setCell_ne ho]; exact h3⟩
    · exact ⟨y', by rw [cell_of_block (heap_setCell_other _ _ _ _ hb)]; exact h3⟩
  · by_cases hb : b' = b
    · subst hb; exact setCell_free.trans (h.free _ _)
    · exact (frozen_of_block (heap_setCell_other _ _ _ _ hb)).trans (h.free _ _)
theorem Scr.box (h : Scr lo hi w w') {b : Nat} {cs : Array Value} {T : TypeId} (hb : Box w b cs T) (ho : b < lo ∨ hi ≤ b) : Box w' b cs T := by
  rcases ho with ho | ho
  · exact (h.low.block b ho).trans hb
  · exact (h.high b ho).trans hb
theorem Scr.piece {fr : Bool} {l l' : Nat} {v : Value} {p : Pc.Piece} (h : Scr lo hi w w') (hp : PieceIs fr w l l' v p) (ho : l' ≤ lo ∨ hi ≤ l) : PieceIs fr w' l l' v p := by
  rcases ho with ho | ho
  · exact hp.keep fun b _ h2 => h.low.block b (by omega)
  · exact hp.keep fun b h1 _ => h.high b (by omega)
/-- A number in a slice. -/
theorem Scr.int_at (h : Scr lo hi w w') {A : Option Addr} {xs : List Int} {k : Nat} (hs : SliceAt Rep.int true w lo hi A xs) (hk : k < xs.length) :
    ∃ g o y, A = some ⟨g, o, none⟩ ∧ lo ≤ g ∧ g < hi ∧ w'.cell? ⟨g, o + k, none⟩ = some (.int .i64 y) ∧ w'.frozen? ⟨g, o + k, none⟩ = false := by
  obtain ⟨g, o, cs, rfl, h1, h3, h4⟩ := AtOn.at_ hs (List.getElem?_eq_getElem hk)
  have h3' : cs = [.int .i64 xs[k]] := h3
  subst h3'
  have e0 := h4 0 _ rfl
  simp only [Rep.int, Nat.mul_one, Nat.add_zero] at e0
  obtain ⟨y, hy⟩ := h.ints _ _ _ e0.1
  exact ⟨g, o, y, rfl, h1.1, h1.2, hy, (h.free _ _).trans (e0.2 trivial)⟩
theorem Scr.msg_at (h : Scr lo hi w w') {A : Option Addr} {xs : List (Int × Int)} {k : Nat} (hs : SliceAt Rep.msg true w lo hi A xs) (hk : k < xs.length) :
    ∃ g o y z, A = some ⟨g, o, none⟩ ∧ lo ≤ g ∧ g < hi ∧ w'.cell? ⟨g, o + k * 2, none⟩ = some (.int .i64 y) ∧ w'.cell? ⟨g, o + k * 2 + 1, none⟩ = some (.int .i64 z) ∧ w'.frozen? ⟨g, o + k * 2, none⟩ = false ∧ w'.frozen? ⟨g, o + k * 2 + 1, none⟩ = false := by
  obtain ⟨g, o, cs, rfl, h1, h3, h4⟩ := AtOn.at_ hs (List.getElem?_eq_getElem hk)
  have h3' : cs = [.int .i64 xs[k].1, .int .i64 xs[k].2] := h3
  subst h3'
  have e0 := h4 0 _ rfl
  have e1 := h4 1 _ rfl
  simp only [Rep.msg, Nat.add_zero] at e0 e1
  rw [← Nat.add_assoc] at e1
  obtain ⟨y, hy⟩ := h.ints _ _ _ e0.1
  obtain ⟨z, hz⟩ := h.ints _ _ _ e1.1
  exact ⟨g, o, y, z, rfl, h1.1, h1.2, hy, hz, (h.free _ _).trans (e0.2 trivial), (h.free _ _).trans (e1.2 trivial)⟩
theorem Scr.row_at {α : Type} {r : Rep α} (h : Scr lo hi w w') {A : Option Addr} {xs : List (List α)} {k : Nat} (hs : SliceAt r.slice true w lo hi A xs) (hk : k < xs.length) :
    ∃ g o A' c', A = some ⟨g, o, none⟩ ∧ w'.cell? ⟨g, o + k, none⟩ = some (.slice A' xs[k].length c') ∧ xs[k].length ≤ c' ∧ c' ≤ maxLen ∧ SliceAt r true w lo hi A' xs[k] := by
  obtain ⟨g, o, cs, rfl, h1, ⟨v, rfl, A', c', rfl, q1, q2, q3⟩, h4⟩ := AtOn.at_ hs (List.getElem?_eq_getElem hk)
  have e0 := (h4 0 _ rfl).1
  simp only [Rep.slice, Nat.mul_one, Nat.add_zero] at e0
  exact ⟨g, o, A', c', rfl, h.slices _ _ _ _ _ e0, q1, q2, q3⟩
end
section
variable {P : Program} {Q : Exit → Act → World → Prop} {md : Region.Mode}
/-- Three may come up. -/
theorem wpAny_threeM (i j k m1 m2 m3 : Nat) {M : Nat} {wM : World} {l : List Oper} {fuel mask : Nat} {a : Act} {w : World} (hin : edgesIn l = true) (hr : (readyM mask (l.map (edgeMask md)) 0 == [i, j, k]) = true) (hil : i < l.length) (hjl : j < l.length) (hkl : k < l.length) (hm1 : mask ||| 2 ^ i = m1) (hm2 : mask ||| 2 ^ j = m2) (hm3 : mask ||| 2 ^ k = m3)
    (h1 : wpList P l.toArray (stepQ fun a w => (M.testBit i = true → Ext wM w) ∧ wpAnyM P md l.toArray Q M wM fuel (arrM l.length m1) a w) [l.getD i default] a w)
    (h2 : wpList P l.toArray (stepQ fun a w => (M.testBit j = true → Ext wM w) ∧ wpAnyM P md l.toArray Q M wM fuel (arrM l.length m2) a w) [l.getD j default] a w)
    (h3 : wpList P l.toArray (stepQ fun a w => (M.testBit k = true → Ext wM w) ∧ wpAnyM P md l.toArray Q M wM fuel (arrM l.length m3) a w) [l.getD k default] a w) : wpAnyM P md l.toArray Q M wM (fuel + 1) (arrM l.length mask) a w := by
  subst hm1 hm2 hm3
  have hr' := beq_iff_eq.1 hr
  rw [← ready_arrM l mask hin] at hr'
  refine wpAnyM_all hr' (by simp) (fun x hx => ?_)
  simp only [List.mem_cons, List.not_mem_nil, or_false] at hx
  rcases hx with rfl | rfl | rfl
  · exact oneM hil h1
  · exact oneM hjl h2
  · exact oneM hkl h3
theorem name_any {M : Nat} {wM : World} {ops : Array Oper} {fuel : Nat} {li : Array Bool} {a : Act} {w : World} (h : ∀ W, w = W → wpAnyM P md ops Q M wM fuel li a W) : wpAnyM P md ops Q M wM fuel li a w := h w rfl
end
/-- A piece in blocks that are there. -/
def Fix (w : World) (lo hi : Nat) (v : Value) (p : Pc.Piece) : Prop := PieceIs true w lo hi v p ∧ hi ≤ w.heap.size
theorem Fix.next {w w' : World} {lo hi : Nat} {v : Value} {p : Pc.Piece} (h : Fix w lo hi v p) (hb : Below w.heap.size w w') : Fix w' lo hi v p := ⟨h.1.below hb h.2, Nat.le_trans h.2 hb.size⟩
/-- Two boxes: a copy in blocks of its own; another one. -/
def Sides (p : Pc.Piece) (W1 : World) (u9 u10 : Value) (w : World) : Prop :=
  ∃ (b9 b10 lo9 hi9 lo10 hi10 : Nat) (A3 A4 A5 B3 B4 B5 : Option Addr) (a3 a4 a5 c3 c4 c5 : Nat), u9 = .pointer (some ⟨b9, 0, none⟩) ∧ u10 = .pointer (some ⟨b10, 0, none⟩) ∧
    Box w b9 #[.int .i64 p.node, .int .i64 p.state, .int .i64 p.steps, .slice A3 p.sent.length a3, .slice A4 p.inn.length a4, .slice A5 p.out.length a5] 26 ∧
    Box w b10 #[.int .i64 p.node, .int .i64 p.state, .int .i64 p.steps, .slice B3 p.sent.length c3, .slice B4 p.inn.length c4, .slice B5 p.out.length c5] 26 ∧
    PieceIs true w lo9 hi9 (.agg #[.int .i64 p.node, .int .i64 p.state, .int .i64 p.steps, .slice A3 p.sent.length a3, .slice A4 p.inn.length a4, .slice A5 p.out.length a5]) p ∧
    PieceIs true w lo10 hi10 (.agg #[.int .i64 p.node, .int .i64 p.state, .int .i64 p.steps, .slice B3 p.sent.length c3, .slice B4 p.inn.length c4, .slice B5 p.out.length c5]) p ∧
    W1.heap.size ≤ lo9 ∧ hi9 ≤ lo10 ∧ hi10 ≤ w.heap.size ∧ (b9 < lo9 ∨ hi9 ≤ b9) ∧ (b10 < lo9 ∨ hi9 ≤ b10) ∧ Below W1.heap.size W1 w
theorem Sides.of {p : Pc.Piece} {W1 w : World} {b9 b10 lo9 hi9 lo10 hi10 : Nat} {z0 z1 z2 z3 z4 z5 y0 y1 y2 y3 y4 y5 : Value} {A3 A4 A5 B3 B4 B5 : Option Addr} {a3 a4 a5 c3 c4 c5 : Nat} (x9 : Box w b9 #[z0, z1, z2, z3, z4, z5] 26) (x10 : Box w b10 #[y0, y1, y2, y3, y4, y5] 26)
    (ha : Fix w lo9 hi9 (.agg #[.int .i64 p.node, .int .i64 p.state, .int .i64 p.steps, .slice A3 p.sent.length a3, .slice A4 p.inn.length a4, .slice A5 p.out.length a5]) p)
    (hb : Fix w lo10 hi10 (.agg #[.int .i64 p.node, .int .i64 p.state, .int .i64 p.steps, .slice B3 p.sent.length c3, .slice B4 p.inn.length c4, .slice B5 p.out.length c5]) p)
    (hne : b9 ≠ b10) (d1 : b9 < lo9 ∨ hi9 ≤ b9) (d2 : b9 < lo10 ∨ hi10 ≤ b9) (d3 : b10 < lo9 ∨ hi9 ≤ b10) (d4 : b10 < lo10 ∨ hi10 ≤ b10) (h1 : W1.heap.size ≤ b9) (h2 : W1.heap.size ≤ b10) (h3 : W1.heap.size ≤ lo9) (h4 : hi9 ≤ lo10) (hB : Below W1.heap.size W1 w) :
    Sides p W1 (.pointer (some ⟨b9, 0, none⟩)) (.pointer (some ⟨b10, 0, none⟩)) (wsix (wsix w b9 (.int .i64 p.node) (.int .i64 p.state) (.int .i64 p.steps) (.slice A3 p.sent.length a3) (.slice A4 p.inn.length a4) (.slice A5 p.out.length a5)) b10 (.int .i64 p.node) (.int .i64 p.state) (.int .i64 p.steps) (.slice B3 p.sent.length c3) (.slice B4 p.inn.length c4) (.slice B5 p.out.length c5)) := by
  refine ⟨b9, b10, lo9, hi9, lo10, hi10, A3, A4, A5, B3, B4, B5, a3, a4, a5, c3, c4, c5, rfl, rfl, (six_box x9).six_far hne, six_box (x10.six_far (Ne.symm hne)), ?_, ?_, h3, h4, by rw [six_size, six_size]; exact hb.2, d1, d3, six_below' (six_below' hB h1) h2⟩
  · exact (ha.1.keep fun b k1 k2 => six_far (b := b9) (by omega)).keep fun b k1 k2 => six_far (b := b10) (by omega)
  · exact (hb.1.keep fun b k1 k2 => six_far (b := b9) (by omega)).keep fun b k1 k2 => six_far (b := b10) (by omega)
end Go.Proofs.Ytdfgnmdofjhnkaa

/- The law's Ref of a frame: what it leads to lies where the frame's lists lie, or is new. -/
namespace Go.Proofs.Ytdfgnmdofjhnkaa
open Go.RowKit

/-- v: a row of the call's own, in blocks from B on, whose elements lead to blocks ahead of hi. -/
def TopL {α : Type} (r : Rep α) (e : TypeId) (lo hi B : Nat) (w : World) (v : Value) (xs : List α) : Prop :=
  ∃ cells, w.ownsRow B e r.size v xs.length cells ∧ r.all false w (rng lo hi) cells xs
section
variable {α : Type} {r : Rep α} {e : TypeId} {lo hi B : Nat} {w w' : World} {v : Value} {xs : List α}
theorem TopL.next (h : TopL r e lo hi B w v xs) (hb : Below w.heap.size w w') (hB : hi ≤ w.heap.size) : TopL r e lo hi B w' v xs := by
  obtain ⟨cells, h1, h2⟩ := h
  exact ⟨cells, own_below h1 hb, Rep.all_keep (fun b hb' => hb.block b (Nat.lt_of_lt_of_le hb'.2 hB)) h2⟩
theorem TopL.slice (h : TopL r e lo hi B w v xs) : SliceOn r false w (fun b => (lo ≤ b ∧ b < hi) ∨ (B ≤ b ∧ b < w.heap.size)) v xs := by
  obtain ⟨cells, h1, h2⟩ := h
  exact SliceOn.of_own (base := B) (e := e) h1 (Rep.all_widen (fun b hb => .inl hb) h2) (fun g hg => .inr (h1.lt g hg))
theorem TopL.empty (r : Rep α) (e : TypeId) (lo hi : Nat) (w : World) : TopL r e lo hi w.heap.size (w.alloc (.cells #[] e)) (.slice (some ⟨w.heap.size, 0, none⟩) 0 0) [] :=
  ⟨[], own_lit (size := r.size) w.heap.size e 0 [] (by simp) (Nat.le_refl _) (by unfold maxLen; omega), rfl⟩
end
section
variable {P : Program} {w : World} {ops : Array Oper} {rest : List Oper} {o : Oper} {a : Act} {Q : Exit → Act → World → Prop}
theorem wpList_topL {α : Type} {r : Rep α} {xs : List α} {y : α} (hgd : o.guard = none) (s x : Operand) (t : TypeId) (ho : o.op = .call { callee := .builtin .append, args := #[s, x], argTypes := #[t, t] })
    (B : Nat) (e : TypeId) {z : Value} {bytes : Nat} (hinfo : (P.info? e).map (fun i => (i.zero, i.size, i.bytes)) = some (some z, r.size, bytes)) (ht : P.underlying t = some (.slice e))
    (hzs : z.cells.size = r.size) (hby : bytes ≤ 1000) (v : Value) (hs : a.eval s = v) {lo hi : Nat} (hrow : TopL r e lo hi B w v xs) (hB : B ≤ w.heap.size) (hhi : hi ≤ B)
    (c H : Nat) (cs : List Value) (hx : a.eval x = .slice (some ⟨H, 0, none⟩) 1 c) (hH : w.heap.size = H) (hcs : r.is false w (rng lo hi) cs y) (hn : xs.length ≤ 1000000)
    (h : ∀ v' w', TopL r e lo hi B w' v' (xs ++ [y]) → Below B w w' → wpList P ops Q rest (a.put o.dst v') w') : wpList P ops Q (o :: rest) a (w.alloc (.cells cs.toArray e)) := by
  obtain ⟨cells, h1, h2⟩ := hrow
  refine wpList_appendB hgd s x t ho B e hinfo ht hzs r.pos v xs.length cells hs h1 1 c H cs hx hH (by rw [r.len hcs]; omega) (r.one hcs) (by unfold maxLen; omega) (Nat.le_trans (Nat.mul_le_mul (show xs.length + 1 ≤ 1000001 by omega) hby) (by omega)) hB ?_
  intro v' w' k1 _ k3 _
  have hk : ∀ b, rng lo hi b → w'.heap[b]? = w.heap[b]? := fun b hb => k3.block b (Nat.lt_of_lt_of_le hb.2 hhi)
  exact h v' w' ⟨cells ++ cs, by rw [List.length_append]; exact k1, Rep.all_snoc (Rep.all_keep hk h2) (r.keep hcs hk)⟩ k3
end

set_option maxRecDepth 100000 in
set_option maxHeartbeats 2000000 in
theorem refsl_any (v : Value) (ps : List Pc.Piece) (w : World) {lo hi : Nat} (h : SliceIs Rep.piece false w lo hi v ps) (hhi : hi ≤ w.heap.size) (hn : ps.length ≤ 1000000) : Calls Try.prog 71 #[v] w
    fun y w' => (∃ u, y = .returned u ∧ SliceOn Rep.piece false w' (fun b => (lo ≤ b ∧ b < hi) ∨ (w.heap.size ≤ b ∧ b < w'.heap.size)) u ps) ∧ Below w.heap.size w w' := by
  obtain ⟨A, c, rfl, l1, m1, h1⟩ := h
  unfold maxLen at m1
  go_enter Try.func71, Try.ntmps71
  go_wp2_with fail
  go_loopg [3, 4] ps.length (fun k u i wr => ∃ j : Nat, i = .int .i64 (j : Int) ∧ j ≤ ps.length ∧ k = ps.length - j ∧ TopL Rep.piece 32 lo hi w.heap.size wr u (ps.take j) ∧ Below w.heap.size w wr)
  case atStart => exact ⟨0, rfl, by omega, by omega, TopL.empty _ _ _ _ _, (Below.refl _ _).alloc (Nat.le_refl _) _⟩
  case round =>
    obtain ⟨j, rfl, hj, hk, ht, hb⟩ := hrel
    have HK := Lib.hid hk; clear hk
    by_cases hlt : j < ps.length
    · obtain ⟨x, hx⟩ := Pc.get_at hlt
      obtain ⟨g, o, a3, a4, a5, rfl, _, hg, c0, c1, c2, c3, c4, c5, hp⟩ := (h1.below hb hhi).piece hx
      have htk := Pc.take_next hx
      have HT := Lib.hid htk; clear htk hx h1
      obtain ⟨_, _, _, he, ⟨A3, k3, rfl, _⟩, ⟨A4, k4, rfl, _⟩, ⟨A5, k5, rfl, _⟩⟩ := id hp
      cases he
      have hpw := hp.widen (Nat.zero_le _) (Nat.le_trans hhi hb.size)
      have HP := Lib.hid hp; have HPW := Lib.hid hpw; clear hp hpw
      have hnl : (ps.take j).length ≤ 1000000 := by rw [List.length_take]; omega
      go_wp2_with fail
      clear c0 c1 c2 c3 c4 c5
      refine (ref_any _ x _ HPW.out).mono ?_
      rintro e w1 ⟨rfl, hb1⟩
      have ht1 := ht.next hb1 (Nat.le_trans hhi hb.size)
      have hp1 := HP.out.below (hb1.mono hb.size) hhi
      obtain ⟨cs, hcv, hcs⟩ := hp1.cells
      have hce : cs = [.int .i64 x.node, .int .i64 x.state, .int .i64 x.steps, .slice A3 x.sent.length k3, .slice A4 x.inn.length k4, .slice A5 x.out.length k5] := by
        injection hcv with hcv
        have := congrArg Array.toList hcv
        simpa using this.symm
      subst hce
      have HC := Lib.hid hcs; clear hcs hcv hp1 ht
      replace hb := hb.trans (hb1.mono hb.size)
      clear hb1 HP HPW
      go_wp2_with (at_builtin; refine wpList_topL (r := Rep.piece) (y := x) rfl (.tmp 12) (.tmp 18) 62 rfl w.heap.size 32 Try.infoRPiece Try.underlying62 rfl (by omega) _ rfl ht1 hb.size hhi 1 _ _ rfl rfl HC.out hnl ?_; intro v2 w2 hnew hb3)
      rw [← HT.out] at hnew
      go_roundg (ps.length - (j + 1))
      case rel => exact ⟨j + 1, by simp, by omega, rfl, hnew, hb.trans hb3⟩
      case measure => have := HK.out; omega
    · rw [List.take_of_length_le (by omega)] at ht
      have hs := ht.slice
      have HS := Lib.hid hs; clear hs ht
      go_wp2_with fail
      go_ret
      exact ⟨⟨_, rfl, HS.out⟩, hb⟩
/-- A frame by value whose lists lie in the blocks S. -/
def FrOn (fr : Bool) (w : World) (S : Nat → Prop) (v : Value) (f : Fr) : Prop :=
  ∃ A B k l, v = .agg #[.int .i64 f.kind, .int .i64 f.epoch, .int .i64 f.seq, .int .i64 f.letter, .slice A f.pieces.length k, .int .i64 f.init, .int .i64 f.num, .int .i64 f.count, .slice B f.path.length l] ∧
    SliceOn Rep.piece fr w S (.slice A f.pieces.length k) f.pieces ∧ SliceOn Rep.int fr w S (.slice B f.path.length l) f.path
set_option maxRecDepth 100000 in
set_option maxHeartbeats 4000000 in
theorem frrefl_any (lo hi : Nat) (v : Value) (f : Fr) (w : World) (hlo : hi ≤ w.heap.size) (h : FrIs false w lo hi v f) (hn : f.pieces.length ≤ 1000000) : Calls Try.prog 33 #[v] w
    fun z w' => (∃ u, z = .returned u ∧ FrOn false w' (fun b => (lo ≤ b ∧ b < hi) ∨ (w.heap.size ≤ b ∧ b < w'.heap.size)) u f) ∧ Below w.heap.size w w' := by
  obtain ⟨k, e, s, t, ps, i, n, c, p⟩ := f
  obtain ⟨A, B, x, y, rfl, h1, h2⟩ := h
  dsimp only at h1 h2 hn ⊢
  go_enter Try.func33, Try.ntmps33
  go_upto_region 1 with fail
  refine name_wp fun W0 hW0 => ?_
  have bx : Box W0 w.heap.size #[.int .i64 k, .int .i64 e, .int .i64 s, .int .i64 t, .slice A ps.length x, .int .i64 i, .int .i64 n, .int .i64 c, .slice B p.length y] 58 := hW0 ▸ (Box.at' _ _ rfl).alloc _
  have b2 : Box W0 (w.heap.size + 1) #[.int .i64 0, .int .i64 0, .int .i64 0, .int .i64 0, .slice none 0 0, .int .i64 0, .int .i64 0, .int .i64 0, .slice none 0 0] 64 := hW0 ▸ Box.at' _ _ (by simp)
  have hB : Below w.heap.size w W0 := hW0 ▸ ((Below.refl _ _).alloc (Nat.le_refl _) _).alloc (by simp) _
  have hP := h1.below hB hlo; have hQ := h2.below hB hlo
  have hE2 : w.heap.size + 1 < W0.heap.size := hW0 ▸ (by simp)
  have HE2 := Lib.hid hE2; clear hE2
  clear hW0 h1 h2
  have hne : w.heap.size ≠ w.heap.size + 1 := by omega
  have hE0 := hB.size
  replace hP := hP.below ((Below.refl w.heap.size W0).drew) hlo; replace hQ := hQ.below ((Below.refl w.heap.size W0).drew) hlo
  replace bx := bx.next ((Below.refl _ _).drew)
  replace b2 := b2.next ((Below.refl _ _).drew)
  replace hB := hB.drew
  have hE := Ext.refl (W0.drew)
  refine region_go 256 (by kernel_rfl) ?_
  obtain ⟨d0, d1, d2, d3, d4, d5, d6, d7, d8⟩ := nine_cells bx
  refine wpAny_go 256 0 [6, 7] 192 17 (by kernel_rfl) (by kernel_rfl) (fun _ _ _ _ _ h => h) (by kernel_rfl) (by rfl) (by rfl) (by kernel_rfl) ?_
  simp only [List.map_cons, List.map_nil, List.getD_cons_succ, List.getD_cons_zero]
  go_wp2_with fail
  change wpAnyM _ _ _ _ _ _ _ _ _ _
  refine wpAny_reads 256 192 [0, 1, 2, 3, 4, 5, 9, 10, 11, 12, 13, 14, 15, 16] 130815 3 (by kernel_rfl) (by kernel_rfl) (fun _ _ _ _ _ h => h) (by kernel_rfl) (by rfl) (by rfl) (by kernel_rfl) ?_
  simp only [List.map_cons, List.map_nil, List.getD_cons_succ, List.getD_cons_zero]
  go_wp2_with fail
  change _ → wpAnyM _ _ _ _ _ _ _ _ _ _; intro _
  clear d0 d1 d2 d3 d4 d5 d6 d7 d8
  refine wpAny_oneM 8 131071 (by kernel_rfl) (by kernel_rfl) (of_decide_eq_true (by kernel_rfl)) (by rfl) ?_
  simp only [List.getD_cons_succ, List.getD_cons_zero]
  go_wp2_with fail
  refine (refsl_any _ ps _ hP (Nat.le_trans hlo hE0) hn).mono ?_
  rintro e w1 ⟨⟨u, rfl, hu⟩, hb⟩
  replace hQ := hQ.below (hb.mono hE0) hlo
  replace bx := bx.next hb
  replace b2 := b2.next hb
  replace hE := hE.trans (Ext.below hb (Nat.le_refl _))
  replace hB := hB.trans (hb.mono hB.size)
  clear hb
  obtain ⟨A2, x2, rfl, _⟩ := id hu
  go_wp2_with fail
  refine ⟨fun _ => hE, ?_⟩
  obtain ⟨g0, g1, g2, g3, g4, g5, g6, g7, g8⟩ := nine_cells b2
  obtain ⟨f0, f1, f2, f3, f4, f5, f6, f7, f8⟩ := nine_free b2
  refine wpAny_go 256 131071 [17, 18] 524287 0 (by kernel_rfl) (by kernel_rfl) (fun _ _ _ _ _ h => h) (by kernel_rfl) (by rfl) (by rfl) (by kernel_rfl) ?_
  simp only [List.map_cons, List.map_nil, List.getD_cons_succ, List.getD_cons_zero]
  go_wp2_with fail
  change wpAnyM _ _ _ _ _ _ _ _ _ _
  clear g0 g1 g2 g3 g4 g5 g6 g7 g8 f0 f1 f2 f3 f4 f5 f6 f7 f8
  refine nameAny fun V hV => ?_
  have b3 : Box V (w.heap.size + 1) #[.int .i64 k, .int .i64 e, .int .i64 s, .int .i64 t, .slice A2 ps.length x2, .int .i64 i, .int .i64 n, .int .i64 c, .slice B p.length y] 64 := by rw [← hV]; exact nine_box b2
  have hBV : Below w.heap.size w V := by rw [← hV]; exact nine_below hB (Nat.le_succ _)
  have hs9 : V.heap.size = w1.heap.size := by rw [← hV]; exact nine_size
  have hk9 : ∀ q, q ≠ w.heap.size + 1 → V.heap[q]? = w1.heap[q]? := fun q hq => by rw [← hV]; exact nine_far hq
  have hb2l := b2.lt
  have hD : W0.drew.heap.size = W0.heap.size := by simp
  have hE3 := HE2.out
  have hfu : FrOn false V (fun b => (lo ≤ b ∧ b < hi) ∨ (w.heap.size ≤ b ∧ b < V.heap.size)) (.agg #[.int .i64 k, .int .i64 e, .int .i64 s, .int .i64 t, .slice A2 ps.length x2, .int .i64 i, .int .i64 n, .int .i64 c, .slice B p.length y]) ⟨k, e, s, t, ps, i, n, c, p⟩ := ⟨A2, B, x2, y, rfl, (hu.keep fun q hq => hk9 q (by omega)).widen fun q hq => by omega, (SliceOn.keep hQ fun q hq => hk9 q (by have := hq.2; omega)).widen fun q hq => .inl hq⟩
  clear hD hE3
  refine wpAny_endM (by kernel_rfl) (by kernel_rfl) ?_
  obtain ⟨g0, g1, g2, g3, g4, g5, g6, g7, g8⟩ := nine_cells b3
  go_wp2_with fail
  refine bodyPost_ret (v := .agg #[.int .i64 k, .int .i64 e, .int .i64 s, .int .i64 t, .slice A2 ps.length x2, .int .i64 i, .int .i64 n, .int .i64 c, .slice B p.length y]) (by simp [results, Try.results33, g0, g1, g2, g3, g4, g5, g6, g7, g8, go_sem]) rfl ⟨⟨_, rfl, hfu⟩, hBV⟩
end Go.Proofs.Ytdfgnmdofjhnkaa
