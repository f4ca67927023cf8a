/- Rows of the call's own that lie apart; appends of whole slices to them. -/
import Derived.Test.YtmbilaepeekglaaHY
namespace Go.Proofs.Ytmbilaepeekglaa
open Go.RowKit

/-- v: a row of the call's own, in block b (from B on), that reads as xs. -/
def Row {α : Type} (r : Rep α) (e : TypeId) (B : Nat) (w : World) (b : Option Nat) (v : Value) (xs : List α) : Prop :=
  ∃ cells, w.ownsRow B e r.size v xs.length cells ∧ r.all true w (fun _ => False) cells xs ∧ v.ownBlock = b
/-- Two rows' blocks are not the same one. -/
def Apart (b c : Option Nat) : Prop := ∀ k, b = some k → c = some k → False
theorem Apart.symm {b c : Option Nat} (h : Apart b c) : Apart c b := fun k h1 h2 => h k h2 h1
section
variable {α β : Type} {r : Rep α} {r2 : Rep β} {e e2 : TypeId} {B B2 : Nat} {w w' : World} {v u : Value} {xs : List α} {ys : List β} {b c b' : Option Nat}
theorem Row.lt (h : Row r e B w b v xs) {k : Nat} (hk : b = some k) : B ≤ k ∧ k < w.heap.size := by
  obtain ⟨cells, h1, _, h3⟩ := h
  exact h1.lt k (h3.trans hk)
theorem Row.base {B' : Nat} (h : Row r e B w b v xs) (hB : B' ≤ B) : Row r e B' w b v xs := by
  obtain ⟨cells, h1, h2, h3⟩ := h
  exact ⟨cells, own_base h1 hB, h2, h3⟩
theorem Row.keep (h : Row r e B w b v xs) (hk : ∀ k, b = some k → w'.heap[k]? = w.heap[k]?) : Row r e B w' b v xs := by
  obtain ⟨cells, h1, h2, h3⟩ := h
  refine ⟨cells, ⟨h1.1, ?_⟩, Rep.all_keep (fun _ h => h.elim) h2, h3⟩
  rcases h1.2 with h4 | ⟨g, cap, cur, hv, hg, hh, hr⟩
  · exact .inl h4
  · have : b = some g := by rw [← h3, hv]; rfl
    exact .inr ⟨g, cap, cur, hv, hg, (hk g this).trans hh, hr⟩
theorem Row.next (h : Row r e B w b v xs) (hb : Below w.heap.size w w') : Row r e B w' b v xs := h.keep fun k hk => hb.block k (h.lt hk).2
theorem Row.grown (h : Row r2 e2 B2 w c u ys) (hg : w.grownBy w' b) (ha : Apart b c) : Row r2 e2 B2 w' c u ys := h.keep fun k hk => hg.block k (h.lt hk).2 fun he => ha k he.symm hk
theorem Apart.next (ha : Apart b c) (h : Row r2 e2 B2 w c u ys) (h4 : b' = b ∨ ∃ k, b' = some k ∧ w.heap.size ≤ k) : Apart b' c := by
  intro k h1 h2
  rcases h4 with rfl | ⟨n, rfl, hn⟩
  · exact ha k h1 h2
  · cases h1; have := (h.lt h2).2; omega
theorem Row.slice (h : Row r e B w b v xs) : SliceIs r true w B w.heap.size v xs := by
  obtain ⟨cells, h1, h2, h3⟩ := h
  exact SliceOn.of_own (base := B) (e := e) h1 (Rep.all_widen (fun _ h => h.elim) h2) (fun k hk => h1.lt k hk)
theorem Row.got (h : Row r e B w b v xs) : SliceIs r false w 0 w.heap.size v xs := (h.slice.widen (Nat.zero_le _) (Nat.le_refl _)).soft
theorem Row.form (h : Row r e B w b v xs) : ∃ A cap, v = .slice A xs.length cap ∧ xs.length ≤ cap ∧ cap ≤ maxLen := by
  obtain ⟨A, c, rfl, h1, h2, _⟩ := h.slice
  exact ⟨A, c, rfl, h1, h2⟩
theorem Row.empty (r : Rep α) (e : TypeId) (w : World) : Row r e w.heap.size (w.alloc (.cells #[] e)) (some w.heap.size) (.slice (some ⟨w.heap.size, 0, none⟩) 0 0) [] :=
  ⟨[], own_lit (size := r.size) w.heap.size e 0 [] (by simp) (Nat.le_refl _) (by unfold maxLen; omega), rfl, rfl⟩
end
section
variable {P : Program} {w : World} {ops : Array Oper} {rest : List Oper} {o : Oper} {a : Act} {Q : Exit → Act → World → Prop}
/-- 'append(s, x)': the element lies in a block made on the spot. -/
theorem wpList_rowB {α : Type} {r : Rep α} (hf : r.flat) {xs : List α} {y : α} (hgd : o.guard = none) (s x : Operand) (t : TypeId) (ho : o.op = .call { callee := .builtin .append, args := #[s, x], argTypes := #[t, t] })
    (B : Nat) (e : TypeId) {z : Value} {bytes : Nat} (hinfo : (P.info? e).map (fun i => (i.zero, i.size, i.bytes)) = some (some z, r.size, bytes)) (ht : P.underlying t = some (.slice e))
    (hzs : z.cells.size = r.size) (hby : bytes ≤ 1000) (v : Value) {b : Option Nat} (hs : a.eval s = v) (hrow : Row r e B w b v xs) (hB : B ≤ w.heap.size)
    (c H : Nat) (cs : List Value) (hx : a.eval x = .slice (some ⟨H, 0, none⟩) 1 c) (hH : w.heap.size = H) (hcs : r.is true w (fun _ => False) cs y) (hn : xs.length ≤ 1000000)
    (h : ∀ v' w' b', Row r e B w' b' v' (xs ++ [y]) → w.grownBy w' b → Below B w w' → (b' = b ∨ ∃ k, b' = some k ∧ w.heap.size ≤ k) → wpList P ops Q rest (a.put o.dst v') w') : wpList P ops Q (o :: rest) a (w.alloc (.cells cs.toArray e)) := by
  obtain ⟨cells, h1, h2, rfl⟩ := hrow
  refine wpList_appendB hgd s x t ho B e hinfo ht hzs r.pos v xs.length cells hs h1 1 c H cs hx hH (by rw [r.len hcs]; omega) (r.one hcs) (by unfold maxLen; omega) (Nat.le_trans (Nat.mul_le_mul (show xs.length + 1 ≤ 1000001 by omega) hby) (by omega)) hB ?_
  intro v' w' k1 k2 k3 k4
  refine h v' w' _ ⟨cells ++ cs, by rw [List.length_append]; exact k1, Rep.all_snoc (Rep.all_flat hf h2) (hf hcs), rfl⟩ k2 k3 ?_
  rcases k4 with k4 | k4
  · exact .inl k4
  · exact .inr ⟨_, k4, by omega⟩
/-- 'append(s, x...)'. -/
theorem wpList_rowS {α : Type} {r : Rep α} (hf : r.flat) {xs ys : List α} {fr : Bool} {lo hi : Nat} (hgd : o.guard = none) (s x : Operand) (t : TypeId) (ho : o.op = .call { callee := .builtin .append, args := #[s, x], argTypes := #[t, t] })
    (B : Nat) (e : TypeId) {z : Value} {bytes : Nat} (hinfo : (P.info? e).map (fun i => (i.zero, i.size, i.bytes)) = some (some z, r.size, bytes)) (ht : P.underlying t = some (.slice e))
    (hzs : z.cells.size = r.size) (hby : bytes ≤ 1000) (v u : Value) {b : Option Nat} (hs : a.eval s = v) (hrow : Row r e B w b v xs) (hB : B ≤ w.heap.size)
    (hx : a.eval x = u) (hu : SliceIs r fr w lo hi u ys) (hn : xs.length + ys.length ≤ 1000000)
    (h : ∀ v' w' b', Row r e B w' b' v' (xs ++ ys) → w.grownBy w' b → Below B w w' → (b' = b ∨ ∃ k, b' = some k ∧ w.heap.size ≤ k) → wpList P ops Q rest (a.put o.dst v') w') : wpList P ops Q (o :: rest) a w := by
  obtain ⟨cells, h1, h2, rfl⟩ := hrow
  obtain ⟨A, c, rfl, _, _, hA⟩ := hu
  refine wpList_appendS hgd s x t ho B e hinfo ht hzs v xs.length cells hs h1 A c hx hA (by unfold maxLen; omega) (Nat.le_trans (Nat.mul_le_mul (show xs.length + ys.length ≤ 1000001 by omega) hby) (by omega)) hB ?_
  intro v' w' news k0 k1 k2 k3 k4
  refine h v' w' _ ⟨cells ++ news, by rw [List.length_append]; exact k1, Rep.all_append (Rep.all_flat hf h2) (Rep.all_flat hf k0), rfl⟩ k2 k3 ?_
  rcases k4 with k4 | k4
  · exact .inl k4
  · exact .inr ⟨_, k4, by omega⟩
end
/-- Was this message's number got? -/
def Hu.gotP (got : List Bool) (m : Int × Int) : Bool := got.getD (m.1 - 1).toNat false
namespace Hu
theorem gotP_at (got : List Bool) (i : Nat) (x : Int) : gotP got ((i : Int) + 1, x) = got.getD i false := by simp [gotP]
theorem numb_at {out : List Int} {i : Nat} {x : Int} (hx : out[i]? = some x) : (numb 0 out)[i]? = some ((i : Int) + 1, x) := by rw [numb_get, hx]; simp
theorem in_step {out : List Int} {i : Nat} {x : Int} (p : Int × Int → Bool) (hx : out[i]? = some x) :
    (((numb 0 out).drop i).filter p).reverse = (((numb 0 out).drop (i + 1)).filter p).reverse ++ (if p ((i : Int) + 1, x) = true then [((i : Int) + 1, x)] else []) := by
  obtain ⟨h, he⟩ := List.getElem?_eq_some_iff.1 (numb_at hx)
  rw [List.drop_eq_getElem_cons h, he, List.filter_cons]
  split <;> simp
theorem want_step {out : List Int} {i : Nat} {x : Int} (p : Int × Int → Bool) (hx : out[i]? = some x) :
    ((numb 0 out).take (i + 1)).filter p = ((numb 0 out).take i).filter p ++ (if p ((i : Int) + 1, x) = true then [((i : Int) + 1, x)] else []) := by
  rw [List.take_add_one, numb_at hx, List.filter_append]
  simp [List.filter_cons]
theorem in_len (p : Int × Int → Bool) (out : List Int) (j : Nat) : ((((numb 0 out).drop j).filter p).reverse).length ≤ out.length := by
  rw [List.length_reverse]
  exact Nat.le_trans (List.length_filter_le _ _) (by rw [List.length_drop, numb_length]; omega)
theorem want_len (p : Int × Int → Bool) (out : List Int) (j : Nat) : (((numb 0 out).take j).filter p).length ≤ out.length :=
  Nat.le_trans (List.length_filter_le _ _) (by rw [List.length_take, numb_length]; omega)
theorem in_perm (p : Int × Int → Bool) (out : List Int) : (((numb 0 out).filter p).reverse).Perm ((numb 0 out).filter p) := List.reverse_perm _
end Hu
theorem SliceAt.bool {fr : Bool} {w : World} {lo hi k : Nat} {A : Option Addr} {xs : List Bool} {x : Bool} (h : SliceAt Rep.bool fr w lo hi A xs) (hx : xs[k]? = some x) :
    ∃ g o, A = some ⟨g, o, none⟩ ∧ lo ≤ g ∧ g < hi ∧ w.cell? ⟨g, o + k, none⟩ = some (.bool x) := by
  obtain ⟨g, o, cs, rfl, h1, h3, h4⟩ := AtOn.at_ h hx
  have h3' : cs = [.bool x] := h3
  subst h3'
  have := (h4 0 _ rfl).1
  exact ⟨g, o, rfl, h1.1, h1.2, by simpa [Rep.bool] using this⟩
namespace Hu
theorem mem_drop {out : List Int} {j : Nat} {m : Int × Int} (h : m ∈ (numb 0 out).drop j) : (j : Int) + 1 ≤ m.1 := by
  obtain ⟨k, hk⟩ := List.getElem?_of_mem h
  rw [List.getElem?_drop, numb_get] at hk
  obtain ⟨o, _, rfl⟩ := Option.map_eq_some_iff.1 hk
  simp; omega
theorem got_end {out : List Int} {got : List Bool} {j : Nat} (h : got.length ≤ j) : ((numb 0 out).take j).filter (gotP got) = (numb 0 out).filter (gotP got) := by
  have e : (numb 0 out) = (numb 0 out).take j ++ (numb 0 out).drop j := (List.take_append_drop _ _).symm
  conv => rhs; rw [e]
  rw [List.filter_append]
  have : ((numb 0 out).drop j).filter (gotP got) = [] := by
    rw [List.filter_eq_nil_iff]
    intro m hm
    have := mem_drop hm
    rw [gotP, List.getD, List.getElem?_eq_none (by omega)]
    simp
  rw [this, List.append_nil]
end Hu
theorem SliceIs.at_ {α : Type} {r : Rep α} {fr : Bool} {w : World} {lo hi n c : Nat} {A : Option Addr} {xs : List α} (h : SliceIs r fr w lo hi (.slice A n c) xs) : SliceAt r fr w lo hi A xs := by
  obtain ⟨_, _, he, _, _, h⟩ := h
  cases he
  exact h
theorem SliceIs.head {α : Type} {r : Rep α} {fr : Bool} {w : World} {lo hi n c k : Nat} {A : Option Addr} {xs : List α} (h : SliceIs r fr w lo hi (.slice A n c) xs) (hk : k ≤ xs.length) : SliceIs r fr w lo hi (.slice A k c) (xs.take k) := by
  have := h.cut k
  rwa [List.length_take, Nat.min_eq_left hk] at this
theorem u8_bounds {a : Int} (h : (Lit.int .u8 a).wf = true) : 0 ≤ a ∧ a ≤ 255 := by
  simpa [Lit.wf, IntKind.min, IntKind.max, IntKind.signed, IntKind.bits] using h
theorem Rep.all_drop2 {α : Type} {r : Rep α} {fr : Bool} {w : World} {S : Nat → Prop} : ∀ (k : Nat) {xs : List α} {cells : List Value}, r.all fr w S cells xs → r.all fr w S (cells.drop (k * r.size)) (xs.drop k) := by
  intro k
  induction k with
  | zero => intro xs cells h; simpa using h
  | succ k ih =>
    intro xs cells h
    cases xs with
    | nil => have h : cells = [] := h; subst h; simp [Rep.all]
    | cons x xs =>
      obtain ⟨cs, rest, rfl, h1, h2⟩ := h
      have hl := r.len h1
      have e : (k + 1) * r.size = cs.length + k * r.size := by rw [Nat.succ_mul, hl, Nat.add_comm]
      rw [e, List.drop_append, List.drop_eq_nil_of_le (Nat.le_add_right _ _), List.nil_append, Nat.add_sub_cancel_left, List.drop_succ_cons]
      exact ih h2
theorem SliceIs.tail {α : Type} {r : Rep α} {fr : Bool} {w : World} {lo hi n c g o k : Nat} {xs : List α} (h : SliceIs r fr w lo hi (.slice (some ⟨g, o, none⟩) n c) xs) (hk : k ≤ xs.length) :
    SliceIs r fr w lo hi (.slice (if c = k then some ⟨g, o, none⟩ else some ⟨g, o + k * r.size, none⟩) (n - k) (c - k)) (xs.drop k) := by
  obtain ⟨A, c', he, h1, h2, cells, h3, h4⟩ := h
  cases he
  refine ⟨_, _, by rw [List.length_drop], by rw [List.length_drop]; omega, by omega, cells.drop (k * r.size), Rep.all_drop2 k h3, fun hpos => ?_⟩
  rw [List.length_drop] at hpos
  obtain ⟨g', o', he, hS, hc⟩ := h4 (by omega)
  cases he
  refine ⟨g, o + k * r.size, by rw [if_neg (by omega)], hS, fun j u hj => ?_⟩
  rw [List.getElem?_drop] at hj
  have := hc _ _ hj
  rw [← Nat.add_assoc] at this
  exact this
namespace Hu
theorem longer_at {out mo : List Int} {inn : List (Int × Int)} {j : Nat} (h1 : (rest out inn).length ≤ j) (h2 : j < (rest (out ++ mo) inn).length) :
    ∃ (q : Nat) (x : Int), (rest (out ++ mo) inn)[j]? = some ((q : Int) + 1, x) ∧ out.length ≤ q ∧ q < (out ++ mo).length ∧ (out ++ mo)[q]? = some x ∧ place inn ((q : Int) + 1) < 0 := by
  rw [rest_append] at h2 ⊢
  obtain ⟨m, hm⟩ : ∃ m, ((numb out.length mo).filter fun m => !has inn m.1)[j - (rest out inn).length]? = some m := by
    rw [List.length_append] at h2
    exact ⟨_, List.getElem?_eq_getElem (by omega)⟩
  have hmem := List.mem_of_getElem? hm
  rw [List.mem_filter] at hmem
  obtain ⟨h3, h4⟩ := hmem
  obtain ⟨i, hi, rfl⟩ := mem_numb.1 h3
  refine ⟨out.length + i, mo.getD i 0, by rw [List.getElem?_append_right h1]; exact hm, by omega, by rw [List.length_append]; omega, ?_, ?_⟩
  · rw [List.getElem?_append_right (by omega), Nat.add_sub_cancel_left, List.getD, List.getElem?_eq_getElem hi]; rfl
  · rw [place_neg]; simpa using h4
theorem longer_take (out mo : List Int) (inn : List (Int × Int)) : (rest (out ++ mo) inn).take (rest out inn).length = rest out inn := by
  rw [rest_append, List.take_left]
theorem longer_len (out mo : List Int) (inn : List (Int × Int)) : (rest out inn).length ≤ (rest (out ++ mo) inn).length := by
  rw [rest_append, List.length_append]; omega
end Hu
end Go.Proofs.Ytmbilaepeekglaa
