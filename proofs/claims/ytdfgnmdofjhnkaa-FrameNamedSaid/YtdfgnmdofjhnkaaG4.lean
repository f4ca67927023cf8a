/- Lemmas, walks and contracts that the statements of this seat are proved by. -/
import Derived.Test.YtdfgnmdofjhnkaaG2
import Derived.RegionTactic
import Derived.OwnWalk
import Derived.Test.YtdfgnmdofjhnkaaG3
import Derived.Test.YtdfgnmdofjhnkaaG1
import Derived.Deep.RegionHeld3
/- append: onto a row of the call's own, of a slice that reads as a list, or of elements made on the spot. Nothing of the program. -/
namespace Go.Proofs.Ytdfgnmdofjhnkaa
open Go.RowKit

theorem add_at (g o j : Nat) : (⟨g, o, none⟩ : Addr).add j = ⟨g, o + j, none⟩ := by
  unfold Addr.add
  split
  · subst_vars; rfl
  · rfl

theorem run_append_nothing {P : Program} (w : World) (base : Nat) (t ty e : TypeId) (i : TypeInfo) (size : Nat) (ht : P.underlying t = some (.slice e)) (hi : P.info? e = some i)
    (v : Value) (n : Nat) (xs : List Value) (hown : w.ownsRow base e size v n xs) (c : Nat) : (Builtin.append_ #[t, t] ty #[v, .slice none 0 c]).run P w = .ok v w := by
  rcases hown.2 with ⟨rfl, rfl⟩ | ⟨g, cap, cur, rfl, _, _, hnc, _⟩
  · simp [Builtin.append_, run_underlying ht, sizeOf, typeInfo, hi, Builtin.lenOf, Builtin.firstCells]
  · simp [Builtin.append_, run_underlying ht, sizeOf, typeInfo, hi, Builtin.lenOf, Builtin.firstCells, hnc, storeCells]

/-- What is appended: m elements, the cells 'news'. -/
def Src (w : World) (A : Option Addr) (m : Nat) (news : List Value) : Prop := 0 < m → ∃ g o, A = some ⟨g, o, none⟩ ∧ ∀ j u, news[j]? = some u → w.cell? ⟨g, o + j, none⟩ = some u

theorem Src.of {α : Type} {r : Rep α} {fr : Bool} {w : World} {lo hi : Nat} {A : Option Addr} {xs : List α} (h : SliceAt r fr w lo hi A xs) :
    ∃ news, news.length = xs.length * r.size ∧ r.all fr w (rng lo hi) news xs ∧ Src w A xs.length news := by
  obtain ⟨cells, h1, h2⟩ := h
  refine ⟨cells, Rep.all_len h1, h1, fun hn => ?_⟩
  obtain ⟨g, o, rfl, _, h3⟩ := h2 hn
  exact ⟨g, o, rfl, fun j u hj => (h3 j u hj).1⟩

theorem Src.block {w : World} (cs : List Value) (e : TypeId) (m : Nat) : Src (w.alloc (.cells cs.toArray e)) (some ⟨w.heap.size, 0, none⟩) m cs := by
  intro _
  refine ⟨_, _, rfl, fun j u hj => ?_⟩
  rw [Nat.zero_add]
  rw [cell_of_row (w.alloc (.cells cs.toArray e)) w.heap.size j cs.toArray e (0, 0) (heap_alloc_new w _)]
  simpa using hj

theorem run_append_src {P : Program} (w : World) (base : Nat) (t ty e : TypeId) {z : Value} {size bytes : Nat} (hinfo : (P.info? e).map (fun i => (i.zero, i.size, i.bytes)) = some (some z, size, bytes)) (ht : P.underlying t = some (.slice e))
    (hzs : z.cells.size = size) (hsz : 0 < size) (v : Value) (n : Nat) (xs : List Value) (hown : w.ownsRow base e size v n xs)
    (A : Option Addr) (m c : Nat) (news : List Value) (hl : news.length = m * size) (hr : Src w A m news) (hA : A = none → m = 0) (hin : m = 0 → A ≠ none → ∃ g o, A = some ⟨g, o, none⟩) (h1 : ∀ u ∈ news, u.oneCell' = true)
    (h63 : n + m ≤ maxLen) (hbytes : (n + m) * bytes ≤ 140737488355328) (hbase : base ≤ w.heap.size) :
    ∃ v' w', (Builtin.append_ #[t, t] ty #[v, .slice A m c]).run P w = .ok v' w' ∧ w'.ownsRow base e size v' (n + m) (xs ++ news) ∧ w.grownBy w' v.ownBlock ∧
      (v'.ownBlock = v.ownBlock ∨ v'.ownBlock = some w.heap.size) := by
  obtain ⟨i, hi, hz, hsize, hby⟩ := info_parts hinfo
  rcases A with _ | ad
  · obtain rfl := hA rfl
    have hn : news = [] := List.eq_nil_of_length_eq_zero (by simpa using hl)
    subst hn
    exact ⟨v, w, run_append_nothing w base t ty e i size ht hi v n xs hown c, by simpa using hown, World.grownBy.refl w _, .inl rfl⟩
  · have hcells : ∀ j u, news[j]? = some u → w.cell? (ad.add j) = some u := by
      intro j u hu
      rcases Nat.eq_zero_or_pos m with h0 | h0
      · subst h0
        have hn : news = [] := List.eq_nil_of_length_eq_zero (by simpa using hl)
        subst hn
        simp at hu
      · obtain ⟨g, o, h, hc⟩ := hr h0
        injection h with h
        subst h
        rw [add_at]
        exact hc j u hu
    obtain ⟨v', w', hrun, h2, h3, _, h5⟩ := run_append_own_at (P := P) w base t ty e i z size bytes ht hi hz hsize hby hzs hsz v n xs hown ad m c news hl hcells h1 h63 hbytes hbase
    exact ⟨v', w', hrun, h2, h3, h5⟩

section
variable {P : Program} {w : World} {ops : Array Oper} {rest : List Oper} {o : Oper} {a : Act} {Q : Exit → Act → World → Prop}

theorem wp_append_src {K : Act → World → Prop} (s x : Operand) (t : TypeId) (ho : o.op = .call { callee := .builtin .append, args := #[s, x], argTypes := #[t, t] })
    (base : Nat) (e : TypeId) {z : Value} {size bytes : Nat} (hinfo : (P.info? e).map (fun i => (i.zero, i.size, i.bytes)) = some (some z, size, bytes)) (ht : P.underlying t = some (.slice e))
    (hzs : z.cells.size = size) (hsz : 0 < size) (v : Value) (n : Nat) (xs : List Value) (hs : a.eval s = v) (hown : w.ownsRow base e size v n xs)
    (A : Option Addr) (m c : Nat) (news : List Value) (hx : a.eval x = .slice A m c) (hl : news.length = m * size) (hr : Src w A m news) (h1 : ∀ u ∈ news, u.oneCell' = true)
    (h63 : n + m ≤ maxLen) (hbytes : (n + m) * bytes ≤ 140737488355328) (hbase : base ≤ w.heap.size)
    (h : ∀ v' w', w'.ownsRow base e size v' (n + m) (xs ++ news) → w.grownBy w' v.ownBlock → Below base w w' → (v'.ownBlock = v.ownBlock ∨ v'.ownBlock = some w.heap.size) → K (a.put o.dst v') w') : o.wp P a w K Q := by
  have hA : A = none → m = 0 := by
    rintro rfl
    rcases Nat.eq_zero_or_pos m with h0 | h0
    · exact h0
    · obtain ⟨_, _, h, _⟩ := hr h0; cases h
  by_cases hin : ∃ ad, A = some ad ∧ m = 0
  · obtain ⟨ad, rfl, rfl⟩ := hin
    have hn : news = [] := List.eq_nil_of_length_eq_zero (by simpa using hl)
    subst hn
    obtain ⟨i, hi, hz, hsize, hby⟩ := info_parts hinfo
    obtain ⟨v', w', hrun, h2, h3, _, h5⟩ := run_append_own_at (P := P) w base t o.type e i z size bytes ht hi hz hsize hby hzs hsz v n xs hown ad 0 c [] (by simp) (by simp) (by simp) h63 hbytes hbase
    unfold Oper.wp execOp
    simp only [ho, resolve, invoke, builtin, Sem.run_bind, Sem.run_pure, Result.andThen_ok, List.map_toArray, List.map_cons, List.map_nil, hs, hx, hrun]
    exact h v' w' h2 h3 (below_of_grown hown h3 hbase) h5
  · obtain ⟨v', w', hrun, h2, h3, h4⟩ := run_append_src (P := P) w base t o.type e hinfo ht hzs hsz v n xs hown A m c news hl hr hA (fun h0 hne => absurd ⟨A.get (Option.isSome_iff_ne_none.2 hne), by simp, h0⟩ hin) h1 h63 hbytes hbase
    unfold Oper.wp execOp
    simp only [ho, resolve, invoke, builtin, Sem.run_bind, Sem.run_pure, Result.andThen_ok, List.map_toArray, List.map_cons, List.map_nil, hs, hx, hrun]
    exact h v' w' h2 h3 (below_of_grown hown h3 hbase) h4

/-- 'append(s, x...)', x a slice that reads as a list. -/
theorem wpList_appendS {α : Type} {r : Rep α} {fr : Bool} {lo hi : Nat} {ys : List α} (hgd : o.guard = none) (s x : Operand) (t : TypeId) (ho : o.op = .call { callee := .builtin .append, args := #[s, x], argTypes := #[t, t] })
    (base : Nat) (e : TypeId) {z : Value} {bytes : Nat} (hinfo : (P.info? e).map (fun i => (i.zero, i.size, i.bytes)) = some (some z, r.size, bytes)) (ht : P.underlying t = some (.slice e))
    (hzs : z.cells.size = r.size) (v : Value) (n : Nat) (xs : List Value) (hs : a.eval s = v) (hown : w.ownsRow base e r.size v n xs)
    (A : Option Addr) (c : Nat) (hx : a.eval x = .slice A ys.length c) (hr : SliceAt r fr w lo hi A ys)
    (h63 : n + ys.length ≤ maxLen) (hbytes : (n + ys.length) * bytes ≤ 140737488355328) (hbase : base ≤ w.heap.size)
    (h : ∀ v' w' news, r.all fr w (rng lo hi) news ys → w'.ownsRow base e r.size v' (n + ys.length) (xs ++ news) → w.grownBy w' v.ownBlock → Below base w w' → (v'.ownBlock = v.ownBlock ∨ v'.ownBlock = some w.heap.size) → wpList P ops Q rest (a.put o.dst v') w') : wpList P ops Q (o :: rest) a w := by
  obtain ⟨news, h1, h2, h3⟩ := Src.of hr
  exact wpList_plain hgd fun _ hK => wp_append_src s x t ho base e hinfo ht hzs r.pos v n xs hs hown A ys.length c news hx h1 h3 (Rep.all_one h2) h63 hbytes hbase fun v' w' k1 k2 k3 k4 => hK _ _ (h v' w' news h2 k1 k2 k3 k4)

/-- 'append(s, x, y, ..)': the elements lie in a block made on the spot. -/
theorem wpList_appendB {size : Nat} (hgd : o.guard = none) (s x : Operand) (t : TypeId) (ho : o.op = .call { callee := .builtin .append, args := #[s, x], argTypes := #[t, t] })
    (base : Nat) (e : TypeId) {z : Value} {bytes : Nat} (hinfo : (P.info? e).map (fun i => (i.zero, i.size, i.bytes)) = some (some z, size, bytes)) (ht : P.underlying t = some (.slice e))
    (hzs : z.cells.size = size) (hsz : 0 < size) (v : Value) (n : Nat) (xs : List Value) (hs : a.eval s = v) (hown : w.ownsRow base e size v n xs)
    (m c H : Nat) (cs : List Value) (hx : a.eval x = .slice (some ⟨H, 0, none⟩) m c) (hH : w.heap.size = H) (hl : cs.length = m * size) (h1 : ∀ u ∈ cs, u.oneCell' = true)
    (h63 : n + m ≤ maxLen) (hbytes : (n + m) * bytes ≤ 140737488355328) (hbase : base ≤ w.heap.size)
    (h : ∀ v' w', w'.ownsRow base e size v' (n + m) (xs ++ cs) → w.grownBy w' v.ownBlock → Below base w w' → (v'.ownBlock = v.ownBlock ∨ v'.ownBlock = some (w.heap.size + 1)) → wpList P ops Q rest (a.put o.dst v') w') : wpList P ops Q (o :: rest) a (w.alloc (.cells cs.toArray e)) := by
  subst hH
  have hown' : (w.alloc (.cells cs.toArray e)).ownsRow base e size v n xs := hown.alloc _
  refine wpList_plain hgd fun _ hK => wp_append_src s x t ho base e hinfo ht hzs hsz v n xs hs hown' _ m c cs hx hl (Src.block cs e m) h1 h63 hbytes (by simp; omega) fun v' w' k1 k2 k3 k4 => hK _ _ (h v' w' k1 ?_ ?_ (by simpa using k4))
  · have h0 := World.grownBy_alloc w (.cells cs.toArray e) v.ownBlock
    exact ⟨k2.os.trans h0.os, k2.tape.trans h0.tape, k2.output.trans h0.output, Nat.le_trans h0.size k2.size, fun k hk hne => (k2.block k (by simp; omega) hne).trans (h0.block k hk hne)⟩
  · exact ((Below.refl _ _).alloc hbase _).trans k3

/-- 'append(s, x...)' at a step of a region that draws its order. -/
theorem step_appendS {α : Type} {r : Rep α} {fr : Bool} {lo hi : Nat} {ys : List α} {K : Act → World → Prop} {E : Prop} (hgd : o.guard = none) (s x : Operand) (t : TypeId) (ho : o.op = .call { callee := .builtin .append, args := #[s, x], argTypes := #[t, t] })
    (base : Nat) (e : TypeId) {z : Value} {bytes : Nat} (hinfo : (P.info? e).map (fun i => (i.zero, i.size, i.bytes)) = some (some z, r.size, bytes)) (ht : P.underlying t = some (.slice e))
    (hzs : z.cells.size = r.size) (v : Value) (n : Nat) (xs : List Value) (hs : a.eval s = v) (hown : w.ownsRow base e r.size v n xs)
    (A : Option Addr) (c : Nat) (hx : a.eval x = .slice A ys.length c) (hr : SliceAt r fr w lo hi A ys)
    (h63 : n + ys.length ≤ maxLen) (hbytes : (n + ys.length) * bytes ≤ 140737488355328) (hbase : base ≤ w.heap.size)
    (h : ∀ v' w' news, r.all fr w (rng lo hi) news ys → w'.ownsRow base e r.size v' (n + ys.length) (xs ++ news) → w.grownBy w' v.ownBlock → Below base w w' → (v'.ownBlock = v.ownBlock ∨ v'.ownBlock = some w.heap.size) → K (a.put o.dst v') w') :
    if Region.wanted o (yielded ops a.tmps) = true then Oper.wp P o a w K Q else E := by
  obtain ⟨news, h1, h2, h3⟩ := Src.of hr
  have hw : Region.wanted o (yielded ops a.tmps) = true := by simp [Region.wanted, hgd]
  rw [if_pos hw]
  exact wp_append_src s x t ho base e hinfo ht hzs r.pos v n xs hs hown A ys.length c news hx h1 h3 (Rep.all_one h2) h63 hbytes hbase fun v' w' k1 k2 k3 k4 => h v' w' news h2 k1 k2 k3 k4

theorem step_appendB {size : Nat} {K : Act → World → Prop} {E : Prop} (hgd : o.guard = none) (s x : Operand) (t : TypeId) (ho : o.op = .call { callee := .builtin .append, args := #[s, x], argTypes := #[t, t] })
    (base : Nat) (e : TypeId) {z : Value} {bytes : Nat} (hinfo : (P.info? e).map (fun i => (i.zero, i.size, i.bytes)) = some (some z, size, bytes)) (ht : P.underlying t = some (.slice e))
    (hzs : z.cells.size = size) (hsz : 0 < size) (v : Value) (n : Nat) (xs : List Value) (hs : a.eval s = v) (hown : w.ownsRow base e size v n xs)
    (A : Option Addr) (m c : Nat) (cs : List Value) (hx : a.eval x = .slice A m c) (hl : cs.length = m * size) (hr : Src w A m cs) (h1 : ∀ u ∈ cs, u.oneCell' = true)
    (h63 : n + m ≤ maxLen) (hbytes : (n + m) * bytes ≤ 140737488355328) (hbase : base ≤ w.heap.size)
    (h : ∀ v' w', w'.ownsRow base e size v' (n + m) (xs ++ cs) → w.grownBy w' v.ownBlock → Below base w w' → (v'.ownBlock = v.ownBlock ∨ v'.ownBlock = some w.heap.size) → K (a.put o.dst v') w') :
    if Region.wanted o (yielded ops a.tmps) = true then Oper.wp P o a w K Q else E := by
  have hw : Region.wanted o (yielded ops a.tmps) = true := by simp [Region.wanted, hgd]
  rw [if_pos hw]
  exact wp_append_src s x t ho base e hinfo ht hzs hsz v n xs hs hown A m c cs hx hl hr h1 h63 hbytes hbase h
end

/-! ### Rows of numbers. -/
def ints (l : List Int) : List Value := l.map (Value.int .i64)
@[simp] theorem ints_length (l : List Int) : (ints l).length = l.length := by simp [ints]
theorem ints_append (l k : List Int) : ints (l ++ k) = ints l ++ ints k := by simp [ints]
theorem ints_one (l : List Int) : ∀ u ∈ ints l, u.oneCell' = true := by
  intro u hu
  simp only [ints, List.mem_map] at hu
  obtain ⟨x, _, rfl⟩ := hu
  rfl
theorem ints_all (fr : Bool) (w : World) (S : Nat → Prop) : ∀ l : List Int, Rep.int.all fr w S (ints l) l := by
  intro l
  induction l with
  | nil => exact rfl
  | cons x t ih => exact ⟨[.int .i64 x], ints t, rfl, rfl, ih⟩
theorem all_ints {fr : Bool} {w : World} {S : Nat → Prop} : ∀ {l : List Int} {cells : List Value}, Rep.int.all fr w S cells l → cells = ints l := by
  intro l
  induction l with
  | nil => intro cells h; exact h
  | cons x t ih =>
    intro cells h
    obtain ⟨cs, rest, rfl, h1, h2⟩ := h
    have h1' : cs = [.int .i64 x] := h1
    rw [h1', ih h2]; rfl

/-- A slice of the call's own that holds the numbers 'acc'. -/
def OwnInts (e : TypeId) (base : Nat) (w : World) (v : Value) (acc : List Int) : Prop := w.ownsRow base e 1 v acc.length (ints acc)
theorem OwnInts.slice {e : TypeId} {base lo hi : Nat} {w : World} {v : Value} {acc : List Int} (h : OwnInts e base w v acc) (h1 : lo ≤ base) (h2 : w.heap.size ≤ hi) : SliceIs Rep.int true w lo hi v acc :=
  SliceIs.of_own (r := Rep.int) h (ints_all _ _ _ _) h1 h2
theorem own_lit {w : World} (base : Nat) (e : TypeId) {size : Nat} (n : Nat) (cs : List Value) (hl : cs.length = n * size) (hb : base ≤ w.heap.size) (hn : n ≤ maxLen) :
    (w.alloc (.cells cs.toArray e)).ownsRow base e size (.slice (some ⟨w.heap.size, 0, none⟩) n n) n cs :=
  ⟨hl, .inr ⟨w.heap.size, n, cs.toArray, rfl, hb, heap_alloc_new w _, Nat.le_refl _, hn, by simpa using hl, by rw [← hl]; simp⟩⟩
theorem OwnInts.lit {w : World} (base : Nat) (e : TypeId) (l : List Int) (hb : base ≤ w.heap.size) (hn : l.length ≤ maxLen) :
    OwnInts e base (w.alloc (.cells (ints l).toArray e)) (.slice (some ⟨w.heap.size, 0, none⟩) l.length l.length) l := own_lit base e l.length (ints l) (by simp) hb hn
theorem OwnInts.below {e : TypeId} {base : Nat} {w w' : World} {v : Value} {acc : List Int} (h : OwnInts e base w v acc) (hb : Below w.heap.size w w') : OwnInts e base w' v acc := own_below h hb

section
variable {P : Program} {w : World} {ops : Array Oper} {rest : List Oper} {o : Oper} {a : Act} {Q : Exit → Act → World → Prop}
theorem wpList_intsS {fr : Bool} {lo hi : Nat} (ys : List Int) (hgd : o.guard = none) (s x : Operand) (t : TypeId) (ho : o.op = .call { callee := .builtin .append, args := #[s, x], argTypes := #[t, t] })
    (base : Nat) (e : TypeId) (hinfo : (P.info? e).map (fun i => (i.zero, i.size, i.bytes)) = some (some (.int .i64 0), 1, 8)) (ht : P.underlying t = some (.slice e))
    (v : Value) (acc : List Int) (hs : a.eval s = v) (hown : OwnInts e base w v acc)
    (A : Option Addr) (c : Nat) (hx : a.eval x = .slice A ys.length c) (hr : SliceAt Rep.int fr w lo hi A ys)
    (hn : acc.length + ys.length ≤ 1000000000) (hbase : base ≤ w.heap.size)
    (h : ∀ v' w', OwnInts e base w' v' (acc ++ ys) → Below base w w' → wpList P ops Q rest (a.put o.dst v') w') : wpList P ops Q (o :: rest) a w := by
  refine wpList_appendS (r := Rep.int) hgd s x t ho base e hinfo ht rfl v acc.length (ints acc) hs hown A c hx hr (by unfold maxLen; omega) (by omega) hbase ?_
  intro v' w' news h1 h2 _ h4 _
  rw [all_ints h1, ← ints_append] at h2
  exact h v' w' (by unfold OwnInts; rw [List.length_append]; exact h2) h4
theorem wpList_intsB (ys : List Int) (hgd : o.guard = none) (s x : Operand) (t : TypeId) (ho : o.op = .call { callee := .builtin .append, args := #[s, x], argTypes := #[t, t] })
    (base : Nat) (e : TypeId) (hinfo : (P.info? e).map (fun i => (i.zero, i.size, i.bytes)) = some (some (.int .i64 0), 1, 8)) (ht : P.underlying t = some (.slice e))
    (v : Value) (acc : List Int) (hs : a.eval s = v) (hown : OwnInts e base w v acc) (c H : Nat) (hx : a.eval x = .slice (some ⟨H, 0, none⟩) ys.length c) (hH : w.heap.size = H)
    (hn : acc.length + ys.length ≤ 1000000000) (hbase : base ≤ w.heap.size)
    (h : ∀ v' w', OwnInts e base w' v' (acc ++ ys) → Below base w w' → wpList P ops Q rest (a.put o.dst v') w') : wpList P ops Q (o :: rest) a (w.alloc (.cells (ints ys).toArray e)) := by
  refine wpList_appendB hgd s x t ho base e hinfo ht rfl (by omega) v acc.length (ints acc) hs hown ys.length c H (ints ys) hx hH (by simp) (ints_one _) (by unfold maxLen; omega) (by omega) hbase ?_
  intro v' w' h2 _ h4 _
  rw [← ints_append] at h2
  exact h v' w' (by unfold OwnInts; rw [List.length_append]; exact h2) h4
theorem step_intsB (ys : List Int) {K : Act → World → Prop} {E : Prop} (hgd : o.guard = none) (s x : Operand) (t : TypeId) (ho : o.op = .call { callee := .builtin .append, args := #[s, x], argTypes := #[t, t] })
    (base : Nat) (e : TypeId) (hinfo : (P.info? e).map (fun i => (i.zero, i.size, i.bytes)) = some (some (.int .i64 0), 1, 8)) (ht : P.underlying t = some (.slice e))
    (v : Value) (acc : List Int) (hs : a.eval s = v) (hown : OwnInts e base w v acc) (c H : Nat) (hx : a.eval x = .slice (some ⟨H, 0, none⟩) ys.length c) (hH : w.heap.size = H)
    (hn : acc.length + ys.length ≤ 1000000000) (hbase : base ≤ w.heap.size)
    (h : ∀ v' w', OwnInts e base w' v' (acc ++ ys) → Below base w w' → K (a.put o.dst v') w') :
    if Region.wanted o (yielded ops a.tmps) = true then Oper.wp P o a (w.alloc (.cells (ints ys).toArray e)) K Q else E := by
  subst hH
  have hown' : (w.alloc (.cells (ints ys).toArray e)).ownsRow base e 1 v acc.length (ints acc) := hown.alloc _
  refine step_appendB hgd s x t ho base e hinfo ht rfl (by omega) v acc.length (ints acc) hs hown' _ ys.length c (ints ys) hx (by simp) (Src.block (ints ys) e ys.length) (ints_one _) (by unfold maxLen; omega) (by omega) (by simp; omega) ?_
  intro v' w' h2 _ h4 _
  rw [← ints_append] at h2
  exact h v' w' (by unfold OwnInts; rw [List.length_append]; exact h2) (((Below.refl _ _).alloc hbase _).trans h4)
end
theorem isInts_of {w : World} {fr : Bool} {v : Value} {xs : List Int} {hi : Nat} (h : SliceIs Rep.int fr w 0 hi v xs) : ∃ A c, v = .slice A xs.length c ∧ xs.length ≤ c ∧ c ≤ maxLen ∧ (xs ≠ [] → ∃ g o, A = some ⟨g, o, none⟩ ∧ g < hi ∧ ∀ k, k < xs.length → w.cell? ⟨g, o + k, none⟩ = some (.int .i64 (xs.getD k 0))) := by
  obtain ⟨A, c, rfl, h1, h2, h3⟩ := h
  refine ⟨A, c, rfl, h1, h2, fun hne => ?_⟩
  have hpos : 0 < xs.length := List.length_pos_iff.2 hne
  obtain ⟨cells, ha, hc⟩ := h3
  obtain ⟨g, o, rfl, ⟨_, h5⟩, h6⟩ := hc hpos
  refine ⟨g, o, rfl, h5, fun k hk => (h6 k _ ?_).1⟩
  rw [all_ints ha]
  simp [ints, List.getD, hk]
end Go.Proofs.Ytdfgnmdofjhnkaa

/- piece.Encode -/
namespace Go.Proofs.Ytdfgnmdofjhnkaa
open Go.RowKit

theorem IsInts.of_slice {w : World} {fr : Bool} {v : Value} {xs : List Int} {hi : Nat} (h : SliceIs Rep.int fr w 0 hi v xs) : IsInts w hi v xs := isInts_of h

def EncRel (A0 : List Int) (f : Nat → List Int) (n B : Nat) (W : World) (k : Nat) (v i : Value) (wr : World) : Prop :=
  ∃ (j : Nat) (acc : List Int), i = .int .i64 (j : Int) ∧ j ≤ n ∧ k = n - j ∧ OwnInts 3 B wr v acc ∧ acc = A0 ++ f j ∧ acc.length ≤ 20000 ∧ Below B W wr

set_option maxRecDepth 100000 in
set_option maxHeartbeats 8000000 in
theorem encode_yes (v : Value) (p : Pc.Piece) (w : World) (h : PieceIs false w 0 w.heap.size v p) (hh : Pc.right p = true) : Calls Try.prog 16 #[v] w
    fun x w' => x = .returned (.tuple #[.string ⟨(W.puts (Pc.nums p)).toArray⟩, .int .i64 0]) ∧ Below w.heap.size w w' := by
  have hsm := Pc.small_of hh
  have hR := fun w h => right_any v p w h
  rw [hh] at hR
  obtain ⟨n, s, t, xs, ms, os⟩ := p
  obtain ⟨a, b, c, rfl, h1, h2, h3⟩ := h
  dsimp only at h1 h2 h3 ⊢
  have hn : Pc.nums ⟨n, s, t, xs, ms, os⟩ = ([n, s, t, (xs.length : Int)] ++ xs ++ [(ms.length : Int)] ++ Pc.numsIn ms) ++ [(os.length : Int)] ++ Pc.numsOut os := rfl
  generalize Pc.nums ⟨n, s, t, xs, ms, os⟩ = nn at hn ⊢
  have HN := Lib.hid hn; clear hn
  have hb0 : Below w.heap.size w (w.alloc (.cells #[.int .i64 n, .int .i64 s, .int .i64 t, a, b, c] 26)) := (Below.refl _ _).alloc (Nat.le_refl _) _
  have hPW : PieceIs false (w.alloc (.cells #[.int .i64 n, .int .i64 s, .int .i64 t, a, b, c] 26)) 0 (w.alloc (.cells #[.int .i64 n, .int .i64 s, .int .i64 t, a, b, c] 26)).heap.size (.agg #[.int .i64 n, .int .i64 s, .int .i64 t, a, b, c]) ⟨n, s, t, xs, ms, os⟩ :=
    ⟨a, b, c, rfl, (h1.below hb0 (Nat.le_refl _)).widen (Nat.le_refl _) hb0.size, (h2.below hb0 (Nat.le_refl _)).widen (Nat.le_refl _) hb0.size, (h3.below hb0 (Nat.le_refl _)).widen (Nat.le_refl _) hb0.size⟩
  obtain ⟨A1, c1, rfl, l1, m1, h1⟩ := h1
  obtain ⟨A2, c2, rfl, l2, m2, h2⟩ := h2
  obtain ⟨A3, c3, rfl, l3, m3, h3⟩ := h3
  have HR := Lib.hid (hR _ hPW); clear hR hPW
  unfold maxLen at m1 m2 m3
  obtain ⟨q1, q2, q3, q4, q5⟩ := hsm
  dsimp only at q1 q2 q3 q4 q5
  have hni : ∀ j, (Pc.numsIn (ms.take j)).length ≤ 5005 := fun j => by
    have := Pc.numsIn_len (ms.take j) (fun x hx => q4 x (List.mem_of_mem_take hx))
    have : (ms.take j).length ≤ 5 := by simp; omega
    omega
  have hno : ∀ j, (Pc.numsOut (os.take j)).length ≤ 2505 := fun j => by
    have := Pc.numsOut_len (os.take j) (fun x hx => q5 x (List.mem_of_mem_take hx))
    have : (os.take j).length ≤ 5 := by simp; omega
    omega
  have HNI := Lib.hid hni; clear hni
  have HNO := Lib.hid hno; clear hno
  have HQ4 := Lib.hid q4; clear q4
  have HQ5 := Lib.hid q5; clear q5
  go_enter Try.func16, Try.ntmps16
  go_wp2_with fail
  refine (HR.out).mono ?_
  rintro e w1 ⟨rfl, hb1⟩
  have hlt0 : w.heap.size < w1.heap.size := by have := hb1.size; simp at this; omega
  replace hb1 := hb1.mono (B' := w.heap.size + 1) (by simp)
  have k0 : w1.cell? ⟨w.heap.size, 0, none⟩ = some (.int .i64 n) := (hb1.cell (by simp)).trans (by simp [go_sem])
  have k1 : w1.cell? ⟨w.heap.size, 1, none⟩ = some (.int .i64 s) := (hb1.cell (by simp)).trans (by simp [go_sem])
  have k2 : w1.cell? ⟨w.heap.size, 2, none⟩ = some (.int .i64 t) := (hb1.cell (by simp)).trans (by simp [go_sem])
  have k3 : w1.cell? ⟨w.heap.size, 3, none⟩ = some (.slice A1 xs.length c1) := (hb1.cell (by simp)).trans (by simp [go_sem])
  have k4 : w1.cell? ⟨w.heap.size, 4, none⟩ = some (.slice A2 ms.length c2) := (hb1.cell (by simp)).trans (by simp [go_sem])
  have k5 : w1.cell? ⟨w.heap.size, 5, none⟩ = some (.slice A3 os.length c3) := (hb1.cell (by simp)).trans (by simp [go_sem])
  replace hb0 := hb0.trans (hb1.mono (by omega))
  clear hb1
  replace h1 := h1.below hb0 (Nat.le_refl _)
  replace h2 := h2.below hb0 (Nat.le_refl _)
  replace h3 := h3.below hb0 (Nat.le_refl _)
  have HB0 := Lib.hid hb0; clear hb0
  have KK4 := Lib.hid k4; have KK5 := Lib.hid k5
  have hown : OwnInts 3 w1.heap.size (w1.alloc (.cells (ints [n, s, t, (xs.length : Int)]).toArray 3)) (.slice (some ⟨w1.heap.size, 0, none⟩) 4 4) [n, s, t, (xs.length : Int)] :=
    OwnInts.lit _ _ _ (Nat.le_refl _) (by simp [maxLen])
  have hb2 : Below w1.heap.size w1 (w1.alloc (.cells (ints [n, s, t, (xs.length : Int)]).toArray 3)) := (Below.refl _ _).alloc (Nat.le_refl _) _
  have h1w := h1.below hb2 (by omega)
  have HOWN := Lib.hid hown; clear hown
  have HB2 := Lib.hid hb2; clear hb2
  have H1W := Lib.hid h1w; clear h1w
  clear h1
  go_wp2_with (first | (at_builtin; refine wpList_intsS xs rfl (.tmp 24) (.tmp 26) 22 rfl w1.heap.size 3 Try.infoInt Try.underlying22 _ _ rfl HOWN.out _ _ rfl H1W.out (by simp; omega) (by simp) ?_; intro v3 w3 hown3 hb3; have hb3w := HB2.out.trans (hb3); clear hb3; have k4' : w3.cell? ⟨w.heap.size, 4, none⟩ = some (.slice A2 ms.length c2) := (hb3w.cell hlt0).trans KK4.out; have hs3 := hb3w.size; have hn3 : ([n, s, t, (xs.length : Int)] ++ xs).length ≤ 9 := (by simp; omega); generalize hacc : [n, s, t, (xs.length : Int)] ++ xs = a1 at hown3 hn3; have HA1 := Lib.hid hacc; clear hacc k0 k1 k2 k3 k4 k5 H1W HOWN HB2) | (at_builtin; refine wpList_intsB [(ms.length : Int)] rfl (.tmp 28) (.tmp 32) 22 rfl w1.heap.size 3 Try.infoInt Try.underlying22 _ _ rfl hown3 1 _ rfl (by simp) (by simp; omega) hs3 ?_; intro v4 w4 hown4 hb4; have hb4w := hb3w.trans hb4; clear hb4 hb3w k4'; have k4' : w4.cell? ⟨w.heap.size, 4, none⟩ = some (.slice A2 ms.length c2) := (hb4w.cell hlt0).trans KK4.out; have hs4 := hb4w.size; have hn4 : (a1 ++ [(ms.length : Int)]).length ≤ 10 := (by simp; omega); generalize hacc : a1 ++ [(ms.length : Int)] = a2 at hown4 hn4; have HA2 := Lib.hid hacc; clear hacc hown3 hn3 hs3))
  clear k4'
  go_loopg [4, 6, 8, 37, 48] ms.length (fun k v _ _ i _ wr => EncRel a2 (fun j => Pc.numsIn (ms.take j)) ms.length w1.heap.size w1 k v i wr)
  case atStart => exact ⟨0, a2, rfl, by omega, by omega, hown4, by simp [Pc.numsIn], by omega, hb4w⟩
  case round =>
    clear hb4w hs4 hown4
    obtain ⟨j, acc, rfl, hj, hk, hown, hacc, hal, hb⟩ := hrel
    dsimp only at hacc
    have HK := Lib.hid hk; clear hk
    have hsz := hb.size
    have HACC := Lib.hid hacc; clear hacc
    by_cases hlt : j < ms.length
    · obtain ⟨x, hx⟩ := Pc.get_at hlt
      obtain ⟨g, o, vx, rfl, _, hg, c0, ⟨Ax, cx, rfl, lx, mx, hxa⟩⟩ := (h2.below hb (by omega)).row hx
      have hxl := HQ4.out x (List.mem_of_getElem? hx)
      have hal2 : acc.length ≤ 6000 := by rw [HACC.out]; have := HNI.out j; simp; omega
      have HX := Lib.hid hx; clear hx h2 h3
      unfold maxLen at mx
      go_wp2_with (at_builtin; refine wpList_intsB [(x.length : Int)] rfl (.tmp 41) (.tmp 44) 22 rfl w1.heap.size 3 Try.infoInt Try.underlying22 _ _ rfl hown 1 _ rfl (by simp) (by simp; omega) hsz ?_; intro v5 w5 hown5 hb5; have hb5w := hb.trans hb5; clear hb; have hs5 := hb5w.size)
      replace hxa := hxa.below hb5 (by omega)
      clear hb5 c0 hsz
      obtain ⟨wo, rfl⟩ : ∃ wo : World, wo = w5 := ⟨_, rfl⟩
      go_loopg [4, 8, 48] x.length (fun k v _ i wr => EncRel (acc ++ [(x.length : Int)]) (fun j => Pc.pairs (x.take j)) x.length w1.heap.size wo k v i wr)
      case atStart => exact ⟨0, _, rfl, by omega, by omega, hown5, by simp [Pc.pairs], by simp; omega, Below.refl _ _⟩
      case round =>
        clear hown5
        obtain ⟨j2, acc2, rfl, hj2, hk2, hown2, hacc2, hal3, hb2⟩ := hrel
        dsimp only at hacc2
        have HK2 := Lib.hid hk2; clear hk2
        have HACC2 := Lib.hid hacc2; clear hacc2
        have hs2 := (hb5w.trans hb2).size
        by_cases hlt2 : j2 < x.length
        · obtain ⟨⟨sq, lt⟩, hm⟩ := Pc.get_at hlt2
          obtain ⟨gx, ox, rfl, _, hgx, d0, d1⟩ := (hxa.below hb2 (by omega)).msg hm
          dsimp only at d0 d1
          have HM := Lib.hid hm; clear hm hxa
          have hown3 : OwnInts 3 w1.heap.size (wr.alloc (.cells #[.int .i64 sq, .int .i64 lt] 47)) u4 acc2 := hown2.below ((Below.refl _ _).alloc (Nat.le_refl _) _)
          have HOWN3 := Lib.hid hown3; clear hown3 hown2
          have hal4 : acc2.length ≤ 8000 := by rw [HACC2.out]; have := Pc.pairs_len (x.take j2); have : (x.take j2).length ≤ 500 := (by simp; omega); simp at *; omega
          go_wp2_with (at_builtin; refine wpList_intsB [sq, lt] rfl (.tmp 52) (.tmp 57) 22 rfl w1.heap.size 3 Try.infoInt Try.underlying22 _ _ rfl HOWN3.out 2 _ rfl (by simp) (by simp; omega) (by simp; omega) ?_; intro v6 w6 hown6 hb6; have hb6w := ((Below.refl w1.heap.size wr).alloc (by omega) _).trans hb6; clear hb6)
          go_roundg (x.length - (j2 + 1))
          case rel => exact ⟨j2 + 1, _, by simp, by omega, rfl, hown6, by dsimp only; rw [HACC2.out, Pc.take_next HM.out, Pc.pairs_snoc]; simp, by simp; omega, hb2.trans hb6w⟩
          case measure => have := HK2.out; omega
        · go_wp2_with fail
          go_roundg (ms.length - (j + 1))
          case rel =>
            refine ⟨j + 1, acc2, by simp, by omega, rfl, hown2, ?_, hal3, hb5w.trans hb2⟩
            dsimp only
            rw [HACC2.out, HACC.out, Pc.take_next HX.out, Pc.numsIn_snoc, show x.take j2 = x from List.take_of_length_le (by omega)]
            simp
          case measure => have := HK.out; omega
    · have k5' : wr.cell? ⟨w.heap.size, 5, none⟩ = some (.slice A3 os.length c3) := (hb.cell hlt0).trans KK5.out
      have hal2 : acc.length ≤ 6000 := by rw [HACC.out]; have := HNI.out j; simp; omega
      have ha3 : acc = a2 ++ Pc.numsIn ms := by rw [HACC.out, List.take_of_length_le (by omega)]
      have HA3 := Lib.hid ha3; clear ha3 HACC
      clear h2
      go_wp2_with (at_builtin; refine wpList_intsB [(os.length : Int)] rfl (.tmp 61) (.tmp 65) 22 rfl w1.heap.size 3 Try.infoInt Try.underlying22 _ _ rfl hown 1 _ rfl (by simp) (by simp; omega) hsz ?_; intro v5 w5 hown5 hb5; have hb5w := hb.trans hb5; clear hb k5'; have k5' : w5.cell? ⟨w.heap.size, 5, none⟩ = some (.slice A3 os.length c3) := (hb5w.cell hlt0).trans KK5.out; have hs5 := hb5w.size)
      have hal5 : (acc ++ [(os.length : Int)]).length ≤ 6001 := by simp; omega
      generalize hacc5 : acc ++ [(os.length : Int)] = a5 at hown5 hal5
      have HA5 := Lib.hid hacc5; clear hacc5
      clear k5' hb5 hsz hlt hj HK hown
      go_loopg [4, 10, 70] os.length (fun k v _ i wr => EncRel a5 (fun j => Pc.numsOut (os.take j)) os.length w1.heap.size w1 k v i wr)
      case atStart => exact ⟨0, a5, rfl, by omega, by omega, hown5, by simp [Pc.numsOut], by omega, hb5w⟩
      case round =>
        clear hb5w hs5 hown5
        obtain ⟨j, acc6, rfl, hj, hk, hown, hacc, hal, hb⟩ := hrel
        dsimp only at hacc
        have HK := Lib.hid hk; clear hk
        have hsz := hb.size
        have HACC := Lib.hid hacc; clear hacc
        by_cases hlt : j < os.length
        · obtain ⟨x, hx⟩ := Pc.get_at hlt
          obtain ⟨g, o, vx, rfl, _, hg, c0, ⟨Ax, cx, rfl, lx, mx, hxa⟩⟩ := (h3.below hb (by omega)).row hx
          have hxl := HQ5.out x (List.mem_of_getElem? hx)
          have hal6 : acc6.length ≤ 8510 := by rw [HACC.out]; have := HNO.out j; simp; omega
          have HX := Lib.hid hx; clear hx h3
          unfold maxLen at mx
          go_wp2_with (first | (at_builtin; refine wpList_intsB [(x.length : Int)] rfl (.tmp 74) (.tmp 77) 22 rfl w1.heap.size 3 Try.infoInt Try.underlying22 _ _ rfl hown 1 _ rfl (by simp) (by simp; omega) hsz ?_; intro v7 w7 hown7 hb7; have hxa7 := hxa.below hb7 (by omega); have hb7w := hb.trans hb7; have hs7 := hb7w.size; clear hb hxa hb7) | (at_builtin; refine wpList_intsS x rfl (.tmp 79) (.tmp 80) 22 rfl w1.heap.size 3 Try.infoInt Try.underlying22 _ _ rfl hown7 _ _ rfl hxa7 (by simp; omega) hs7 ?_; intro v8 w8 hown8 hb8))
          go_roundg (os.length - (j + 1))
          case rel =>
            refine ⟨j + 1, _, by simp, by omega, rfl, hown8, by dsimp only; rw [HACC.out, Pc.take_next HX.out, Pc.numsOut_snoc]; simp, ?_, hb7w.trans hb8⟩
            rw [HACC.out]; have := HNO.out j; simp; omega
          case measure => have := HK.out; omega
        · have hin := IsInts.of_slice (hown.slice (lo := 0) (Nat.zero_le _) (Nat.le_refl _))
          have hfin : acc6 = nn := by rw [HACC.out, List.take_of_length_le (by omega), ← HA5.out, HA3.out, ← HA2.out, ← HA1.out, HN.out]
          have HFIN := Lib.hid hfin; clear hfin
          go_wp2_with fail
          refine (puts_any _ _ _ hin (by omega)).mono ?_
          rintro e w9 ⟨rfl, hb9⟩
          go_wp2_with fail
          go_ret2
          exact ⟨by rw [HFIN.out]; rfl, (HB0.out.trans (hb.mono (by omega))).trans (hb9.mono (by omega))⟩

theorem encode_any (v : Value) (p : Pc.Piece) (w : World) (h : PieceIs false w 0 w.heap.size v p) : Calls Try.prog 16 #[v] w
    fun x w' => x = .returned (.tuple #[.string ⟨(Pc.enc p).toArray⟩, .int .i64 (Pc.err p)]) ∧ Below w.heap.size w w' := by
  unfold Pc.enc Pc.err
  cases hh : Pc.right p
  · have hb0 : Below w.heap.size w (w.alloc (.cells v.cells 26)) := (Below.refl _ _).alloc (Nat.le_refl _) _
    have hR := right_any v p _ ((h.below hb0 (Nat.le_refl _)).widen (Nat.le_refl _) hb0.size)
    rw [hh] at hR
    obtain ⟨a, b, c, rfl, h1, h2, h3⟩ := h
    have HR := Lib.hid hR; clear hR hh h1 h2 h3
    go_enter Try.func16, Try.ntmps16
    go_wp2_with fail
    refine (HR.out).mono ?_
    rintro e w1 ⟨rfl, hb1⟩
    go_wp2_with fail
    go_ret2
    exact ⟨rfl, hb0.trans (hb1.mono (by simp))⟩
  · exact encode_yes v p w h hh
end Go.Proofs.Ytdfgnmdofjhnkaa

/- piece.Decode: its closures. -/
namespace Go.Proofs.Ytdfgnmdofjhnkaa
open Go.RowKit

/-- Block g holds the numbers that are left. -/
def Rdr (g lo : Nat) (w : World) (l : List Int) : Prop := ∃ v, w.heap[g]? = some (.cells #[v] 22 (0, 0)) ∧ SliceIs Rep.int false w lo g v l

theorem grown_set {w : World} {g : Nat} (u : Value) : w.grownBy (w.setCell ⟨g, 0, none⟩ u) (some g) :=
  ⟨rfl, rfl, rfl, by simp [World.setCell], fun k hk hne => heap_setCell_other _ _ _ _ (by rintro rfl; exact hne rfl)⟩
theorem Rdr.far {g lo : Nat} {w w' : World} {l : List Int} (h : Rdr g lo w l) (hb : ∀ b, b ≤ g → w'.heap[b]? = w.heap[b]?) : Rdr g lo w' l := by
  obtain ⟨v, h1, h2⟩ := h
  exact ⟨v, (hb g (Nat.le_refl _)).trans h1, h2.keep fun b _ hb2 => hb b (by omega)⟩
theorem Rdr.below {g lo B : Nat} {w w' : World} {l : List Int} (h : Rdr g lo w l) (hb : Below B w w') (hB : g < B) : Rdr g lo w' l := h.far fun b h2 => hb.block b (by omega)
theorem Rdr.lt {g lo : Nat} {w : World} {l : List Int} (h : Rdr g lo w l) : g < w.heap.size := by
  obtain ⟨v, h1, _⟩ := h; exact lt_of_block h1

theorem slice_next {A : Option Addr} {w : World} {x : Int} {lo hi : Nat} {l : List Int} {c : Nat} (h : SliceAt Rep.int false w lo hi A (x :: l)) (hl : l.length + 1 ≤ c) (hc : c ≤ maxLen) (g o : Nat) (hA : A = some ⟨g, o, none⟩) :
    SliceIs Rep.int false w lo hi (.slice (if c = 1 then some ⟨g, o, none⟩ else some ⟨g, o + 1, none⟩) l.length (c - 1)) l := by
  subst hA
  refine ⟨_, _, rfl, by omega, by omega, ?_⟩
  obtain ⟨cells, h1, h2⟩ := h
  refine ⟨ints l, ints_all _ _ _ _, fun hn => ?_⟩
  obtain ⟨g', o', he, h3, h5⟩ := h2 (by simp)
  injection he with he
  injection he with he1 he2
  subst he1 he2
  have e1 := all_ints h1
  rw [if_neg (by omega)]
  refine ⟨g, o + 1, rfl, h3, fun j u hj => ?_⟩
  have := h5 (j + 1) u (by rw [e1]; simpa [ints] using hj)
  rwa [show o + 1 + j = o + (j + 1) from by omega]

set_option maxRecDepth 100000 in
set_option maxHeartbeats 2000000 in
theorem next_any' (g lo : Nat) (l : List Int) (w : World) (h : Rdr g lo w l) : Calls Try.prog 46 #[.pointer (some ⟨g, 0, none⟩)] w
    fun x w' => x = .returned (.int .i64 (Pc.nx l).1) ∧ Rdr g lo w' (Pc.nx l).2 ∧ w.grownBy w' (some g) := by
  obtain ⟨v, h1, A, c, rfl, hl, hc, hA⟩ := h
  have c0 := cell_of_one h1
  have f0 := free_of_one h1
  have H1 := Lib.hid h1; clear h1
  unfold maxLen at hc
  cases l with
  | nil =>
    go_enter Try.func46, Try.ntmps46
    go_wp2_with fail
    go_ret
    exact ⟨rfl, ⟨_, H1.out, A, c, rfl, hl, by unfold maxLen; omega, hA⟩, World.grownBy.refl _ _⟩
  | cons x t =>
    obtain ⟨gx, ox, rfl, _, hgx, d0⟩ := hA.int (k := 0) (x := x) rfl
    rw [Nat.add_zero] at d0
    have hS := slice_next hA (by simpa using hl) (by unfold maxLen; omega) gx ox rfl
    have hl' : t.length + 1 ≤ c := by simpa using hl
    have key : ∀ u : Value, SliceIs Rep.int false w lo g u t → Rdr g lo (w.setCell ⟨g, 0, none⟩ u) t ∧ w.grownBy (w.setCell ⟨g, 0, none⟩ u) (some g) := fun u hu =>
      ⟨⟨u, one_setCell H1.out, hu.keep fun b _ hb => heap_setCell_other _ _ _ _ (by simp; omega)⟩, grown_set u⟩
    have KEY := Lib.hid key; clear key hA
    by_cases hc1 : c = 1
    · subst hc1
      obtain rfl : t = [] := List.eq_nil_of_length_eq_zero (by omega)
      rw [if_pos rfl] at hS
      have HS := Lib.hid hS; clear hS
      go_enter Try.func46, Try.ntmps46
      go_wp2_with fail
      go_ret
      exact ⟨rfl, KEY.out _ HS.out⟩
    · rw [if_neg hc1] at hS
      have HS := Lib.hid hS; clear hS
      go_enter Try.func46, Try.ntmps46
      go_wp2_with fail
      go_ret
      exact ⟨rfl, KEY.out _ HS.out⟩

/-- What a reading step leaves: the rest in block g; nothing else has turned. -/
structure Step (g lo : Nat) (w w' : World) (l : List Int) : Prop where
  rdr : Rdr g lo w' l
  only : w.grownBy w' (some g)

theorem grown_cell {w w' : World} {g b : Nat} {o : Obj} (h : w.grownBy w' (some g)) (hb : w.heap[b]? = some o) (hne : b ≠ g) : w'.heap[b]? = some o :=
  (h.block b (by rcases Nat.lt_or_ge b w.heap.size with h1 | h1; exact h1; simp [Array.getElem?_eq_none h1] at hb) (by intro e; injection e with e; exact hne e)).trans hb
theorem grown_trans {a b c : World} {row : Option Nat} (h : a.grownBy b row) (h2 : b.grownBy c row) : a.grownBy c row :=
  ⟨h2.os.trans h.os, h2.tape.trans h.tape, h2.output.trans h.output, Nat.le_trans h.size h2.size, fun k hk hne => (h2.block k (Nat.lt_of_lt_of_le hk h.size) hne).trans (h.block k hk hne)⟩
theorem grown_of_below {a w : World} {row : Option Nat} (h : Below a.heap.size a w) : a.grownBy w row := ⟨h.os, h.tape, h.output, h.size, fun i hi _ => h.block i hi⟩

/-- The variable 'next', and the variable 'count'. -/
def nextV (g : Nat) : Value := .func (.func 46) #[] #[.pointer (some ⟨g, 0, none⟩)]
structure Env (g gn gc : Nat) (w : World) : Prop where
  n : w.heap[gn]? = some (.cells #[nextV g] 83 (0, 0))
  c : w.heap[gc]? = some (.cells #[.func (.func 47) #[] #[.pointer (some ⟨gn, 0, none⟩)]] 84 (0, 0))
  lt : g < gn
  ltc : gn < gc
theorem Env.grown {g gn gc : Nat} {w w' : World} (h : Env g gn gc w) (hg : w.grownBy w' (some g)) : Env g gn gc w' :=
  ⟨grown_cell hg h.n (by have := h.lt; omega), grown_cell hg h.c (by have := h.lt; have := h.ltc; omega), h.lt, h.ltc⟩

theorem next_any (g lo : Nat) (l : List Int) (w : World) (h : Rdr g lo w l) : Calls Try.prog 46 #[.pointer (some ⟨g, 0, none⟩)] w
    fun x w' => x = .returned (.int .i64 (Pc.nx l).1) ∧ Step g lo w w' (Pc.nx l).2 :=
  (next_any' g lo l w h).mono fun _ _ ⟨h1, h2, h3⟩ => ⟨h1, h2, h3⟩

set_option maxRecDepth 100000 in
set_option maxHeartbeats 2000000 in
theorem count_any (g gn gc lo : Nat) (l : List Int) (most : Int) (w : World) (he : Env g gn gc w) (h : Rdr g lo w l) : Calls Try.prog 47 #[.int .i64 most, .pointer (some ⟨gn, 0, none⟩)] w
    fun x w' => x = .returned (.int .i64 (Pc.cnt most l).1) ∧ Step g lo w w' (Pc.cnt most l).2 := by
  have cn := cell_of_one he.n
  unfold nextV at cn
  go_enter Try.func47, Try.ntmps47
  go_wp2_with fail
  refine (next_any g lo l _ h).mono ?_
  rintro e w1 ⟨rfl, hs⟩
  go_wp2_with fail
  go_ret
  exact ⟨rfl, hs⟩

/-- While a message is read: its cells are block r. -/
structure MsgInv (g lo gn r : Nat) (w0 w : World) (l : List Int) : Prop where
  rdr : Rdr g lo w l
  fnx : w.heap[gn]? = some (.cells #[nextV g] 83 (0, 0))
  fres : w.heap[r]? = some (.cells #[.int .i64 0, .int .i64 0] 47 (0, 0))
  only : w0.grownBy w (some g)
  ne1 : gn ≠ g
  ne2 : r ≠ g
theorem next_msg (g lo gn r : Nat) (w0 : World) (l : List Int) (w : World) (h : MsgInv g lo gn r w0 w l) : Calls Try.prog 46 #[.pointer (some ⟨g, 0, none⟩)] w
    fun x w' => x = .returned (.int .i64 (Pc.nx l).1) ∧ MsgInv g lo gn r w0 w' (Pc.nx l).2 :=
  (next_any g lo l w h.rdr).mono fun _ _ ⟨h1, h2⟩ => ⟨h1, h2.rdr, grown_cell h2.only h.fnx h.ne1, grown_cell h2.only h.fres h.ne2, grown_trans h.only h2.only, h.ne1, h.ne2⟩
theorem MsgInv.k {g lo gn r : Nat} {w0 w : World} {l : List Int} (h : MsgInv g lo gn r w0 w l) : w.cell? ⟨gn, 0, none⟩ = some (.func (.func 46) #[] #[.pointer (some ⟨g, 0, none⟩)]) := cell_of_one h.fnx
theorem MsgInv.c0 {g lo gn r : Nat} {w0 w : World} {l : List Int} (h : MsgInv g lo gn r w0 w l) : w.cell? ⟨r, 0, none⟩ = some (.int .i64 0) := cell_of_row w r 0 _ _ _ h.fres
theorem MsgInv.c1 {g lo gn r : Nat} {w0 w : World} {l : List Int} (h : MsgInv g lo gn r w0 w l) : w.cell? ⟨r, 1, none⟩ = some (.int .i64 0) := cell_of_row w r 1 _ _ _ h.fres
theorem MsgInv.f {g lo gn r : Nat} {w0 w : World} {l : List Int} (h : MsgInv g lo gn r w0 w l) (i : Nat) : w.frozen? ⟨r, i, none⟩ = false := by simp [World.frozen?, h.fres]

theorem blk_set {w : World} {g : Nat} {cs : Array Value} {t : TypeId} (h : w.heap[g]? = some (.cells cs t (0, 0))) (i : Nat) (u : Value) : (w.setCell ⟨g, i, none⟩ u).heap[g]? = some (.cells (cs.setIfInBounds i u) t (0, 0)) := by
  simp [World.setCell, Array.getElem?_modify, h]
theorem blk_cell {w : World} {g : Nat} {cs : Array Value} {t : TypeId} (h : w.heap[g]? = some (.cells cs t (0, 0))) (i : Nat) : w.cell? ⟨g, i, none⟩ = cs[i]? := cell_of_row w g i cs t (0, 0) h
theorem grown_new {w0 w : World} {g : Nat} (h : w0.grownBy w (some g)) {p : Addr} (hp : w0.heap.size ≤ p.block) (u : Value) : w0.grownBy (w.setCell p u) (some g) :=
  ⟨h.os, h.tape, h.output, by simpa [World.setCell] using h.size, fun i hi hne => (heap_setCell_other _ _ _ _ (by omega)).trans (h.block i hi hne)⟩

set_option maxRecDepth 100000 in
set_option maxHeartbeats 4000000 in
theorem rmsg_any (g gn gc lo : Nat) (l : List Int) (w : World) (he : Env g gn gc w) (h : Rdr g lo w l) : Calls Try.prog 52 #[.pointer (some ⟨gn, 0, none⟩)] w
    fun x w' => x = .returned (.agg #[.int .i64 (Pc.rmsg l).1.1, .int .i64 (Pc.rmsg l).1.2]) ∧ Step g lo w w' (Pc.rmsg l).2 := by
  have hgn := lt_of_block he.n
  have hgl := h.lt
  have hlt := he.lt
  have cn := cell_of_one he.n
  unfold nextV at cn
  have h0 : MsgInv g lo gn w.heap.size w (w.alloc (.cells #[.int .i64 0, .int .i64 0] 47)).drew l :=
    ⟨h.below ((Below.refl w.heap.size w).alloc (Nat.le_refl _) _).drew hgl, (heap_alloc_old _ _ hgn).trans he.n, heap_alloc_new _ _, grown_of_below ((Below.refl _ _).alloc (Nat.le_refl _) _).drew, by omega, by omega⟩
  have k := h0.k
  have hne1 : w.heap.size ≠ gn := by omega
  have hne2 : gn ≠ w.heap.size := by omega
  clear he h
  go_enter Try.func52, Try.ntmps52
  go_wp2_with fail
  go_region_held3 (fun w' => w'.cell? ⟨gn, 0, none⟩ = some (.func (.func 46) #[] #[.pointer (some ⟨g, 0, none⟩)])) (first | assumption | go_keep)
    (first | (go_at_call 46; refine (next_msg g lo gn w.heap.size w _ _ (by assumption)).mono ?_; rintro e w1 ⟨rfl, hi⟩; have k := hi.k; have c0 := hi.c0; have c1 := hi.c1; have f0 := hi.f 0; have f1 := hi.f 1))
  go_wp2_with fail
  have r2 := blk_set (blk_set hi.fres 0 (.int .i64 (Pc.nx l).1)) 1 (.int .i64 (Pc.nx (Pc.nx l).2).1)
  have e0 := blk_cell r2 0
  have e1 := blk_cell r2 1
  simp at e0 e1
  refine bodyPost_ret (v := .agg #[.int .i64 (Pc.nx l).1, .int .i64 (Pc.nx (Pc.nx l).2).1]) (by simp [results, Try.results52, go_sem, e0, e1]) rfl ⟨rfl, ?_, grown_new (grown_new hi.only (by simp) _) (by simp) _⟩
  exact hi.rdr.far fun b hb => (heap_setCell_other _ _ _ _ (by simp; omega)).trans (heap_setCell_other _ _ _ _ (by simp; omega))
end Go.Proofs.Ytdfgnmdofjhnkaa
