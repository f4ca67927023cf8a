/- append: onto a row of the call's own, of a slice that reads as a list, or of elements made on the spot. Nothing of the program. -/
import Derived.Test.YtmbilaepeekglaaRep
import Derived.RegionTactic
import Derived.OwnWalk
namespace Go.Proofs.Ytmbilaepeekglaa
open Go.RowKit

theorem add_at (g o j : Nat) : (⟨g, o, none⟩ : Addr).add j = ⟨g, o + j, none⟩ := by
  unfold Addr.add
  split
  · subst_vars; rfl
  · rfl

theorem run_append_nothing {P : Program} (w : World) (base : Nat) (t ty e : TypeId) (i : TypeInfo) (size : Nat) (ht : P.underlying t = some (.slice e)) (hi : P.info? e = some i)
    (v : Value) (n : Nat) (xs : List Value) (hown : w.ownsRow base e size v n xs) (c : Nat) : (Builtin.append_ #[t, t] ty #[v, .slice none 0 c]).run P w = .ok v w := by
  rcases hown.2 with ⟨rfl, rfl⟩ | ⟨g, cap, cur, rfl, _, _, hnc, _⟩
  · simp [Builtin.append_, run_underlying ht, sizeOf, typeInfo, hi, Builtin.lenOf, Builtin.firstCells]
  · simp [Builtin.append_, run_underlying ht, sizeOf, typeInfo, hi, Builtin.lenOf, Builtin.firstCells, hnc, storeCells]

/-- What is appended: m elements, the cells 'news'. -/
def Src (w : World) (A : Option Addr) (m : Nat) (news : List Value) : Prop := 0 < m → ∃ g o, A = some ⟨g, o, none⟩ ∧ ∀ j u, news[j]? = some u → w.cell? ⟨g, o + j, none⟩ = some u

theorem Src.of {α : Type} {r : Rep α} {fr : Bool} {w : World} {lo hi : Nat} {A : Option Addr} {xs : List α} (h : SliceAt r fr w lo hi A xs) :
    ∃ news, news.length = xs.length * r.size ∧ r.all fr w (rng lo hi) news xs ∧ Src w A xs.length news := by
  obtain ⟨cells, h1, h2⟩ := h
  refine ⟨cells, Rep.all_len h1, h1, fun hn => ?_⟩
  obtain ⟨g, o, rfl, _, h3⟩ := h2 hn
  exact ⟨g, o, rfl, fun j u hj => (h3 j u hj).1⟩

theorem Src.block {w : World} (cs : List Value) (e : TypeId) (m : Nat) : Src (w.alloc (.cells cs.toArray e)) (some ⟨w.heap.size, 0, none⟩) m cs := by
  intro _
  refine ⟨_, _, rfl, fun j u hj => ?_⟩
  rw [Nat.zero_add]
  rw [cell_of_row (w.alloc (.cells cs.toArray e)) w.heap.size j cs.toArray e (0, 0) (heap_alloc_new w _)]
  simpa using hj

theorem run_append_src {P : Program} (w : World) (base : Nat) (t ty e : TypeId) {z : Value} {size bytes : Nat} (hinfo : (P.info? e).map (fun i => (i.zero, i.size, i.bytes)) = some (some z, size, bytes)) (ht : P.underlying t = some (.slice e))
    (hzs : z.cells.size = size) (hsz : 0 < size) (v : Value) (n : Nat) (xs : List Value) (hown : w.ownsRow base e size v n xs)
    (A : Option Addr) (m c : Nat) (news : List Value) (hl : news.length = m * size) (hr : Src w A m news) (hA : A = none → m = 0) (hin : m = 0 → A ≠ none → ∃ g o, A = some ⟨g, o, none⟩) (h1 : ∀ u ∈ news, u.oneCell' = true)
    (h63 : n + m ≤ maxLen) (hbytes : (n + m) * bytes ≤ 140737488355328) (hbase : base ≤ w.heap.size) :
    ∃ v' w', (Builtin.append_ #[t, t] ty #[v, .slice A m c]).run P w = .ok v' w' ∧ w'.ownsRow base e size v' (n + m) (xs ++ news) ∧ w.grownBy w' v.ownBlock ∧
      (v'.ownBlock = v.ownBlock ∨ v'.ownBlock = some w.heap.size) := by
  obtain ⟨i, hi, hz, hsize, hby⟩ := info_parts hinfo
  rcases A with _ | ad
  · obtain rfl := hA rfl
    have hn : news = [] := List.eq_nil_of_length_eq_zero (by simpa using hl)
    subst hn
    exact ⟨v, w, run_append_nothing w base t ty e i size ht hi v n xs hown c, by simpa using hown, World.grownBy.refl w _, .inl rfl⟩
  · have hcells : ∀ j u, news[j]? = some u → w.cell? (ad.add j) = some u := by
      intro j u hu
      rcases Nat.eq_zero_or_pos m with h0 | h0
      · subst h0
        have hn : news = [] := List.eq_nil_of_length_eq_zero (by simpa using hl)
        subst hn
        simp at hu
      · obtain ⟨g, o, h, hc⟩ := hr h0
        injection h with h
        subst h
        rw [add_at]
        exact hc j u hu
    obtain ⟨v', w', hrun, h2, h3, _, h5⟩ := run_append_own_at (P := P) w base t ty e i z size bytes ht hi hz hsize hby hzs hsz v n xs hown ad m c news hl hcells h1 h63 hbytes hbase
    exact ⟨v', w', hrun, h2, h3, h5⟩

section
variable {P : Program} {w : World} {ops : Array Oper} {rest : List Oper} {o : Oper} {a : Act} {Q : Exit → Act → World → Prop}

theorem wp_append_src {K : Act → World → Prop} (s x : Operand) (t : TypeId) (ho : o.op = .call { callee := .builtin .append, args := #[s, x], argTypes := #[t, t] })
    (base : Nat) (e : TypeId) {z : Value} {size bytes : Nat} (hinfo : (P.info? e).map (fun i => (i.zero, i.size, i.bytes)) = some (some z, size, bytes)) (ht : P.underlying t = some (.slice e))
    (hzs : z.cells.size = size) (hsz : 0 < size) (v : Value) (n : Nat) (xs : List Value) (hs : a.eval s = v) (hown : w.ownsRow base e size v n xs)
    (A : Option Addr) (m c : Nat) (news : List Value) (hx : a.eval x = .slice A m c) (hl : news.length = m * size) (hr : Src w A m news) (h1 : ∀ u ∈ news, u.oneCell' = true)
    (h63 : n + m ≤ maxLen) (hbytes : (n + m) * bytes ≤ 140737488355328) (hbase : base ≤ w.heap.size)
    (h : ∀ v' w', w'.ownsRow base e size v' (n + m) (xs ++ news) → w.grownBy w' v.ownBlock → Below base w w' → (v'.ownBlock = v.ownBlock ∨ v'.ownBlock = some w.heap.size) → K (a.put o.dst v') w') : o.wp P a w K Q := by
  have hA : A = none → m = 0 := by
    rintro rfl
    rcases Nat.eq_zero_or_pos m with h0 | h0
    · exact h0
    · obtain ⟨_, _, h, _⟩ := hr h0; cases h
  by_cases hin : ∃ ad, A = some ad ∧ m = 0
  · obtain ⟨ad, rfl, rfl⟩ := hin
    have hn : news = [] := List.eq_nil_of_length_eq_zero (by simpa using hl)
    subst hn
    obtain ⟨i, hi, hz, hsize, hby⟩ := info_parts hinfo
    obtain ⟨v', w', hrun, h2, h3, _, h5⟩ := run_append_own_at (P := P) w base t o.type e i z size bytes ht hi hz hsize hby hzs hsz v n xs hown ad 0 c [] (by simp) (by simp) (by simp) h63 hbytes hbase
    unfold Oper.wp execOp
    simp only [ho, resolve, invoke, builtin, Sem.run_bind, Sem.run_pure, Result.andThen_ok, List.map_toArray, List.map_cons, List.map_nil, hs, hx, hrun]
    exact h v' w' h2 h3 (below_of_grown hown h3 hbase) h5
  · obtain ⟨v', w', hrun, h2, h3, h4⟩ := run_append_src (P := P) w base t o.type e hinfo ht hzs hsz v n xs hown A m c news hl hr hA (fun h0 hne => absurd ⟨A.get (Option.isSome_iff_ne_none.2 hne), by simp, h0⟩ hin) h1 h63 hbytes hbase
    unfold Oper.wp execOp
    simp only [ho, resolve, invoke, builtin, Sem.run_bind, Sem.run_pure, Result.andThen_ok, List.map_toArray, List.map_cons, List.map_nil, hs, hx, hrun]
    exact h v' w' h2 h3 (below_of_grown hown h3 hbase) h4

/-- 'append(s, x...)', x a slice that reads as a list. -/
theorem wpList_appendS {α : Type} {r : Rep α} {fr : Bool} {lo hi : Nat} {ys : List α} (hgd : o.guard = none) (s x : Operand) (t : TypeId) (ho : o.op = .call { callee := .builtin .append, args := #[s, x], argTypes := #[t, t] })
    (base : Nat) (e : TypeId) {z : Value} {bytes : Nat} (hinfo : (P.info? e).map (fun i => (i.zero, i.size, i.bytes)) = some (some z, r.size, bytes)) (ht : P.underlying t = some (.slice e))
    (hzs : z.cells.size = r.size) (v : Value) (n : Nat) (xs : List Value) (hs : a.eval s = v) (hown : w.ownsRow base e r.size v n xs)
    (A : Option Addr) (c : Nat) (hx : a.eval x = .slice A ys.length c) (hr : SliceAt r fr w lo hi A ys)
    (h63 : n + ys.length ≤ maxLen) (hbytes : (n + ys.length) * bytes ≤ 140737488355328) (hbase : base ≤ w.heap.size)
    (h : ∀ v' w' news, r.all fr w (rng lo hi) news ys → w'.ownsRow base e r.size v' (n + ys.length) (xs ++ news) → w.grownBy w' v.ownBlock → Below base w w' → (v'.ownBlock = v.ownBlock ∨ v'.ownBlock = some w.heap.size) → wpList P ops Q rest (a.put o.dst v') w') : wpList P ops Q (o :: rest) a w := by
  obtain ⟨news, h1, h2, h3⟩ := Src.of hr
  exact wpList_plain hgd fun _ hK => wp_append_src s x t ho base e hinfo ht hzs r.pos v n xs hs hown A ys.length c news hx h1 h3 (Rep.all_one h2) h63 hbytes hbase fun v' w' k1 k2 k3 k4 => hK _ _ (h v' w' news h2 k1 k2 k3 k4)

/-- 'append(s, x, y, ..)': the elements lie in a block made on the spot. -/
theorem wpList_appendB {size : Nat} (hgd : o.guard = none) (s x : Operand) (t : TypeId) (ho : o.op = .call { callee := .builtin .append, args := #[s, x], argTypes := #[t, t] })
    (base : Nat) (e : TypeId) {z : Value} {bytes : Nat} (hinfo : (P.info? e).map (fun i => (i.zero, i.size, i.bytes)) = some (some z, size, bytes)) (ht : P.underlying t = some (.slice e))
    (hzs : z.cells.size = size) (hsz : 0 < size) (v : Value) (n : Nat) (xs : List Value) (hs : a.eval s = v) (hown : w.ownsRow base e size v n xs)
    (m c H : Nat) (cs : List Value) (hx : a.eval x = .slice (some ⟨H, 0, none⟩) m c) (hH : w.heap.size = H) (hl : cs.length = m * size) (h1 : ∀ u ∈ cs, u.oneCell' = true)
    (h63 : n + m ≤ maxLen) (hbytes : (n + m) * bytes ≤ 140737488355328) (hbase : base ≤ w.heap.size)
    (h : ∀ v' w', w'.ownsRow base e size v' (n + m) (xs ++ cs) → w.grownBy w' v.ownBlock → Below base w w' → (v'.ownBlock = v.ownBlock ∨ v'.ownBlock = some (w.heap.size + 1)) → wpList P ops Q rest (a.put o.dst v') w') : wpList P ops Q (o :: rest) a (w.alloc (.cells cs.toArray e)) := by
  subst hH
  have hown' : (w.alloc (.cells cs.toArray e)).ownsRow base e size v n xs := hown.alloc _
  refine wpList_plain hgd fun _ hK => wp_append_src s x t ho base e hinfo ht hzs hsz v n xs hs hown' _ m c cs hx hl (Src.block cs e m) h1 h63 hbytes (by simp; omega) fun v' w' k1 k2 k3 k4 => hK _ _ (h v' w' k1 ?_ ?_ (by simpa using k4))
  · have h0 := World.grownBy_alloc w (.cells cs.toArray e) v.ownBlock
    exact ⟨k2.os.trans h0.os, k2.tape.trans h0.tape, k2.output.trans h0.output, Nat.le_trans h0.size k2.size, fun k hk hne => (k2.block k (by simp; omega) hne).trans (h0.block k hk hne)⟩
  · exact ((Below.refl _ _).alloc hbase _).trans k3

/-- 'append(s, x...)' at a step of a region that draws its order. -/
theorem step_appendS {α : Type} {r : Rep α} {fr : Bool} {lo hi : Nat} {ys : List α} {K : Act → World → Prop} {E : Prop} (hgd : o.guard = none) (s x : Operand) (t : TypeId) (ho : o.op = .call { callee := .builtin .append, args := #[s, x], argTypes := #[t, t] })
    (base : Nat) (e : TypeId) {z : Value} {bytes : Nat} (hinfo : (P.info? e).map (fun i => (i.zero, i.size, i.bytes)) = some (some z, r.size, bytes)) (ht : P.underlying t = some (.slice e))
    (hzs : z.cells.size = r.size) (v : Value) (n : Nat) (xs : List Value) (hs : a.eval s = v) (hown : w.ownsRow base e r.size v n xs)
    (A : Option Addr) (c : Nat) (hx : a.eval x = .slice A ys.length c) (hr : SliceAt r fr w lo hi A ys)
    (h63 : n + ys.length ≤ maxLen) (hbytes : (n + ys.length) * bytes ≤ 140737488355328) (hbase : base ≤ w.heap.size)
    (h : ∀ v' w' news, r.all fr w (rng lo hi) news ys → w'.ownsRow base e r.size v' (n + ys.length) (xs ++ news) → w.grownBy w' v.ownBlock → Below base w w' → (v'.ownBlock = v.ownBlock ∨ v'.ownBlock = some w.heap.size) → K (a.put o.dst v') w') :
    if Region.wanted o (yielded ops a.tmps) = true then Oper.wp P o a w K Q else E := by
  obtain ⟨news, h1, h2, h3⟩ := Src.of hr
  have hw : Region.wanted o (yielded ops a.tmps) = true := by simp [Region.wanted, hgd]
  rw [if_pos hw]
  exact wp_append_src s x t ho base e hinfo ht hzs r.pos v n xs hs hown A ys.length c news hx h1 h3 (Rep.all_one h2) h63 hbytes hbase fun v' w' k1 k2 k3 k4 => h v' w' news h2 k1 k2 k3 k4

theorem step_appendB {size : Nat} {K : Act → World → Prop} {E : Prop} (hgd : o.guard = none) (s x : Operand) (t : TypeId) (ho : o.op = .call { callee := .builtin .append, args := #[s, x], argTypes := #[t, t] })
    (base : Nat) (e : TypeId) {z : Value} {bytes : Nat} (hinfo : (P.info? e).map (fun i => (i.zero, i.size, i.bytes)) = some (some z, size, bytes)) (ht : P.underlying t = some (.slice e))
    (hzs : z.cells.size = size) (hsz : 0 < size) (v : Value) (n : Nat) (xs : List Value) (hs : a.eval s = v) (hown : w.ownsRow base e size v n xs)
    (A : Option Addr) (m c : Nat) (cs : List Value) (hx : a.eval x = .slice A m c) (hl : cs.length = m * size) (hr : Src w A m cs) (h1 : ∀ u ∈ cs, u.oneCell' = true)
    (h63 : n + m ≤ maxLen) (hbytes : (n + m) * bytes ≤ 140737488355328) (hbase : base ≤ w.heap.size)
    (h : ∀ v' w', w'.ownsRow base e size v' (n + m) (xs ++ cs) → w.grownBy w' v.ownBlock → Below base w w' → (v'.ownBlock = v.ownBlock ∨ v'.ownBlock = some w.heap.size) → K (a.put o.dst v') w') :
    if Region.wanted o (yielded ops a.tmps) = true then Oper.wp P o a w K Q else E := by
  have hw : Region.wanted o (yielded ops a.tmps) = true := by simp [Region.wanted, hgd]
  rw [if_pos hw]
  exact wp_append_src s x t ho base e hinfo ht hzs hsz v n xs hs hown A m c cs hx hl hr h1 h63 hbytes hbase h
end

/-! ### Rows of numbers. -/
def ints (l : List Int) : List Value := l.map (Value.int .i64)
@[simp] theorem ints_length (l : List Int) : (ints l).length = l.length := by simp [ints]
theorem ints_append (l k : List Int) : ints (l ++ k) = ints l ++ ints k := by simp [ints]
theorem ints_one (l : List Int) : ∀ u ∈ ints l, u.oneCell' = true := by
  intro u hu
  simp only [ints, List.mem_map] at hu
  obtain ⟨x, _, rfl⟩ := hu
  rfl
theorem ints_all (fr : Bool) (w : World) (S : Nat → Prop) : ∀ l : List Int, Rep.int.all fr w S (ints l) l := by
  intro l
  induction l with
  | nil => exact rfl
  | cons x t ih => exact ⟨[.int .i64 x], ints t, rfl, rfl, ih⟩
theorem all_ints {fr : Bool} {w : World} {S : Nat → Prop} : ∀ {l : List Int} {cells : List Value}, Rep.int.all fr w S cells l → cells = ints l := by
  intro l
  induction l with
  | nil => intro cells h; exact h
  | cons x t ih =>
    intro cells h
    obtain ⟨cs, rest, rfl, h1, h2⟩ := h
    have h1' : cs = [.int .i64 x] := h1
    rw [h1', ih h2]; rfl

/-- A slice of the call's own that holds the numbers 'acc'. -/
def OwnInts (e : TypeId) (base : Nat) (w : World) (v : Value) (acc : List Int) : Prop := w.ownsRow base e 1 v acc.length (ints acc)
theorem OwnInts.slice {e : TypeId} {base lo hi : Nat} {w : World} {v : Value} {acc : List Int} (h : OwnInts e base w v acc) (h1 : lo ≤ base) (h2 : w.heap.size ≤ hi) : SliceIs Rep.int true w lo hi v acc :=
  SliceIs.of_own (r := Rep.int) h (ints_all _ _ _ _) h1 h2
theorem own_lit {w : World} (base : Nat) (e : TypeId) {size : Nat} (n : Nat) (cs : List Value) (hl : cs.length = n * size) (hb : base ≤ w.heap.size) (hn : n ≤ maxLen) :
    (w.alloc (.cells cs.toArray e)).ownsRow base e size (.slice (some ⟨w.heap.size, 0, none⟩) n n) n cs :=
  ⟨hl, .inr ⟨w.heap.size, n, cs.toArray, rfl, hb, heap_alloc_new w _, Nat.le_refl _, hn, by simpa using hl, by rw [← hl]; simp⟩⟩
theorem OwnInts.lit {w : World} (base : Nat) (e : TypeId) (l : List Int) (hb : base ≤ w.heap.size) (hn : l.length ≤ maxLen) :
    OwnInts e base (w.alloc (.cells (ints l).toArray e)) (.slice (some ⟨w.heap.size, 0, none⟩) l.length l.length) l := own_lit base e l.length (ints l) (by simp) hb hn
theorem OwnInts.below {e : TypeId} {base : Nat} {w w' : World} {v : Value} {acc : List Int} (h : OwnInts e base w v acc) (hb : Below w.heap.size w w') : OwnInts e base w' v acc := own_below h hb

section
variable {P : Program} {w : World} {ops : Array Oper} {rest : List Oper} {o : Oper} {a : Act} {Q : Exit → Act → World → Prop}
theorem wpList_intsS {fr : Bool} {lo hi : Nat} (ys : List Int) (hgd : o.guard = none) (s x : Operand) (t : TypeId) (ho : o.op = .call { callee := .builtin .append, args := #[s, x], argTypes := #[t, t] })
    (base : Nat) (e : TypeId) (hinfo : (P.info? e).map (fun i => (i.zero, i.size, i.bytes)) = some (some (.int .i64 0), 1, 8)) (ht : P.underlying t = some (.slice e))
    (v : Value) (acc : List Int) (hs : a.eval s = v) (hown : OwnInts e base w v acc)
    (A : Option Addr) (c : Nat) (hx : a.eval x = .slice A ys.length c) (hr : SliceAt Rep.int fr w lo hi A ys)
    (hn : acc.length + ys.length ≤ 1000000000) (hbase : base ≤ w.heap.size)
    (h : ∀ v' w', OwnInts e base w' v' (acc ++ ys) → Below base w w' → wpList P ops Q rest (a.put o.dst v') w') : wpList P ops Q (o :: rest) a w := by
  refine wpList_appendS (r := Rep.int) hgd s x t ho base e hinfo ht rfl v acc.length (ints acc) hs hown A c hx hr (by unfold maxLen; omega) (by omega) hbase ?_
  intro v' w' news h1 h2 _ h4 _
  rw [all_ints h1, ← ints_append] at h2
  exact h v' w' (by unfold OwnInts; rw [List.length_append]; exact h2) h4
theorem wpList_intsB (ys : List Int) (hgd : o.guard = none) (s x : Operand) (t : TypeId) (ho : o.op = .call { callee := .builtin .append, args := #[s, x], argTypes := #[t, t] })
    (base : Nat) (e : TypeId) (hinfo : (P.info? e).map (fun i => (i.zero, i.size, i.bytes)) = some (some (.int .i64 0), 1, 8)) (ht : P.underlying t = some (.slice e))
    (v : Value) (acc : List Int) (hs : a.eval s = v) (hown : OwnInts e base w v acc) (c H : Nat) (hx : a.eval x = .slice (some ⟨H, 0, none⟩) ys.length c) (hH : w.heap.size = H)
    (hn : acc.length + ys.length ≤ 1000000000) (hbase : base ≤ w.heap.size)
    (h : ∀ v' w', OwnInts e base w' v' (acc ++ ys) → Below base w w' → wpList P ops Q rest (a.put o.dst v') w') : wpList P ops Q (o :: rest) a (w.alloc (.cells (ints ys).toArray e)) := by
  refine wpList_appendB hgd s x t ho base e hinfo ht rfl (by omega) v acc.length (ints acc) hs hown ys.length c H (ints ys) hx hH (by simp) (ints_one _) (by unfold maxLen; omega) (by omega) hbase ?_
  intro v' w' h2 _ h4 _
  rw [← ints_append] at h2
  exact h v' w' (by unfold OwnInts; rw [List.length_append]; exact h2) h4
theorem step_intsB (ys : List Int) {K : Act → World → Prop} {E : Prop} (hgd : o.guard = none) (s x : Operand) (t : TypeId) (ho : o.op = .call { callee := .builtin .append, args := #[s, x], argTypes := #[t, t] })
    (base : Nat) (e : TypeId) (hinfo : (P.info? e).map (fun i => (i.zero, i.size, i.bytes)) = some (some (.int .i64 0), 1, 8)) (ht : P.underlying t = some (.slice e))
    (v : Value) (acc : List Int) (hs : a.eval s = v) (hown : OwnInts e base w v acc) (c H : Nat) (hx : a.eval x = .slice (some ⟨H, 0, none⟩) ys.length c) (hH : w.heap.size = H)
    (hn : acc.length + ys.length ≤ 1000000000) (hbase : base ≤ w.heap.size)
    (h : ∀ v' w', OwnInts e base w' v' (acc ++ ys) → Below base w w' → K (a.put o.dst v') w') :
    if Region.wanted o (yielded ops a.tmps) = true then Oper.wp P o a (w.alloc (.cells (ints ys).toArray e)) K Q else E := by
  subst hH
  have hown' : (w.alloc (.cells (ints ys).toArray e)).ownsRow base e 1 v acc.length (ints acc) := hown.alloc _
  refine step_appendB hgd s x t ho base e hinfo ht rfl (by omega) v acc.length (ints acc) hs hown' _ ys.length c (ints ys) hx (by simp) (Src.block (ints ys) e ys.length) (ints_one _) (by unfold maxLen; omega) (by omega) (by simp; omega) ?_
  intro v' w' h2 _ h4 _
  rw [← ints_append] at h2
  exact h v' w' (by unfold OwnInts; rw [List.length_append]; exact h2) (((Below.refl _ _).alloc hbase _).trans h4)
end
theorem isInts_of {w : World} {fr : Bool} {v : Value} {xs : List Int} {hi : Nat} (h : SliceIs Rep.int fr w 0 hi v xs) : ∃ A c, v = .slice A xs.length c ∧ xs.length ≤ c ∧ c ≤ maxLen ∧ (xs ≠ [] → ∃ g o, A = some ⟨g, o, none⟩ ∧ g < hi ∧ ∀ k, k < xs.length → w.cell? ⟨g, o + k, none⟩ = some (.int .i64 (xs.getD k 0))) := by
  obtain ⟨A, c, rfl, h1, h2, h3⟩ := h
  refine ⟨A, c, rfl, h1, h2, fun hne => ?_⟩
  have hpos : 0 < xs.length := List.length_pos_iff.2 hne
  obtain ⟨cells, ha, hc⟩ := h3
  obtain ⟨g, o, rfl, ⟨_, h5⟩, h6⟩ := hc hpos
  refine ⟨g, o, rfl, h5, fun k hk => (h6 k _ ?_).1⟩
  rw [all_ints ha]
  simp [ints, List.getD, hk]
end Go.Proofs.Ytmbilaepeekglaa
