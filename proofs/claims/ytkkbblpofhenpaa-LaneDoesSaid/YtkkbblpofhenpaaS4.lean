/- Lemmas, walks and contracts that the statements of this seat are proved by. -/
import Derived.Test.YtkkbblpofhenpaaS1
import Derived.Deep.RegionWith
import Derived.Test.YtkkbblpofhenpaaS3
/- A region that draws its order, walked in the text's own order: where at each point one operation alone may come up, or the next one is a plain move that is free of all others. -/
namespace Go.Proofs.Ytkkbblpofhenpaa
section
variable {P : Program} {ops : Array Oper} {Q : Exit → Act → World → Prop} {md : Region.Mode}

/-! ### The same check by masks: cheap for the kernel. -/
def edgeMask (md : Region.Mode) (o : Oper) : Nat := (o.after.toList.filter (Region.binds md)).foldr (fun e s => 2 ^ e.on ||| s) 0

def readyM (mask : Nat) : List Nat → Nat → List Nat
  | [], _ => []
  | em :: t, j => if !mask.testBit j && (em &&& mask == em) then j :: readyM mask t (j + 1) else readyM mask t (j + 1)

def arrM (n mask : Nat) : Array Bool := ((List.range n).map fun i => mask.testBit i).toArray

theorem mask_sub (mask : Nat) : ∀ (es : List Edge), ((es.foldr (fun e s => 2 ^ e.on ||| s) 0) &&& mask = es.foldr (fun e s => 2 ^ e.on ||| s) 0) ↔ ∀ e ∈ es, mask.testBit e.on = true := by
  intro es
  constructor
  · intro h e he
    have hb : (es.foldr (fun (e : Edge) s => 2 ^ e.on ||| s) 0).testBit e.on = true := by
      clear h
      induction es with
      | nil => cases he
      | cons x t ih =>
        simp only [List.foldr_cons, Nat.testBit_or, Bool.or_eq_true]
        rcases List.mem_cons.1 he with rfl | h
        · exact .inl (by simp)
        · exact .inr (ih h)
    rw [← h, Nat.testBit_and, Bool.and_eq_true] at hb
    exact hb.2
  · intro h
    apply Nat.eq_of_testBit_eq
    intro k
    rw [Nat.testBit_and]
    cases hk : (es.foldr (fun (e : Edge) s => 2 ^ e.on ||| s) 0).testBit k
    · simp
    · have : ∃ e ∈ es, e.on = k := by
        clear h
        induction es with
        | nil => simp at hk
        | cons x t ih =>
          simp only [List.foldr_cons, Nat.testBit_or, Bool.or_eq_true, Nat.testBit_two_pow, decide_eq_true_eq] at hk
          rcases hk with hk | hk
          · exact ⟨x, by simp, hk⟩
          · obtain ⟨e, he, hek⟩ := ih hk; exact ⟨e, by simp [he], hek⟩
      obtain ⟨e, he, rfl⟩ := this
      simp [h e he]

theorem readyM_eq (md : Region.Mode) (mask : Nat) : ∀ (l : List Oper) (j : Nat), readyM mask (l.map (edgeMask md)) j =
    (List.range' j l.length).filter (fun i => !mask.testBit i && ((l[i - j]?).map (·.after.all fun e => !Region.binds md e || mask.testBit e.on)).getD false) := by
  intro l
  induction l with
  | nil => intro j; simp [readyM]
  | cons o t ih =>
    intro j
    have hc : (edgeMask md o &&& mask == edgeMask md o) = o.after.all (fun e => !Region.binds md e || mask.testBit e.on) := by
      rw [Bool.eq_iff_iff, beq_iff_eq, edgeMask, mask_sub, Array.all_eq_true_iff_forall_mem]
      simp only [List.mem_filter, Array.mem_toList_iff, Bool.or_eq_true, Bool.not_eq_true']
      constructor
      · intro h e he
        cases hb : Region.binds md e
        · exact .inl rfl
        · exact .inr (h e ⟨he, hb⟩)
      · intro h e he
        exact (h e he.1).resolve_left (by simp [he.2])
    have hrest : (List.range' (j + 1) t.length).filter (fun i => !mask.testBit i && (((o :: t)[i - j]?).map (·.after.all fun e => !Region.binds md e || mask.testBit e.on)).getD false) =
        (List.range' (j + 1) t.length).filter (fun i => !mask.testBit i && ((t[i - (j + 1)]?).map (·.after.all fun e => !Region.binds md e || mask.testBit e.on)).getD false) := by
      apply List.filter_congr
      intro i hi
      have : j + 1 ≤ i := (List.mem_range'_1.1 hi).1
      rw [show i - j = (i - (j + 1)) + 1 from by omega, List.getElem?_cons_succ]
    simp only [List.map_cons, readyM, List.length_cons, List.range'_succ, List.filter_cons, hc, ih, hrest, Nat.sub_self, List.getElem?_cons_zero, Option.map_some, Option.getD_some]

theorem arrM_getD (n mask i : Nat) (d : Bool) (h : i < n) : (arrM n mask).getD i d = mask.testBit i := by
  simp [arrM, Array.getD, h]
theorem arrM_getD_out (n mask i : Nat) (d : Bool) (h : ¬ i < n) : (arrM n mask).getD i d = d := by
  simp [arrM, Array.getD, h]
theorem arrM_set (n mask i : Nat) (_ : i < n) : (arrM n mask).setIfInBounds i true = arrM n (mask ||| 2 ^ i) := by
  apply Array.ext
  · simp [arrM]
  · intro k h1 h2
    simp [arrM] at h1 h2
    simp only [arrM, Nat.testBit_or, Nat.testBit_two_pow]
    by_cases hk : i = k
    · subst hk; simp
    · simp [hk]

/-- Every edge points into the region. -/
def edgesIn (l : List Oper) : Bool := l.all fun o => o.after.all fun e => decide (e.on < l.length)

theorem ready_arrM (l : List Oper) (mask : Nat) (hin : edgesIn l = true) : Region.ready md l.toArray (arrM l.length mask) = readyM mask (l.map (edgeMask md)) 0 := by
  rw [readyM_eq, Region.ready, List.range_eq_range']
  simp only [List.size_toArray]
  apply List.filter_congr
  intro i hi
  have hlt : i < l.length := by have := (List.mem_range'_1.1 hi).2; omega
  rw [arrM_getD _ _ _ _ hlt]
  have e1 : l.toArray[i]? = some l[i] := by simp [hlt]
  have e2 : l[i - 0]? = some l[i] := by simp [hlt]
  rw [e1, e2]
  simp only [Option.map_some, Option.getD_some]
  congr 1
  rw [Bool.eq_iff_iff, Array.all_eq_true_iff_forall_mem, Array.all_eq_true_iff_forall_mem]
  have hin' : ∀ e ∈ l[i].after, e.on < l.length := by
    intro e he
    have h1 := List.all_eq_true.1 hin l[i] (List.getElem_mem hlt)
    have h2 := Array.all_eq_true_iff_forall_mem.1 h1 e he
    simpa using h2
  constructor
  · intro h e he; have := h e he; rwa [arrM_getD _ _ _ _ (hin' e he)] at this
  · intro h e he; rw [arrM_getD _ _ _ _ (hin' e he)]; exact h e he

theorem wpOps_map (l : List Oper) : ∀ (plan : List Nat) (a : Act) (w : World), (plan.all fun i => decide (i < l.length)) = true → wpList P l.toArray Q (plan.map fun i => l.getD i default) a w → wpOps P l.toArray Q plan a w := by
  intro plan
  induction plan with
  | nil => intro a w _ h; exact h
  | cons i rest ih =>
    intro a w hall h
    simp only [List.all_cons, Bool.and_eq_true, decide_eq_true_eq] at hall
    have hi : l.getD i default = l[i] := by simp [List.getD, hall.1]
    rw [List.map_cons, hi] at h
    have hi' : l.toArray[i]? = some l[i] := by simp [hall.1]
    rw [wpOps_cons, wpOp]
    simp only [hi']
    simp only [wpList] at h
    split
    · rename_i hw
      rw [if_pos hw] at h
      exact h.imp (Oper.wp_mono fun a' w' hh => ih a' w' hall.2 hh) id
    · rename_i hw
      rw [if_neg hw] at h
      exact ih _ _ hall.2 h

theorem arrM_zero (n : Nat) : Array.replicate n false = arrM n 0 := by
  apply Array.ext
  · simp [arrM]
  · intro i h1 h2; simp [arrM]

end
end Go.Proofs.Ytkkbblpofhenpaa

/- A region that draws its order, walked in the order of a plan: reads go ahead of what makes new blocks alone. Nothing of the program. -/
namespace Go.Proofs.Ytkkbblpofhenpaa
open Go.RowKit
section
variable {P : Program} {ops : Array Oper} {Q : Exit → Act → World → Prop} {md : Region.Mode}

/-- What reads alone. -/
def readsOp : Op → Bool
  | .move _ | .assign _ | .pick .. | .load .. | .fieldAddr .. | .field .. | .indexAddr .. | .index .. | .slice .. | .extract .. | .makeFunc .. | .makeInterface .. | .build .. | .unOp .. => true
  | .call { callee := .builtin .len, .. } | .call { callee := .builtin .cap, .. } => true
  | _ => false
/-- What makes new blocks, and else reads alone. -/
def growsOp : Op → Bool
  | .alloc _ | .box .. | .buildSlice .. => true
  | .call { callee := .builtin .min, .. } | .call { callee := .builtin .max, .. } => true
  | o => readsOp o

theorem reads_form {o : Oper} (h : readsOp o.op = true) (ρ : Operand → Value) : ∃ s : Sem Value, Stab P s ∧ execOp ρ o = (s >>= fun v => pure (Next.value v)) := by
  obtain ⟨dst, op, type, pos, after, guard⟩ := o
  dsimp only at h
  cases op <;> simp only [readsOp, Bool.false_eq_true] at h <;> unfold execOp <;> dsimp only
  case move x => exact ⟨pure (ρ x), Stab.pure _, rfl⟩
  case assign x => exact ⟨pure (ρ x), Stab.pure _, rfl⟩
  case pick c a b =>
    refine ⟨(do pure (if ← asBool (ρ c) then ρ a else ρ b)), Stab.bind (Stab.asBool _) fun b => Stab.pure _, ?_⟩
    simp
  case load => exact ⟨_, Stab.loadAt _ _, rfl⟩
  case fieldAddr => exact ⟨_, Stab.fieldAt _ _ _, rfl⟩
  case field => exact ⟨_, Stab.field _ _ _, rfl⟩
  case indexAddr => exact ⟨_, Stab.indexAt _ _ _, rfl⟩
  case index => exact ⟨_, Stab.index _ _ _, rfl⟩
  case slice => exact ⟨_, Stab.sliceAt _ _ _ _ _, rfl⟩
  case extract => exact ⟨_, Stab.extract _ _, rfl⟩
  case makeFunc => exact ⟨_, Stab.pure _, rfl⟩
  case makeInterface => exact ⟨_, Stab.makeInterface _ _, rfl⟩
  case build => exact ⟨_, Stab.build _ _, rfl⟩
  case unOp => exact ⟨_, Stab.unary _ _, rfl⟩
  case call c =>
    obtain ⟨callee, args, ats⟩ := c
    cases callee with
    | builtin b =>
      cases b <;> simp at h
      · exact ⟨_, Stab.cap ats type (args.map ρ), rfl⟩
      · exact ⟨_, Stab.len ats type (args.map ρ), rfl⟩
    | invoke _ _ => simp at h
    | value _ => simp at h
theorem grows_form {o : Oper} (h : growsOp o.op = true) (ρ : Operand → Value) : ∃ s : Sem Value, Grow P s ∧ execOp ρ o = (s >>= fun v => pure (Next.value v)) := by
  by_cases hr : readsOp o.op = true
  · obtain ⟨s, h1, h2⟩ := reads_form (P := P) hr ρ
    exact ⟨s, h1.grow, h2⟩
  · obtain ⟨dst, op, type, pos, after, guard⟩ := o
    dsimp only at h hr
    cases op <;> (first | exact absurd h hr | skip)
    case alloc => exact ⟨_, Grow.alloc _, rfl⟩
    case box => exact ⟨_, Grow.box _ _, rfl⟩
    case buildSlice => exact ⟨_, Grow.buildSlice _ _ _, rfl⟩
    case call c =>
      obtain ⟨callee, args, ats⟩ := c
      cases callee with
      | builtin b =>
        cases b <;> (first | exact absurd h hr | skip)
        · exact ⟨_, Grow.max_ ats type (args.map ρ), rfl⟩
        · exact ⟨_, Grow.min_ ats type (args.map ρ), rfl⟩
      | invoke _ _ => exact absurd h hr
      | value _ => exact absurd h hr

/-- What follows, if nothing goes wrong. -/
def stepQ (R : Act → World → Prop) : Exit → Act → World → Prop
  | .normal, a, w => R a w
  | _, _, _ => False
theorem stepQ_lets {R : Act → World → Prop} (h : LetsOut (stepQ R)) : False := by obtain ⟨_, _, h⟩ := h; exact h
theorem upon_stepQ {R : Act → World → Prop} {o : Oper} {K : Act → World → Prop} {a : Act} {r : Result Next} (h : o.upon P a K (stepQ R) r) : o.upon P a K Q r := by
  cases r with
  | ok n w =>
    cases n <;> simp only [Oper.upon] at h ⊢ <;> try exact h
    exact Calls.mono h fun e w' he => by
      cases e with
      | returned v => exact he
      | panicked c => exact he.elim
      | outgrown => exact (stepQ_lets he).elim
  | halt x w =>
    cases x <;> simp only [Oper.upon] at h ⊢ <;> try exact h
    exact h.elim
theorem wp_stepQ {R : Act → World → Prop} {o : Oper} {K : Act → World → Prop} {a : Act} {w : World} (h : o.wp P a w K (stepQ R)) : o.wp P a w K Q := upon_stepQ h
theorem wpOp_stepQ {R : Act → World → Prop} {i : Nat} {K : Act → World → Prop} {a : Act} {w : World} (h : wpOp P ops (stepQ R) i K a w) : wpOp P ops Q i K a w := by
  unfold wpOp at *
  split
  · rename_i ho; simpa [ho] using h
  · rename_i o ho
    simp only [ho] at h
    split
    · rename_i hw
      rw [if_pos hw] at h
      rcases h with h | ⟨_, h2⟩
      · exact .inl (wp_stepQ h)
      · exact (stepQ_lets h2).elim
    · rename_i hw
      rw [if_neg hw] at h
      exact h

theorem wpOp_grows {j : Nat} {o : Oper} {K : Act → World → Prop} {a : Act} {w : World} (hj : ops[j]? = some o) (hg : growsOp o.op = true) (h : wpOp P ops Q j K a w) : wpOp P ops Q j (fun a' w' => K a' w' ∧ Ext w w') a w := by
  unfold wpOp at *
  simp only [hj] at *
  split
  · rename_i hw
    rw [if_pos hw] at h
    rcases h with h | h
    · refine .inl ?_
      obtain ⟨s, hs, he⟩ := grows_form (P := P) hg a.eval
      unfold Oper.wp at *
      rw [he, Sem.run_bind] at h ⊢
      cases hr : s.run P w with
      | ok v w1 =>
        rw [hr] at h
        exact ⟨h, hs w v w1 hr⟩
      | halt x w1 =>
        rw [hr] at h
        simp only [Result.andThen_halt] at h ⊢
        cases x <;> simp only [Oper.upon] at h ⊢ <;> exact h
    · exact .inr h
  · rename_i hw
    rw [if_neg hw] at h
    exact ⟨h, Ext.refl _⟩

/-- Whatever order is picked from here on; behind the operations of M the blocks of w0 are as they were. -/
def wpAnyM (P : Program) (md : Region.Mode) (ops : Array Oper) (Q : Exit → Act → World → Prop) (M : Nat) (w0 : World) : Nat → Array Bool → Act → World → Prop
  | 0, listed, a, w => Region.ready md ops listed = [] ∧ Q .normal a w
  | fuel + 1, listed, a, w => (Region.ready md ops listed = [] → Q .normal a w) ∧
    ∀ i ∈ Region.ready md ops listed, wpOp P ops Q i (fun a' w' => (M.testBit i = true → Ext w0 w') ∧ wpAnyM P md ops Q M w0 fuel (listed.setIfInBounds i true) a' w') a w
theorem wpAny_of_M {M : Nat} {w0 : World} : ∀ (fuel : Nat) (listed : Array Bool) (a : Act) (w : World), wpAnyM P md ops Q M w0 fuel listed a w → wpAny P md ops Q fuel listed a w
  | 0, _, _, _, h => h
  | fuel + 1, _, _, _, h => ⟨h.1, fun i hi => wpOp_mono (fun a' w' h' => wpAny_of_M fuel _ a' w' h'.2) (h.2 i hi)⟩

/-- A read may be taken first, if whatever may come up ahead of it makes new blocks alone, or is of M; 'Wt': what waits for it. -/
theorem wpAnyM_read {M : Nat} {wM : World} {i : Nat} {oi : Oper} {v : Value} (hi : ops[i]? = some oi) (hsel : ∀ (j : Nat) (o : Oper) cs b, ops[j]? = some o → o.op ≠ .select cs b)
    (hQ : ∀ c a w, Q (.panic c) (a.put oi.dst v) w → Q (.panic c) a w) (hMi : M.testBit i = false) (Wt : Nat → Prop) (hW : ∀ j oj, ops[j]? = some oj → Wt j → ∃ e ∈ oj.after, Region.binds md e = true ∧ (e.on = i ∨ Wt e.on)) (w0 : World) (ok : Nat → Prop) (hok : ∀ j, ok j → M.testBit j = true ∧ w0 = wM) :
    ∀ (fuel : Nat) (listed : Array Bool) (a : Act) (w : World), (∀ j, Wt j → listed.getD j false = false) → listed.getD i false = false →
      (∀ j oj, ops[j]? = some oj → j ≠ i → listed.getD j true = false → ¬ Wt j → oi.apart ops oj = true ∧ (growsOp oj.op = true ∨ ok j)) →
      i ∈ Region.ready md ops listed → YieldsIf P ops (Ext w0) oi v a → Ext w0 w →
      wpAnyM P md ops Q M wM fuel (listed.setIfInBounds i true) (a.put oi.dst v) w → wpAnyM P md ops Q M wM (fuel + 1) listed a w := by
  intro fuel
  induction fuel with
  | zero =>
    intro listed a w _ _ _ hr hy he H
    refine ⟨fun h => (by rw [h] at hr; cases hr), fun j hj => ?_⟩
    by_cases hji : j = i
    · subst hji; exact hy.wpOp hi he ⟨fun hm => (by rw [hMi] at hm; cases hm), H⟩
    · have := ready_mono hj hji
      rw [H.1] at this
      cases this
  | succ fuel ih =>
    intro listed a w hWt hun hfree hr hy he H
    refine ⟨fun h => (by rw [h] at hr; cases hr), fun j hj => ?_⟩
    by_cases hji : j = i
    · subst hji; exact hy.wpOp hi he ⟨fun hm => (by rw [hMi] at hm; cases hm), H⟩
    · have h1 := H.2 j (ready_mono hj hji)
      obtain ⟨hjun, oj, hoj, hall⟩ := mem_ready.1 hj
      have hnW : ¬ Wt j := by
        intro hw
        obtain ⟨e, he1, hb, h2⟩ := hW j oj hoj hw
        have h3 := hall e he1 hb
        rcases h2 with h2 | h2
        · rw [h2, hun] at h3; cases h3
        · rw [hWt _ h2] at h3; cases h3
      obtain ⟨hap, hgr⟩ := hfree j oj hoj hji hjun hnW
      have h2 := wpOp_putIf hoj hap (fun cs b => hsel i oi cs b hi) (fun cs b => hsel j oj cs b hoj) hQ hy h1
      have hset : ∀ k, k ≠ j → ∀ d, (listed.setIfInBounds j true).getD k d = listed.getD k d := fun k hk d => getD_set_ne d (Ne.symm hk)
      have fin : ∀ a' w', (YieldsIf P ops (Ext w0) oi v a' ∧ ((M.testBit j = true → Ext wM w') ∧ wpAnyM P md ops Q M wM fuel ((listed.setIfInBounds i true).setIfInBounds j true) (a'.put oi.dst v) w')) ∧ Ext w0 w' → (M.testBit j = true → Ext wM w') ∧ wpAnyM P md ops Q M wM (fuel + 1) (listed.setIfInBounds j true) a' w' := by
        intro a' w' h3
        refine ⟨h3.1.2.1, ih (listed.setIfInBounds j true) a' w' (fun k hk => ?_) ?_ (fun k ok' hk hki hunk hnk => ?_) (ready_mono hr (Ne.symm hji)) h3.1.1 h3.2 ?_⟩
        · rw [hset k (by rintro rfl; exact hnW hk)]; exact hWt k hk
        · rw [hset i (Ne.symm hji)]; exact hun
        · refine hfree k ok' hk hki ?_ hnk
          by_cases hjk : k = j
          · subst hjk; exact hjun
          · rw [hset k hjk] at hunk; exact hunk
        · rw [Array.setIfInBounds_comm _ _ hji]; exact h3.1.2.2
      rcases hgr with hgr | hgr
      · exact wpOp_mono (fun a' w' h3 => fin a' w' ⟨h3.1, he.trans h3.2⟩) (wpOp_grows hoj hgr h2)
      · obtain ⟨hMj, rfl⟩ := hok j hgr
        exact wpOp_mono (fun a' w' h3 => fin a' w' ⟨h3, h3.2.1 hMj⟩) h2

theorem wpAnyM_all {M : Nat} {wM : World} {rs : List Nat} {fuel : Nat} {listed : Array Bool} {a : Act} {w : World} (hr : Region.ready md ops listed = rs) (hne : rs ≠ [])
    (h : ∀ i ∈ rs, wpOp P ops Q i (fun a' w' => (M.testBit i = true → Ext wM w') ∧ wpAnyM P md ops Q M wM fuel (listed.setIfInBounds i true) a' w') a w) : wpAnyM P md ops Q M wM (fuel + 1) listed a w :=
  ⟨fun h0 => absurd (hr ▸ h0) hne, hr ▸ h⟩
theorem wpAnyM_done {M : Nat} {wM : World} {listed : Array Bool} {a : Act} {w : World} (hr : Region.ready md ops listed = []) (h : Q .normal a w) : ∀ fuel, wpAnyM P md ops Q M wM fuel listed a w
  | 0 => ⟨hr, h⟩
  | _ + 1 => ⟨fun _ => h, by rw [hr]; simp⟩

/-! ### By masks. -/
def waitsM (i : Nat) : List Nat → Nat → Nat → Nat
  | [], _, acc => acc
  | em :: t, j, acc => waitsM i t (j + 1) (if em &&& (acc ||| 2 ^ i) == 0 then acc else acc ||| 2 ^ j)
def waitsOK (ems : List Nat) (i W mask : Nat) : Bool := (W &&& (mask ||| 2 ^ i) == 0) && (List.range ems.length).all fun j => !W.testBit j || !((ems.getD j 0) &&& (W ||| 2 ^ i) == 0)
/-- 'X': what may come up ahead of the read besides what makes new blocks. -/
def readOK (l : List Oper) (ems : List Nat) (X mask i : Nat) : Bool :=
  (readyM mask ems 0).contains i && ((l[i]?).map fun o => readsOp o.op).getD false && !mask.testBit i && !X.testBit i &&
    (fun W => waitsOK ems i W mask && (List.range l.length).all fun j => j == i || mask.testBit j || W.testBit j || (match l[i]?, l[j]? with | some oi, some oj => oi.apart l.toArray oj && (growsOp oj.op || X.testBit j) | _, _ => false)) (waitsM i ems 0 0 % 2 ^ l.length)
/-- A plan of reads alone. -/
def planR (l : List Oper) (ems : List Nat) (M : Nat) : Nat → List Nat → Bool
  | _, [] => true
  | mask, i :: rest => readOK l ems M mask i && planR l ems M (mask ||| 2 ^ i) rest
/-- A plan of operations that come up alone, or read. -/
def planM (l : List Oper) (ems : List Nat) (M : Nat) : Nat → List Nat → Bool
  | _, [] => true
  | mask, i :: rest => ((readyM mask ems 0 == [i]) && !M.testBit i || readOK l ems 0 mask i && !M.testBit i) && planM l ems M (mask ||| 2 ^ i) rest

theorem edgeMask_bit {o : Oper} {k : Nat} (h : (edgeMask md o).testBit k = true) : ∃ e ∈ o.after, Region.binds md e = true ∧ e.on = k := by
  unfold edgeMask at h
  have : ∀ es : List Edge, (es.foldr (fun (e : Edge) s => 2 ^ e.on ||| s) 0).testBit k = true → ∃ e ∈ es, e.on = k := by
    intro es
    induction es with
    | nil => intro h; simp at h
    | cons x t ih =>
      intro h
      simp only [List.foldr_cons, Nat.testBit_or, Bool.or_eq_true, Nat.testBit_two_pow, decide_eq_true_eq] at h
      rcases h with h | h
      · exact ⟨x, by simp, h⟩
      · obtain ⟨e, he, hk⟩ := ih h; exact ⟨e, by simp [he], hk⟩
  obtain ⟨e, he, hk⟩ := this _ h
  simp only [List.mem_filter, Array.mem_toList_iff] at he
  exact ⟨e, he.1, he.2, hk⟩
theorem and_bit {a b : Nat} (h : (a &&& b == 0) = false) : ∃ k, a.testBit k = true ∧ b.testBit k = true := by
  have h' : a &&& b ≠ 0 := by simpa using h
  obtain ⟨k, hk⟩ := Nat.exists_testBit_of_ne_zero h'
  rw [Nat.testBit_and, Bool.and_eq_true] at hk
  exact ⟨k, hk⟩
theorem and_zero {a b k : Nat} (h : (a &&& b == 0) = true) (ha : a.testBit k = true) : b.testBit k = false := by
  have h' : a &&& b = 0 := by simpa using h
  have := congrArg (·.testBit k) h'
  simp only [Nat.testBit_and, ha, Bool.true_and, Nat.zero_testBit] at this
  exact this

/-- One read, by masks. -/
theorem readM_step {M : Nat} {wM : World} {l : List Oper} {mask i X : Nat} (hs : Region.noSelect l.toArray = true) (hin : edgesIn l = true) (hQ : ∀ c a d v w, Q (.panic c) (a.put (some d) v) w → Q (.panic c) a w) (hil : i < l.length)
    (hok : readOK l (l.map (edgeMask md)) X mask i = true) (hMi : M.testBit i = false) {f : Nat} {a : Act} {w : World} (hX : ∀ j, X.testBit j = true → M.testBit j = true ∧ w = wM)
    {K : Act → World → Prop} {R : Act → World → Prop} (hK : ∀ v, K (a.put l[i].dst v) w → wpAnyM P md l.toArray Q M wM f (arrM l.length (mask ||| 2 ^ i)) (a.put l[i].dst v) w)
    (h : wpOp P l.toArray (stepQ R) i K a w) : wpAnyM P md l.toArray Q M wM (f + 1) (arrM l.length mask) a w := by
  simp only [readOK, Bool.and_eq_true, List.all_eq_true, List.mem_range, Bool.or_eq_true, Bool.not_eq_true', beq_iff_eq] at hok
  obtain ⟨⟨⟨⟨k1, k2⟩, k3⟩, _⟩, k4, k5⟩ := hok
  generalize hW : waitsM i (l.map (edgeMask md)) 0 0 % 2 ^ l.length = W at k4 k5
  have hoi : l.toArray[i]? = some l[i] := by simp [hil]
  have hoi' : l[i]? = some l[i] := by simp [hil]
  rw [hoi'] at k2
  simp only [Option.map_some, Option.getD_some] at k2
  simp only [waitsOK, Bool.and_eq_true, List.all_eq_true, List.mem_range, Bool.or_eq_true, Bool.not_eq_true'] at k4
  obtain ⟨k6, k7⟩ := k4
  have hun : (arrM l.length mask).getD i false = false := by rw [arrM_getD _ _ _ _ hil]; exact k3
  have key : ∀ v, YieldsIf P l.toArray (Ext w) l[i] v a → K (a.put l[i].dst v) w → wpAnyM P md l.toArray Q M wM (f + 1) (arrM l.length mask) a w := by
    intro v hy hr
    refine wpAnyM_read hoi (Region.noSelect_spec hs) (fun c a w hq => ?_) hMi (fun j => W.testBit j = true) (fun j oj hj hw => ?_) w (fun j => X.testBit j = true) hX f _ a w (fun j hj => ?_) hun (fun j oj hj hji hju hnw => ?_) ?_ hy (Ext.refl w) (by rw [arrM_set _ _ _ hil]; exact hK v hr)
    · cases hd : l[i].dst with
      | none => rw [hd] at hq; exact hq
      | some d => rw [hd] at hq; exact hQ c a d v w hq
    · have hjl : j < l.length := by have := (Array.getElem?_eq_some_iff.1 hj).1; simpa using this
      have hoj : oj = l[j] := by simp [hjl] at hj; exact hj.symm
      subst hoj
      have h3 := (k7 j (by simpa using hjl)).resolve_left (by simp [hw])
      have e1 : (l.map (edgeMask md)).getD j 0 = edgeMask md l[j] := by simp [List.getD, hjl]
      rw [e1] at h3
      obtain ⟨k, hk1, hk2⟩ := and_bit h3
      obtain ⟨e, he, hb, hon⟩ := edgeMask_bit hk1
      refine ⟨e, he, hb, ?_⟩
      rw [hon]
      rw [Nat.testBit_or, Bool.or_eq_true, Nat.testBit_two_pow, decide_eq_true_eq] at hk2
      rcases hk2 with hk2 | hk2
      · exact .inr hk2
      · exact .inl hk2.symm
    · have h3 := and_zero (k := j) k6 hj
      rw [Nat.testBit_or, Bool.or_eq_false_iff] at h3
      by_cases hjl : j < l.length
      · rw [arrM_getD _ _ _ _ hjl]; exact h3.1
      · exact arrM_getD_out _ _ _ _ hjl
    · have hjl : j < l.length := by have := (Array.getElem?_eq_some_iff.1 hj).1; simpa using this
      have hoj : oj = l[j] := by simp [hjl] at hj; exact hj.symm
      subst hoj
      rw [arrM_getD _ _ _ _ hjl] at hju
      have h3 := k5 j hjl
      have e2 : l[j]? = some l[j] := by simp [hjl]
      rw [hoi', e2] at h3
      rcases h3 with ((h3 | h3) | h3) | h3
      · exact absurd h3 hji
      · rw [hju] at h3; cases h3
      · exact absurd h3 hnw
      · simpa [Bool.and_eq_true] using h3
    · rw [ready_arrM l mask hin]; simpa using k1
  unfold wpOp at h
  simp only [hoi] at h
  by_cases hw : Region.wanted l[i] (yielded l.toArray a.tmps) = true
  · rw [if_pos hw] at h
    rcases h with h | ⟨_, h⟩
    · obtain ⟨s, hst, he⟩ := reads_form (P := P) k2 a.eval
      unfold Oper.wp at h
      cases hr : s.run P w with
      | ok v w1 =>
        have e3 := hst w v w1 hr w (Ext.refl w)
        rw [hr] at e3
        injection e3 with _ e3
        subst e3
        rw [he, Sem.run_bind, hr] at h
        refine key v (.inl ⟨hw, fun w' hx => ?_⟩) h
        rw [he, Sem.run_bind, hst _ v _ hr w' hx]
        rfl
      | halt x w1 =>
        rw [he, Sem.run_bind, hr] at h
        simp only [Result.andThen_halt] at h
        cases x <;> simp only [Oper.upon] at h <;> exact h.elim
    · exact (stepQ_lets h).elim
  · rw [if_neg hw] at h
    exact key undef (.inr ⟨by simpa using hw, rfl⟩) h

/-- Reads alone, in the world in which the region begins; then whatever is left (of 'mask2'). -/
theorem wpAny_reads (M mask : Nat) (plan : List Nat) (mask2 fuel2 : Nat) {l : List Oper} (hs : Region.noSelect l.toArray = true) (hin : edgesIn l = true) (hQ : ∀ c a d v w, Q (.panic c) (a.put (some d) v) w → Q (.panic c) a w) {fuel : Nat} {a : Act} {w : World}
    (hall : (plan.all fun i => decide (i < l.length)) = true) (hf : fuel = fuel2 + plan.length) (hm : plan.foldl (fun s i => s ||| 2 ^ i) mask = mask2)
    (hok : planR l (l.map (edgeMask md)) M mask plan = true) (h : wpList P l.toArray (stepQ fun a w' => w = w' → wpAnyM P md l.toArray Q M w fuel2 (arrM l.length mask2) a w) (plan.map fun i => l.getD i default) a w) : wpAnyM P md l.toArray Q M w fuel (arrM l.length mask) a w := by
  have h' := wpOps_map l plan a w hall h
  clear h
  induction plan generalizing mask a fuel with
  | nil =>
    simp only [List.foldl_nil] at hm
    subst hm
    simp only [List.length_nil, Nat.add_zero] at hf
    subst hf
    exact h' rfl
  | cons i rest ih =>
    simp only [List.all_cons, Bool.and_eq_true, decide_eq_true_eq] at hall
    obtain ⟨hil, hall⟩ := hall
    simp only [List.length_cons] at hf
    obtain ⟨f, rfl⟩ : ∃ f, fuel = f + 1 := ⟨fuel2 + rest.length, by omega⟩
    simp only [planR, Bool.and_eq_true] at hok
    obtain ⟨h1, h2⟩ := hok
    have hMi : M.testBit i = false := by
      have := h1
      simp only [readOK, Bool.and_eq_true, Bool.not_eq_true'] at this
      exact this.1.2
    rw [wpOps_cons] at h'
    exact readM_step (X := M) hs hin hQ hil h1 hMi (fun j hj => ⟨hj, rfl⟩) (fun v hr => ih _ hall (by omega) hm h2 hr) h'

/-- 'plan' from 'mask' on: what comes up alone, and reads; then whatever is left (of 'mask2'). -/
theorem wpAny_go (M : Nat) (mask : Nat) (plan : List Nat) (mask2 fuel2 : Nat) {wM : World} {l : List Oper} (hs : Region.noSelect l.toArray = true) (hin : edgesIn l = true) (hQ : ∀ c a d v w, Q (.panic c) (a.put (some d) v) w → Q (.panic c) a w) {fuel : Nat} {a : Act} {w : World}
    (hall : (plan.all fun i => decide (i < l.length)) = true) (hf : fuel = fuel2 + plan.length) (hm : plan.foldl (fun s i => s ||| 2 ^ i) mask = mask2)
    (hok : planM l (l.map (edgeMask md)) M mask plan = true) (h : wpList P l.toArray (stepQ fun a w => wpAnyM P md l.toArray Q M wM fuel2 (arrM l.length mask2) a w) (plan.map fun i => l.getD i default) a w) : wpAnyM P md l.toArray Q M wM fuel (arrM l.length mask) a w := by
  have h' := wpOps_map l plan a w hall h
  clear h
  induction plan generalizing mask a w fuel with
  | nil =>
    simp only [List.foldl_nil] at hm
    subst hm
    simp only [List.length_nil, Nat.add_zero] at hf
    subst hf
    exact h'
  | cons i rest ih =>
    simp only [List.all_cons, Bool.and_eq_true, decide_eq_true_eq] at hall
    obtain ⟨hil, hall⟩ := hall
    simp only [List.length_cons] at hf
    obtain ⟨f, rfl⟩ : ∃ f, fuel = f + 1 := ⟨fuel2 + rest.length, by omega⟩
    simp only [planM, Bool.and_eq_true, Bool.or_eq_true, Bool.not_eq_true'] at hok
    obtain ⟨h1, h2⟩ := hok
    rw [wpOps_cons] at h'
    rcases h1 with ⟨h1, hMi⟩ | ⟨h1, hMi⟩
    · have h1' := beq_iff_eq.1 h1
      rw [← ready_arrM l mask hin] at h1'
      refine wpAnyM_all h1' (by simp) (fun j hj => ?_)
      obtain rfl : j = i := by simpa using hj
      refine wpOp_mono (fun a w hr => ⟨fun hm => (by rw [hMi] at hm; cases hm), ?_⟩) (wpOp_stepQ h')
      rw [arrM_set _ _ _ hil]
      exact ih _ hall (by omega) hm h2 hr
    · exact readM_step (X := 0) hs hin hQ hil h1 hMi (fun j hj => by simp at hj) (fun v hr => ih _ hall (by omega) hm h2 hr) h'

theorem region_go (M : Nat) {id : Nat} {l : List Oper} {a : Act} {w : World} (hm : P.follows .mixedOrders = true) (h : wpAnyM P .any l.toArray Q M w.drew l.length (arrM l.length 0) a w.drew) : (Code.region id l.toArray true).wp P Q a w := by
  refine wp_region_any hm (wpAny_of_M (M := M) (w0 := w.drew) _ _ _ _ ?_)
  rw [List.size_toArray, arrM_zero]; exact h
theorem wpAny_takeM (i : Nat) {M : Nat} {wM : World} {l : List Oper} {oi : Oper} {v : Value} {fuel mask mask2 : Nat} {a : Act} {w : World} (hi : l[i]? = some oi) (hin : edgesIn l = true) (hm : mask ||| 2 ^ i = mask2)
    (hs : Region.noSelect l.toArray = true) (hf : Region.free md l.toArray (arrM l.length mask) i = true) (hr : (readyM mask (l.map (edgeMask md)) 0).contains i = true) (hMi : M.testBit i = false)
    (hQ : ∀ c a w, Q (.panic c) (a.put oi.dst v) w → Q (.panic c) a w) (hy : Yields P l.toArray oi v a)
    (h : wpAnyM P md l.toArray Q M wM fuel (arrM l.length mask2) (a.put oi.dst v) w) : wpAnyM P md l.toArray Q M wM (fuel + 1) (arrM l.length mask) a w := by
  subst hm
  have hil := (List.getElem?_eq_some_iff.1 hi).1
  have hi' : l.toArray[i]? = some oi := by simpa using hi
  have h0 : wpAnyM P md l.toArray Q M wM fuel ((arrM l.length mask).setIfInBounds i true) (a.put oi.dst v) w := by rw [arrM_set _ _ _ hil]; exact h
  have hri : i ∈ Region.ready md l.toArray (arrM l.length mask) := by rw [ready_arrM l mask hin]; simpa using hr
  clear h hr
  revert hf hri h0
  generalize arrM l.length mask = listed
  intro hf h0 hri
  have hfree := Region.free_spec (md := md) hi' hf
  clear hf
  induction fuel generalizing listed a w with
  | zero =>
    refine ⟨fun h => (by rw [h] at hri; cases hri), fun j hj => ?_⟩
    by_cases hji : j = i
    · subst hji; exact (Yields.yieldsIf (S := fun _ => True) hy).wpOp hi' trivial ⟨fun hm => (by rw [hMi] at hm; cases hm), h0⟩
    · have := ready_mono hj hji
      rw [h0.1] at this
      cases this
  | succ fuel ih =>
    refine ⟨fun h => (by rw [h] at hri; cases hri), fun j hj => ?_⟩
    by_cases hji : j = i
    · subst hji; exact (Yields.yieldsIf (S := fun _ => True) hy).wpOp hi' trivial ⟨fun hm => (by rw [hMi] at hm; cases hm), h0⟩
    · have h1 := h0.2 j (ready_mono hj hji)
      obtain ⟨hjun, oj, hoj, hall⟩ := mem_ready.1 hj
      have hnot : ∀ e ∈ oj.after, Region.binds md e = true → e.on ≠ i := fun e he hb heq => by
        have h1 := hall e he hb
        have h2 := (mem_ready.1 hri).1
        rw [heq] at h1
        rcases Nat.lt_or_ge i listed.size with h' | h'
        · simp [h'] at h2 h1; rw [h2] at h1; cases h1
        · simp [Array.getElem?_eq_none h'] at h1
      have h2 := wpOp_putIf hoj (hfree j oj hoj hji hjun hnot) (fun cs b => Region.noSelect_spec hs i oi cs b hi') (fun cs b => Region.noSelect_spec hs j oj cs b hoj) hQ (Yields.yieldsIf (S := fun _ => True) hy) h1
      refine wpOp_mono (fun a' w' h3 => ⟨h3.2.1, ?_⟩) h2
      refine ih ?_ (listed.setIfInBounds j true) ?_ (ready_mono hri (Ne.symm hji)) ?_
      · exact h3.1.imp (fun ⟨q1, q2⟩ => ⟨q1, fun w => q2 w trivial⟩) id
      · rw [Array.setIfInBounds_comm _ _ hji]; exact h3.2.2
      · intro k ok hk hki hun hno
        refine hfree k ok hk hki ?_ hno
        by_cases hjk : j = k
        · subst hjk; exact hjun
        · rw [getD_set_ne true hjk] at hun; exact hun
theorem wpAny_endM {M : Nat} {wM : World} {l : List Oper} {fuel mask : Nat} {a : Act} {w : World} (hin : edgesIn l = true) (hr : (readyM mask (l.map (edgeMask md)) 0).isEmpty = true) (h : Q .normal a w) : wpAnyM P md l.toArray Q M wM fuel (arrM l.length mask) a w :=
  wpAnyM_done (by rw [ready_arrM l mask hin]; simpa using hr) h _
theorem oneM {M : Nat} {wM : World} {l : List Oper} {fuel mask k : Nat} {a : Act} {w : World} (hk : k < l.length)
    (h : wpList P l.toArray (stepQ fun a w => (M.testBit k = true → Ext wM w) ∧ wpAnyM P md l.toArray Q M wM fuel (arrM l.length (mask ||| 2 ^ k)) a w) [l.getD k default] a w) :
    wpOp P l.toArray Q k (fun a' w' => (M.testBit k = true → Ext wM w') ∧ wpAnyM P md l.toArray Q M wM fuel ((arrM l.length mask).setIfInBounds k true) a' w') a w := by
  have h' := wpOps_map l [k] a w (by simp [hk]) h
  rw [wpOps_cons] at h'
  rw [arrM_set _ _ _ hk]
  exact wpOp_mono (fun a' w' hh => hh) (wpOp_stepQ h')
/-- One alone may come up (and may be of M). -/
theorem wpAny_oneM (i mask2 : Nat) {M : Nat} {wM : World} {l : List Oper} {fuel mask : Nat} {a : Act} {w : World} (hin : edgesIn l = true) (hr : (readyM mask (l.map (edgeMask md)) 0 == [i]) = true) (hil : i < l.length) (hm : mask ||| 2 ^ i = mask2)
    (h1 : wpList P l.toArray (stepQ fun a w => (M.testBit i = true → Ext wM w) ∧ wpAnyM P md l.toArray Q M wM fuel (arrM l.length mask2) a w) [l.getD i default] a w) : wpAnyM P md l.toArray Q M wM (fuel + 1) (arrM l.length mask) a w := by
  subst hm
  have hr' := beq_iff_eq.1 hr
  rw [← ready_arrM l mask hin] at hr'
  refine wpAnyM_all hr' (by simp) (fun k hk => ?_)
  obtain rfl : k = i := by simpa using hk
  exact oneM hil h1
/-- Two may come up. -/
theorem wpAny_twoM (i j m1 m2 : Nat) {M : Nat} {wM : World} {l : List Oper} {fuel mask : Nat} {a : Act} {w : World} (hin : edgesIn l = true) (hr : (readyM mask (l.map (edgeMask md)) 0 == [i, j]) = true) (hil : i < l.length) (hjl : j < l.length) (hm1 : mask ||| 2 ^ i = m1) (hm2 : mask ||| 2 ^ j = m2)
    (h1 : wpList P l.toArray (stepQ fun a w => (M.testBit i = true → Ext wM w) ∧ wpAnyM P md l.toArray Q M wM fuel (arrM l.length m1) a w) [l.getD i default] a w)
    (h2 : wpList P l.toArray (stepQ fun a w => (M.testBit j = true → Ext wM w) ∧ wpAnyM P md l.toArray Q M wM fuel (arrM l.length m2) a w) [l.getD j default] a w) : wpAnyM P md l.toArray Q M wM (fuel + 1) (arrM l.length mask) a w := by
  subst hm1 hm2
  have hr' := beq_iff_eq.1 hr
  rw [← ready_arrM l mask hin] at hr'
  refine wpAnyM_all hr' (by simp) (fun k hk => ?_)
  simp only [List.mem_cons, List.not_mem_nil, or_false] at hk
  rcases hk with rfl | rfl
  · exact oneM hil h1
  · exact oneM hjl h2
/-- From the world at hand on. -/
theorem wpAnyM_rebase {M : Nat} {wM w1 : World} (he : Ext wM w1) : ∀ (fuel : Nat) (listed : Array Bool) (a : Act) (w : World), wpAnyM P md ops Q M w1 fuel listed a w → wpAnyM P md ops Q M wM fuel listed a w
  | 0, _, _, _, h => h
  | fuel + 1, _, _, _, h => ⟨h.1, fun i hi => wpOp_mono (fun a' w' h' => ⟨fun hm => he.trans (h'.1 hm), wpAnyM_rebase he fuel _ a' w' h'.2⟩) (h.2 i hi)⟩
theorem Ext.below {w w' : World} {B : Nat} (h : Below B w w') (hB : w.heap.size ≤ B) : Ext w w' := ⟨h.size, fun b hb => h.block b (by omega)⟩
end
end Go.Proofs.Ytkkbblpofhenpaa
