/- What was sent and not got, whether something is mixed; no program in sight. -/
import Derived.Test.YtmbilaepeekglaaPLaw
namespace Go.Proofs.Ytmbilaepeekglaa
namespace Hu
/-- What a host tells. -/
def told (n s t : Int) (inn : List (List (Int × Int))) (out : List (List Int)) : Pc.Piece := ⟨n, s, t, out.map fun l => (l.length : Int), inn, out⟩
abbrev Msg := Int × Int
/-- The letters with their numbers, from k + 1 on. -/
def numb : Nat → List Int → List Msg
  | _, [] => []
  | k, o :: os => ((k : Int) + 1, o) :: numb (k + 1) os
def has (l : List Msg) (s : Int) : Bool := l.any fun m => m.1 == s
def cnt (l : List Msg) (s : Int) : Nat := l.countP fun m => m.1 == s
def rest (out : List Int) (l : List Msg) : List Msg := (numb 0 out).filter fun m => !has l m.1
def mixed (out : List Int) (l : List Msg) : Bool := l.any fun m => decide (1 < cnt l m.1) || !(numb 0 out).contains m
/-- Where the first one of a number is. -/
def place (l : List Msg) (s : Int) : Int := match l.findIdx? fun m => m.1 == s with | some i => i | none => -1
def okAt (out : List Int) (m : Msg) : Bool := decide (1 ≤ m.1) && (decide (m.1 ≤ out.length) && (out.getD (m.1.toNat - 1) 0 == m.2))
theorem numb_length (k : Nat) (out : List Int) : (numb k out).length = out.length := by
  induction out generalizing k with
  | nil => rfl
  | cons o os ih => simp [numb, ih]
theorem numb_get (k : Nat) (out : List Int) (i : Nat) : (numb k out)[i]? = out[i]?.map fun o => (((k + i : Nat) : Int) + 1, o) := by
  induction out generalizing k i with
  | nil => simp [numb]
  | cons o os ih =>
    cases i with
    | zero => simp [numb]
    | succ i => simp only [numb, List.getElem?_cons_succ, ih]; congr 2; funext o; simp; omega
theorem mem_numb {k : Nat} {out : List Int} {m : Msg} : m ∈ numb k out ↔ ∃ i, i < out.length ∧ m = (((k + i : Nat) : Int) + 1, out.getD i 0) := by
  rw [List.mem_iff_getElem?]
  constructor
  · rintro ⟨i, hi⟩
    rw [numb_get] at hi
    cases h : out[i]? with
    | none => rw [h] at hi; cases hi
    | some o =>
      rw [h] at hi
      have hl := (List.getElem?_eq_some_iff.1 h).1
      exact ⟨i, hl, by simp only [Option.map_some, Option.some.injEq] at hi; rw [List.getD_eq_getElem?_getD, h, ← hi]; rfl⟩
  · rintro ⟨i, hi, rfl⟩
    exact ⟨i, by rw [numb_get, List.getElem?_eq_getElem hi]; simp [List.getD_eq_getElem?_getD, hi]⟩
theorem contains_numb (out : List Int) (m : Msg) : (numb 0 out).contains m = okAt out m := by
  rw [Bool.eq_iff_iff, List.contains_iff_mem, mem_numb]
  simp only [okAt, Bool.and_eq_true, decide_eq_true_eq, beq_iff_eq]
  constructor
  · rintro ⟨i, hi, rfl⟩
    refine ⟨by simp; omega, by simp; omega, ?_⟩
    have : (((0 + i : Nat) : Int) + 1).toNat - 1 = i := by omega
    simp only [this]
  · rintro ⟨h1, h2, h3⟩
    exact ⟨m.1.toNat - 1, by omega, by rw [h3]; exact Prod.ext (by simp; omega) rfl⟩
theorem has_iff {l : List Msg} {s : Int} : has l s = true ↔ ∃ x, x ∈ l ∧ x.1 = s := by simp [has, List.any_eq_true]
theorem cnt_pos {l : List Msg} {s : Int} : 0 < cnt l s ↔ has l s = true := by rw [has_iff]; simp [cnt, List.countP_pos_iff]
theorem place_neg {l : List Msg} {s : Int} : place l s < 0 ↔ has l s = false := by
  unfold place
  cases h : l.findIdx? fun m => m.1 == s with
  | none =>
    have := List.findIdx?_eq_none_iff.1 h
    constructor
    · intro _; simp only [has, List.any_eq_false]; intro x hx; simpa using this x hx
    · intro _; decide
  | some i =>
    have := List.findIdx?_eq_some_iff_getElem.1 h
    obtain ⟨hi, hp, _⟩ := this
    constructor
    · intro h; simp at h; omega
    · intro h; simp only [has, List.any_eq_false] at h; exact absurd hp (h _ (List.getElem_mem hi))

/-! ### The numbers of letters differ. -/
theorem numb_pair (k : Nat) (out : List Int) : (numb k out).Pairwise fun a b => a.1 < b.1 := by
  induction out generalizing k with
  | nil => exact List.Pairwise.nil
  | cons o os ih =>
    rw [numb, List.pairwise_cons]
    refine ⟨fun m hm => ?_, ih (k + 1)⟩
    obtain ⟨i, _, rfl⟩ := mem_numb.1 hm
    show (k : Int) + 1 < ((k + 1 + i : Nat) : Int) + 1
    omega
theorem numb_inj {k : Nat} {out : List Int} {a b : Msg} (ha : a ∈ numb k out) (hb : b ∈ numb k out) (h : a.1 = b.1) : a = b := by
  obtain ⟨i, hi, rfl⟩ := mem_numb.1 ha
  obtain ⟨j, hj, rfl⟩ := mem_numb.1 hb
  have : i = j := by simp only at h; omega
  rw [this]
theorem numb_nodup (k : Nat) (out : List Int) : (numb k out).Nodup := (numb_pair k out).imp fun h e => by subst e; omega
theorem has_perm {l l' : List Msg} (h : l.Perm l') (s : Int) : has l s = has l' s := by
  rw [Bool.eq_iff_iff, has_iff, has_iff]
  exact ⟨fun ⟨x, h1, h2⟩ => ⟨x, h.mem_iff.1 h1, h2⟩, fun ⟨x, h1, h2⟩ => ⟨x, h.mem_iff.2 h1, h2⟩⟩
theorem cnt_perm {l l' : List Msg} (h : l.Perm l') (s : Int) : cnt l s = cnt l' s := h.countP_eq _
theorem rest_perm {out : List Int} {l l' : List Msg} (h : l.Perm l') : rest out l = rest out l' := by
  unfold rest; congr 1; funext m; rw [has_perm h]
theorem mixed_perm {out : List Int} {l l' : List Msg} (h : l.Perm l') : mixed out l = mixed out l' := by
  rw [Bool.eq_iff_iff]; unfold mixed
  simp only [List.any_eq_true]
  constructor
  · rintro ⟨x, h1, h2⟩; exact ⟨x, h.mem_iff.1 h1, by rw [← cnt_perm h]; exact h2⟩
  · rintro ⟨x, h1, h2⟩; exact ⟨x, h.mem_iff.2 h1, by rw [cnt_perm h]; exact h2⟩
/-- A part of what was sent. -/
theorem rest_filter (out : List Int) (p : Msg → Bool) : rest out ((numb 0 out).filter p) = (numb 0 out).filter fun m => !p m := by
  unfold rest
  apply List.filter_congr
  intro m hm
  congr 1
  rw [Bool.eq_iff_iff, has_iff]
  constructor
  · rintro ⟨x, h1, h2⟩
    rw [List.mem_filter] at h1
    rw [← numb_inj h1.1 hm h2]; exact h1.2
  · intro h; exact ⟨m, List.mem_filter.2 ⟨hm, h⟩, rfl⟩
theorem cnt_sub {out : List Int} {l : List Msg} (h : l.Sublist (numb 0 out)) (s : Int) : cnt l s ≤ 1 := by
  have h1 : l.Pairwise fun a b => a.1 < b.1 := (numb_pair 0 out).sublist h
  clear h
  unfold cnt
  induction l with
  | nil => simp
  | cons a l ih =>
    rw [List.pairwise_cons] at h1
    rw [List.countP_cons]
    split
    · rename_i ha
      have ha' : a.1 = s := by simpa using ha
      have : l.countP (fun m => m.1 == s) = 0 := by
        rw [List.countP_eq_zero]
        intro b hb; have := h1.1 b hb; simp; omega
      omega
    · exact ih h1.2
theorem mixed_sub {out : List Int} {l : List Msg} (h : l.Sublist (numb 0 out)) : mixed out l = false := by
  unfold mixed
  rw [List.any_eq_false]
  intro m hm
  have h1 := cnt_sub h m.1
  have h2 : (numb 0 out).contains m = true := by rw [List.contains_iff_mem]; exact h.subset hm
  simp only [h2, Bool.not_true, Bool.or_false, decide_eq_true_eq]; omega
theorem mixed_filter (out : List Int) (p : Msg → Bool) : mixed out ((numb 0 out).filter p) = false := mixed_sub List.filter_sublist
/-- Got, one behind the other, and the rest: all. -/
theorem both_perm (out : List Int) {l : List Msg} {p : Msg → Bool} (h : l.Perm ((numb 0 out).filter p)) : (l ++ rest out l).Perm (numb 0 out) := by
  rw [rest_perm h, rest_filter]
  exact (h.append_right _).trans (List.filter_append_perm _ _)
theorem rest_all (out : List Int) : rest out (numb 0 out) = [] := by
  have h := rest_filter out (fun _ => true)
  have e1 : (numb 0 out).filter (fun _ => true) = numb 0 out := List.filter_eq_self.2 (fun _ _ => rfl)
  have e2 : (numb 0 out).filter (fun _ => !true) = [] := List.filter_eq_nil_iff.2 (fun _ _ => by simp)
  rw [e1, e2] at h; exact h
theorem mixed_all (out : List Int) : mixed out (numb 0 out) = false := mixed_sub (List.Sublist.refl _)
/-- The place-wise answer. -/
theorem place_hit {l : List Msg} {s : Int} {j : Nat} (h : place l s = j) : ∃ h : j < l.length, (l[j]).1 = s ∧ ∀ k (hk : k < j), (l[k]).1 ≠ s := by
  unfold place at h
  cases hf : l.findIdx? fun m => m.1 == s with
  | none => rw [hf] at h; simp only at h; omega
  | some i =>
    rw [hf] at h
    simp only at h
    obtain rfl : i = j := by omega
    obtain ⟨h1, h2, h3⟩ := List.findIdx?_eq_some_iff_getElem.1 hf
    exact ⟨h1, by simpa using h2, fun k hk => by simpa using h3 k hk⟩
theorem place_at {l : List Msg} {s : Int} {i : Nat} (hi : i < l.length) (h : (l[i]).1 = s) : ∃ j, j ≤ i ∧ place l s = (j : Nat) := by
  unfold place
  cases hf : l.findIdx? fun m => m.1 == s with
  | none => have := List.findIdx?_eq_none_iff.1 hf _ (List.getElem_mem hi); simp [h] at this
  | some j =>
    obtain ⟨h1, h2, h3⟩ := List.findIdx?_eq_some_iff_getElem.1 hf
    refine ⟨j, ?_, rfl⟩
    rcases Nat.lt_or_ge i j with hij | hij
    · have := h3 i hij; simp [h] at this
    · exact hij
theorem cnt_two {l : List Msg} {s : Int} {i j : Nat} (hij : i < j) (hj : j < l.length) (h1 : (l[i]).1 = s) (h2 : (l[j]).1 = s) : 1 < cnt l s := by
  have e : l = l.take j ++ l.drop j := (List.take_append_drop j l).symm
  unfold cnt
  rw [e, List.countP_append]
  have p1 : 0 < (l.take j).countP fun m => m.1 == s := by
    rw [List.countP_pos_iff]
    exact ⟨l[i], by rw [List.mem_take_iff_getElem]; exact ⟨i, by omega, rfl⟩, by simp [h1]⟩
  have p2 : 0 < (l.drop j).countP fun m => m.1 == s := by
    rw [List.countP_pos_iff]
    exact ⟨l[j], by rw [List.mem_drop_iff_getElem]; exact ⟨0, by omega, by simp⟩, by simp [h2]⟩
  omega
theorem two_of_cnt {l : List Msg} {s : Int} (h : 1 < cnt l s) : ∃ i j, i < j ∧ ∃ hj : j < l.length, ∃ hi : i < l.length, (l[i]).1 = s ∧ (l[j]).1 = s := by
  unfold cnt at h
  induction l with
  | nil => simp at h
  | cons a l ih =>
    rw [List.countP_cons] at h
    by_cases ha : a.1 = s
    · have hp : 0 < l.countP fun m => m.1 == s := by split at h <;> omega
      obtain ⟨b, hb, hbs⟩ := List.countP_pos_iff.1 hp
      obtain ⟨k, hk, rfl⟩ := List.mem_iff_getElem.1 hb
      exact ⟨0, k + 1, by omega, by simp; omega, by simp, ha, by simpa using hbs⟩
    · rw [if_neg (by simpa using ha)] at h
      obtain ⟨i, j, h1, h2, h3, h4, h5⟩ := ih (by omega)
      exact ⟨i + 1, j + 1, by omega, by simp; omega, by simp; omega, by simpa using h4, by simpa using h5⟩
/-- One message is as it was sent, and the first one of its number. -/
def first (out : List Int) (l : List Msg) (i : Nat) : Bool := okAt out (l.getD i (0, 0)) && decide (place l (l.getD i (0, 0)).1 = i)
theorem getD_of {l : List Msg} {i : Nat} (hi : i < l.length) : l.getD i (0, 0) = l[i] := by simp [List.getD, hi]
theorem mixed_no {out : List Int} {l : List Msg} (h : ∀ i, i < l.length → first out l i = true) : mixed out l = false := by
  unfold mixed
  rw [List.any_eq_false]
  intro m hm
  obtain ⟨i, hi, rfl⟩ := List.mem_iff_getElem.1 hm
  have h1 := h i hi
  simp only [first, getD_of hi, Bool.and_eq_true, decide_eq_true_eq] at h1
  rw [contains_numb, h1.1]
  simp only [Bool.not_true, Bool.or_false, decide_eq_true_eq]
  intro hc
  obtain ⟨a, b, hab, hb, ha, e1, e2⟩ := two_of_cnt hc
  have h2 := h b hb
  simp only [first, getD_of hb, Bool.and_eq_true, decide_eq_true_eq] at h2
  obtain ⟨_, _, h3⟩ := place_hit h2.2
  exact h3 a hab (e1.trans e2.symm)
theorem mixed_yes {out : List Int} {l : List Msg} {i : Nat} (hi : i < l.length) (h : first out l i = false) : mixed out l = true := by
  unfold mixed
  rw [List.any_eq_true]
  refine ⟨l[i], List.getElem_mem hi, ?_⟩
  rw [contains_numb]
  cases hok : okAt out l[i] with
  | false => simp
  | true =>
    simp only [first, getD_of hi, hok, Bool.true_and, decide_eq_false_iff_not] at h
    obtain ⟨j, hj, he⟩ := place_at hi rfl
    obtain ⟨h1, h2, _⟩ := place_hit he
    have : j < i := by
      rcases Nat.lt_or_ge j i with h' | h'
      · exact h'
      · exfalso; apply h; rw [he]; omega
    simp [cnt_two this hi h2 rfl]
/-- The rest, so far. -/
theorem numb_take (k j : Nat) (out : List Int) : (numb k out).take j = numb k (out.take j) := by
  induction out generalizing k j with
  | nil => simp [numb]
  | cons o os ih => cases j with
    | zero => simp [numb]
    | succ j => simp [numb, ih]
theorem numb_snoc (k : Nat) (out : List Int) (o : Int) : numb k (out ++ [o]) = numb k out ++ [(((k + out.length : Nat) : Int) + 1, o)] := by
  induction out generalizing k with
  | nil => simp [numb]
  | cons a os ih => simp only [numb, List.cons_append, ih, List.length_cons]; congr 4; congr 1; omega
theorem numb_append (k : Nat) (a b : List Int) : numb k (a ++ b) = numb k a ++ numb (k + a.length) b := by
  induction a generalizing k with
  | nil => simp [numb]
  | cons x a ih => simp only [numb, List.cons_append, ih, List.length_cons]; congr 3; omega
/-- Letters that are sent later. -/
theorem rest_append (a b : List Int) (l : List Msg) : rest (a ++ b) l = rest a l ++ (numb a.length b).filter fun m => !has l m.1 := by
  unfold rest; rw [numb_append, List.filter_append, Nat.zero_add]
theorem numb_sub {a b : List Int} {m : Msg} (h : m ∈ numb 0 a) : m ∈ numb 0 (a ++ b) := by rw [numb_append]; exact List.mem_append_left _ h
theorem mixed_longer {a b : List Int} {l : List Msg} (h : mixed a l = false) : mixed (a ++ b) l = false := by
  unfold mixed at *
  rw [List.any_eq_false] at *
  intro m hm
  have := h m hm
  simp only [Bool.or_eq_true, decide_eq_true_eq, Bool.not_eq_true', not_or, Bool.not_eq_false, List.contains_iff_mem] at this ⊢
  exact ⟨this.1, numb_sub this.2⟩
/-- One more of the rest. -/
theorem rest_more {out : List Int} {l : List Msg} {p : Msg → Bool} (h : l.Perm ((numb 0 out).filter p)) {k : Nat} {m : Msg} (hk : (rest out l)[k]? = some m) :
    (l ++ [m]).Perm ((numb 0 out).filter fun x => p x || x == m) := by
  have hm : m ∈ rest out l := List.mem_of_getElem? hk
  rw [rest_perm h, rest_filter, List.mem_filter] at hm
  refine (h.append_right _).trans ?_
  have hp : p m = false := by simpa using hm.2
  have hn := numb_nodup 0 out
  have hmN := hm.1
  clear hk hm h
  generalize numb 0 out = N at hn hmN ⊢
  induction N with
  | nil => cases hmN
  | cons a N ih =>
    rw [List.nodup_cons] at hn
    by_cases ham : a = m
    · subst ham
      have hN : N.filter (fun x => p x || x == a) = N.filter p := by
        apply List.filter_congr
        intro x hx
        have : (x == a) = false := by rw [beq_eq_false_iff_ne]; rintro rfl; exact hn.1 hx
        rw [this, Bool.or_false]
      rw [List.filter_cons_of_neg (by simpa using hp), List.filter_cons_of_pos (by simp), hN]
      exact List.perm_append_singleton _ _
    · have hmN' : m ∈ N := by
        rcases List.mem_cons.1 hmN with h | h
        · exact absurd h.symm ham
        · exact h
      have hb : (a == m) = false := by simpa using ham
      by_cases hpa : p a = true
      · rw [List.filter_cons_of_pos hpa, List.filter_cons_of_pos (by simp [hpa]), List.cons_append]
        exact (ih hn.2 hmN').cons _
      · rw [List.filter_cons_of_neg hpa, List.filter_cons_of_neg (by simp [hpa, hb])]
        exact ih hn.2 hmN'
theorem filter_erase {l : List Msg} (hn : l.Nodup) {k : Nat} {m : Msg} (hk : l[k]? = some m) : l.filter (fun x => !(x == m)) = l.take k ++ l.drop (k + 1) := by
  induction l generalizing k with
  | nil => simp at hk
  | cons a l ih =>
    rw [List.nodup_cons] at hn
    cases k with
    | zero =>
      simp only [List.getElem?_cons_zero, Option.some.injEq] at hk
      subst hk
      rw [List.filter_cons_of_neg (by simp)]
      simp only [List.take_zero, List.nil_append, List.drop_succ_cons, List.drop_zero, Nat.zero_add]
      rw [List.filter_eq_self]
      intro x hx
      have : x ≠ a := by rintro rfl; exact hn.1 hx
      simpa using this
    | succ k =>
      simp only [List.getElem?_cons_succ] at hk
      have ham : a ≠ m := by rintro rfl; exact hn.1 (List.mem_of_getElem? hk)
      rw [List.filter_cons_of_pos (by simpa using ham), ih hn.2 hk]
      simp
theorem rest_nodup (out : List Int) (l : List Msg) : (rest out l).Nodup := (numb_nodup 0 out).sublist List.filter_sublist
theorem more_rest {out : List Int} {l : List Msg} {p : Msg → Bool} (h : l.Perm ((numb 0 out).filter p)) {k : Nat} {m : Msg} (hk : (rest out l)[k]? = some m) :
    rest out (l ++ [m]) = (rest out l).take k ++ (rest out l).drop (k + 1) ∧ mixed out (l ++ [m]) = false := by
  have h2 := rest_more h hk
  refine ⟨?_, by rw [mixed_perm h2]; exact mixed_filter _ _⟩
  rw [← filter_erase (rest_nodup out l) hk, rest_perm h2, rest_filter, rest_perm h, rest_filter, List.filter_filter]
  apply List.filter_congr
  intro x _
  cases p x <;> cases x == m <;> rfl
theorem mixed_twice (out : List Int) (l : List Msg) (m : Msg) (h : m ∈ l) : mixed out (l ++ [m]) = true := by
  unfold mixed
  rw [List.any_eq_true]
  refine ⟨m, by simp, ?_⟩
  have : 1 < cnt (l ++ [m]) m.1 := by
    unfold cnt
    rw [List.countP_append]
    have : 0 < l.countP fun x => x.1 == m.1 := by rw [List.countP_pos_iff]; exact ⟨m, h, by simp⟩
    have e1 : [m].countP (fun x => x.1 == m.1) = 1 := by simp
    omega
  simp [this]
theorem mixed_odd {out : List Int} {l : List Msg} {m : Msg} (h : (out.length : Int) < m.1) : mixed out (l ++ [m]) = true := by
  unfold mixed
  rw [List.any_eq_true]
  refine ⟨m, by simp, ?_⟩
  rw [contains_numb]
  have : okAt out m = false := by simp [okAt]; omega
  simp [this]
theorem rest_odd {out : List Int} {l : List Msg} {m : Msg} (h : (out.length : Int) < m.1) : rest out (l ++ [m]) = rest out l := by
  unfold rest
  apply List.filter_congr
  intro x hx
  obtain ⟨i, hi, rfl⟩ := mem_numb.1 hx
  congr 1
  have : ¬ m.1 = (i : Int) + 1 := by omega
  rw [Bool.eq_iff_iff]
  simp [has, List.any_append, this]
theorem rest_none {out : List Int} {l : List Msg} {p : Msg → Bool} (h : l.Perm ((numb 0 out).filter p)) (hr : rest out l = []) : l.length = out.length := by
  have := (both_perm out h).length_eq
  rw [hr, List.append_nil, numb_length] at this
  exact this
end Hu
end Go.Proofs.Ytmbilaepeekglaa
