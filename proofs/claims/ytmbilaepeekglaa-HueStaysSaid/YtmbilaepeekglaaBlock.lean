/- A part of a drawn region in which several operations may come up in any order: each of them is walked once, over an invariant. Nothing of the program. -/
import Derived.Test.YtmbilaepeekglaaPlan
namespace Go.Proofs.Ytmbilaepeekglaa
section
variable {P : Program} {Q : Exit → Act → World → Prop} {md : Region.Mode}

/-- From a mask on just those of S come up, k in all, in whatever order; then the mask is mEnd. -/
def blockOK (ems : List Nat) (S : List Nat) (mEnd : Nat) : Nat → Nat → Bool
  | 0, m => m == mEnd
  | k + 1, m => (fun rs => !rs.isEmpty && rs.all fun j => S.contains j && blockOK ems S mEnd k (m ||| 2 ^ j)) (readyM m ems 0)

theorem mem_readyM (mask : Nat) : ∀ (ems : List Nat) (j i : Nat), i ∈ readyM mask ems j → ∃ k em, i = j + k ∧ ems[k]? = some em ∧ mask.testBit i = false ∧ em &&& mask = em := by
  intro ems
  induction ems with
  | nil => intro j i h; simp [readyM] at h
  | cons em t ih =>
    intro j i h
    have step : i ∈ readyM mask t (j + 1) → ∃ k em', i = j + k ∧ (em :: t)[k]? = some em' ∧ mask.testBit i = false ∧ em' &&& mask = em' := by
      intro h
      obtain ⟨k, em', rfl, h2, h3, h4⟩ := ih (j + 1) i h
      exact ⟨k + 1, em', by omega, by simpa using h2, h3, h4⟩
    unfold readyM at h
    split at h
    · rename_i hc
      rcases List.mem_cons.1 h with rfl | h
      · simp only [Bool.and_eq_true, Bool.not_eq_true', beq_iff_eq] at hc
        exact ⟨0, em, rfl, rfl, hc.1, hc.2⟩
      · exact step h
    · exact step h

/-- Each of S, walked once. -/
def blockSteps (P : Program) (md : Region.Mode) (M : Nat) (wM : World) (l : List Oper) (Inv : Nat → Act → World → Prop) : List Nat → Prop
  | [] => True
  | j :: t => (∀ m a w, (l.map (edgeMask md)).getD j 0 &&& m = (l.map (edgeMask md)).getD j 0 → Inv m a w →
      wpList P l.toArray (stepQ fun a w => (M.testBit j = true → Ext wM w) ∧ Inv (m ||| 2 ^ j) a w) [l.getD j default] a w) ∧ blockSteps P md M wM l Inv t
theorem blockSteps_nil {M : Nat} {wM : World} {l : List Oper} {Inv : Nat → Act → World → Prop} : blockSteps P md M wM l Inv [] := trivial
theorem blockSteps_cons {M : Nat} {wM : World} {l : List Oper} {Inv : Nat → Act → World → Prop} {j : Nat} {t : List Nat} (h : ∀ m a w, (l.map (edgeMask md)).getD j 0 &&& m = (l.map (edgeMask md)).getD j 0 → Inv m a w →
      wpList P l.toArray (stepQ fun a w => (M.testBit j = true → Ext wM w) ∧ Inv (m ||| 2 ^ j) a w) [l.getD j default] a w) (ht : blockSteps P md M wM l Inv t) : blockSteps P md M wM l Inv (j :: t) := ⟨h, ht⟩
theorem blockSteps.get {M : Nat} {wM : World} {l : List Oper} {Inv : Nat → Act → World → Prop} : ∀ {S : List Nat}, blockSteps P md M wM l Inv S → ∀ j ∈ S, ∀ m a w, (l.map (edgeMask md)).getD j 0 &&& m = (l.map (edgeMask md)).getD j 0 → Inv m a w →
      wpList P l.toArray (stepQ fun a w => (M.testBit j = true → Ext wM w) ∧ Inv (m ||| 2 ^ j) a w) [l.getD j default] a w := by
  intro S
  induction S with
  | nil => intro _ j hj; cases hj
  | cons i t ih =>
    intro h j hj
    rcases List.mem_cons.1 hj with rfl | hj
    · exact h.1
    · exact ih h.2 j hj

theorem wpAny_blockM (S : List Nat) (mEnd : Nat) {M : Nat} {wM : World} {l : List Oper} (Inv : Nat → Act → World → Prop) (hin : edgesIn l = true) (hS : (S.all fun j => decide (j < l.length)) = true)
    (hsteps : blockSteps P md M wM l Inv S)
    (fuelEnd : Nat) (hend : ∀ a w, Inv mEnd a w → wpAnyM P md l.toArray Q M wM fuelEnd (arrM l.length mEnd) a w) :
    ∀ (k m : Nat) (a : Act) (w : World), blockOK (l.map (edgeMask md)) S mEnd k m = true → Inv m a w → wpAnyM P md l.toArray Q M wM (fuelEnd + k) (arrM l.length m) a w := by
  have hstep := hsteps.get
  intro k
  induction k with
  | zero =>
    intro m a w hok hi
    obtain rfl : m = mEnd := by simpa [blockOK] using hok
    exact hend a w hi
  | succ k ih =>
    intro m a w hok hi
    simp only [blockOK, Bool.and_eq_true, Bool.not_eq_true', List.all_eq_true] at hok
    obtain ⟨hne, hall⟩ := hok
    refine wpAnyM_all (rs := readyM m (l.map (edgeMask md)) 0) (ready_arrM l m hin) (by intro e; rw [e] at hne; simp at hne) (fun j hj => ?_)
    obtain ⟨hjS, hok'⟩ := hall j hj
    have hjS' : j ∈ S := by simpa using hjS
    obtain ⟨q, em, hq, hem, _, hdep⟩ := mem_readyM _ _ _ _ hj
    have hqj : q = j := by omega
    subst hqj
    have hjl : q < l.length := of_decide_eq_true ((List.all_eq_true.1 hS) q hjS')
    have hge : (l.map (edgeMask md)).getD q 0 = em := by rw [List.getD, hem]; rfl
    have h := hstep q hjS' m a w (by rw [hge]; exact hdep) hi
    have h' := wpOps_map l [q] a w (by simp [hjl]) h
    rw [wpOps_cons] at h'
    rw [arrM_set _ _ _ hjl]
    exact wpOp_mono (fun a' w' hh => ⟨hh.1, ih _ a' w' hok' hh.2⟩) (wpOp_stepQ h')

theorem name_act {M : Nat} {wM : World} {ops : Array Oper} {fuel : Nat} {li : Array Bool} {a : Act} {w : World} (h : ∀ A, a = A → wpAnyM P md ops Q M wM fuel li A w) : wpAnyM P md ops Q M wM fuel li a w := h a rfl
/-- What is known once operation i has come up. -/
def Held (m i : Nat) (φ : Prop) : Prop := m.testBit i = true → φ
variable {m i j : Nat} {φ ψ : Prop}
theorem Held.other (h : Held m i φ) (hne : i ≠ j) (hs : φ → ψ) : Held (m ||| 2 ^ j) i ψ := by
  intro hb
  rw [Nat.testBit_or, Nat.testBit_two_pow, Bool.or_eq_true, decide_eq_true_eq] at hb
  rcases hb with hb | hb
  · exact hs (h hb)
  · exact absurd hb.symm hne
theorem Held.now (h : φ) : Held m i φ := fun _ => h
theorem Held.imp (h : Held m i φ) (hs : φ → ψ) : Held m i ψ := fun hb => hs (h hb)
theorem Held.none (h : m.testBit i = false) : Held m i φ := fun hb => by rw [h] at hb; cases hb
theorem Held.get (h : Held m i φ) {E : Nat} (hd : E &&& m = E) (hE : E.testBit i = true) : φ := by
  apply h
  rw [← hd, Nat.testBit_and, Bool.and_eq_true] at hE
  exact hE.2
theorem Held.done (h : Held m i φ) (hm : m.testBit i = true) : φ := h hm
end
end Go.Proofs.Ytmbilaepeekglaa
