/- The plain words of layer 6: a piece, whether it may be, its numbers, the piece of numbers. No program in sight. -/
import Derived.Test.YtmbilaepeekglaaWLaw3
namespace Go.Proofs.Ytmbilaepeekglaa.Pc

structure Piece where
  node : Int
  state : Int
  steps : Int
  sent : List Int
  inn : List (List (Int × Int))
  out : List (List Int)
  deriving DecidableEq

def zero : Piece := ⟨0, 0, 0, [], [], []⟩

def within (n low high : Int) : Bool := decide (low ≤ n ∧ n ≤ high)
theorem within_yes {n low high : Int} (h : low ≤ n ∧ n ≤ high) : within n low high = true := decide_eq_true h
theorem within_no {n low high : Int} (h : ¬ (low ≤ n ∧ n ≤ high)) : within n low high = false := decide_eq_false h

def rising : Int → List (Int × Int) → Bool
  | _, [] => true
  | last, m :: t => decide (last < m.1 ∧ m.1 ≤ 500 ∧ 0 ≤ m.2 ∧ m.2 ≤ 3) && rising m.1 t

theorem rising_yes {last : Int} {m : Int × Int} {t : List (Int × Int)} (h : last < m.1 ∧ m.1 ≤ 500 ∧ 0 ≤ m.2 ∧ m.2 ≤ 3) : rising last (m :: t) = rising m.1 t := by
  rw [rising, decide_eq_true h, Bool.true_and]
theorem rising_no {last : Int} {m : Int × Int} {t : List (Int × Int)} (h : ¬ (last < m.1 ∧ m.1 ≤ 500 ∧ 0 ≤ m.2 ∧ m.2 ≤ 3)) : rising last (m :: t) = false := by
  rw [rising, decide_eq_false h, Bool.false_and]

def okOut (l : List Int) : Bool := decide (l.length ≤ 500) && l.all (fun n => within n 0 3)

/-- The numbers and lengths. -/
def okHead (p : Piece) : Bool :=
  decide ((0 ≤ p.node ∧ p.node ≤ 5) ∧ (0 ≤ p.state ∧ p.state ≤ 7) ∧ (0 ≤ p.steps ∧ p.steps ≤ 2147483647) ∧ p.sent.length ≤ 5 ∧ p.inn.length ≤ 5 ∧ p.out.length ≤ 5)
def right (p : Piece) : Bool := okHead p && (p.sent.all (fun n => within n 0 500) && (p.inn.all (rising 0) && p.out.all okOut))

/-- The first place where something is so; -1, if there is none. -/
def idx {α : Type} (b : α → Bool) : List α → Int
  | [] => -1
  | x :: t => if b x then 0 else if 0 ≤ idx b t then idx b t + 1 else -1
theorem idx_ge' {α : Type} (b : α → Bool) : ∀ l : List α, -1 ≤ idx b l ∧ (0 ≤ idx b l ↔ l.any b = true) := by
  intro l
  induction l with
  | nil => simp [idx]
  | cons x t ih =>
    have e : idx b (x :: t) = if b x then 0 else if 0 ≤ idx b t then idx b t + 1 else -1 := rfl
    generalize idx b (x :: t) = z at e
    rw [List.any_cons]
    by_cases hb : b x = true
    · rw [if_pos hb] at e; subst e; simp [hb]
    · rw [if_neg hb] at e
      rw [Bool.eq_false_iff.2 hb, Bool.false_or, ← ih.2]
      by_cases h : 0 ≤ idx b t
      · rw [if_pos h] at e; subst e; omega
      · rw [if_neg h] at e; subst e; omega
theorem idx_ge {α : Type} (b : α → Bool) (l : List α) : -1 ≤ idx b l ∧ (decide (0 ≤ idx b l) = l.any b) :=
  ⟨(idx_ge' b l).1, by rw [Bool.eq_iff_iff, decide_eq_true_iff]; exact (idx_ge' b l).2⟩
theorem idx_at {α : Type} {b : α → Bool} : ∀ {l : List α} {j : Nat} {x : α}, (∀ (i : Nat) (y : α), i < j → l[i]? = some y → b y = false) → l[j]? = some x → b x = true → idx b l = (j : Int) := by
  intro l
  induction l with
  | nil => intro j x _ h; simp at h
  | cons y t ih =>
    intro j x hlt hx hb
    cases j with
    | zero =>
      simp only [List.getElem?_cons_zero, Option.some.injEq] at hx
      subst hx
      simp [idx, hb]
    | succ j =>
      have h0 := hlt 0 y (by omega) rfl
      have := ih (j := j) (x := x) (fun i z hi hz => hlt (i + 1) z (by omega) (by simpa using hz)) (by simpa using hx) hb
      simp only [idx, h0, Bool.false_eq_true, if_false, this]
      rw [if_pos (by omega)]
      omega
theorem idx_none {α : Type} {b : α → Bool} : ∀ {l : List α}, (∀ (i : Nat) (y : α), l[i]? = some y → b y = false) → idx b l = -1 := by
  intro l
  induction l with
  | nil => intro _; rfl
  | cons y t ih =>
    intro h
    have h0 := h 0 y rfl
    have := ih (fun i z hz => h (i + 1) z (by simpa using hz))
    simp only [idx, h0, this]
    simp
/-- None of the first j is so. -/
def clear {α : Type} (b : α → Bool) (l : List α) (j : Nat) : Prop := ∀ (i : Nat) (y : α), i < j → l[i]? = some y → b y = false
theorem clear_zero {α : Type} (b : α → Bool) (l : List α) : clear b l 0 := fun _ _ h => absurd h (Nat.not_lt_zero _)
theorem clear_next {α : Type} {b : α → Bool} {l : List α} {j : Nat} {x : α} (h : clear b l j) (hx : l[j]? = some x) (hb : b x = false) : clear b l (j + 1) := by
  intro i y hi hy
  rcases Nat.lt_or_ge i j with hlt | hge
  · exact h i y hlt hy
  · obtain rfl : i = j := by omega
    rw [hx] at hy; injection hy with hy; subst hy; exact hb
theorem clear_all {α : Type} {b : α → Bool} {l : List α} (h : clear b l l.length) : idx b l = -1 :=
  idx_none fun i y hy => h i y (List.getElem?_eq_some_iff.1 hy).1 hy
theorem clear_at {α : Type} {b : α → Bool} {l : List α} {j : Nat} {x : α} (h : clear b l j) (hx : l[j]? = some x) (hb : b x = true) : idx b l = (j : Int) := idx_at h hx hb
theorem clear_any {α : Type} {b : α → Bool} {l : List α} (h : clear b l l.length) : l.any b = false := by
  rw [← (idx_ge b l).2, clear_all h]; rfl
theorem at_any {α : Type} {b : α → Bool} {l : List α} {j : Nat} {x : α} (hx : l[j]? = some x) (hb : b x = true) : l.any b = true :=
  List.any_eq_true.2 ⟨x, List.mem_of_getElem? hx, hb⟩
/-- All of the first j are so. -/
def good {α : Type} (b : α → Bool) (l : List α) (j : Nat) : Prop := ∀ (i : Nat) (y : α), i < j → l[i]? = some y → b y = true
theorem good_zero {α : Type} (b : α → Bool) (l : List α) : good b l 0 := fun _ _ h => absurd h (Nat.not_lt_zero _)
theorem good_next {α : Type} {b : α → Bool} {l : List α} {j : Nat} {x : α} (h : good b l j) (hx : l[j]? = some x) (hb : b x = true) : good b l (j + 1) := by
  intro i y hi hy
  rcases Nat.lt_or_ge i j with hlt | hge
  · exact h i y hlt hy
  · obtain rfl : i = j := by omega
    rw [hx] at hy; injection hy with hy; subst hy; exact hb
theorem good_all {α : Type} {b : α → Bool} {l : List α} (h : good b l l.length) : l.all b = true := by
  rw [List.all_eq_true]
  intro x hx
  obtain ⟨i, hi⟩ := List.mem_iff_getElem?.1 hx
  exact h i x (List.getElem?_eq_some_iff.1 hi).1 hi
theorem bad_all {α : Type} {b : α → Bool} {l : List α} {j : Nat} {x : α} (hx : l[j]? = some x) (hb : b x = false) : l.all b = false := by
  rw [← Bool.not_eq_true, List.all_eq_true]
  intro h
  rw [h x (List.mem_of_getElem? hx)] at hb
  cases hb
theorem drop_at {α : Type} {l : List α} {j : Nat} {x : α} (hx : l[j]? = some x) : l.drop j = x :: l.drop (j + 1) := by
  obtain ⟨h, rfl⟩ := List.getElem?_eq_some_iff.1 hx
  exact List.drop_eq_getElem_cons h
theorem get_at {α : Type} {l : List α} {j : Nat} (h : j < l.length) : ∃ x, l[j]? = some x := ⟨_, List.getElem?_eq_getElem h⟩
theorem all_not {α : Type} (b : α → Bool) (l : List α) : l.any (fun x => !b x) = !l.all b := by
  induction l with
  | nil => rfl
  | cons x t ih => simp [ih]

/-! ### The numbers of a piece. -/
def pairs (x : List (Int × Int)) : List Int := x.flatMap fun m => [m.1, m.2]
def numsIn (ms : List (List (Int × Int))) : List Int := ms.flatMap fun x => (x.length : Int) :: pairs x
def numsOut (os : List (List Int)) : List Int := os.flatMap fun x => (x.length : Int) :: x
def nums (p : Piece) : List Int := ([p.node, p.state, p.steps, (p.sent.length : Int)] ++ p.sent ++ [(p.inn.length : Int)] ++ numsIn p.inn) ++ [(p.out.length : Int)] ++ numsOut p.out
def enc (p : Piece) : List UInt8 := if right p then W.puts (nums p) else []
def err (p : Piece) : Int := if right p then 0 else 4

theorem rising_len : ∀ (x : List (Int × Int)) (last : Int), rising last x = true → last ≤ 500 → (x.length : Int) ≤ 500 - last := by
  intro x
  induction x with
  | nil => intro last _ h; simpa using h
  | cons m t ih =>
    intro last h hl
    simp only [rising, Bool.and_eq_true, decide_eq_true_eq] at h
    have := ih m.1 h.2 h.1.2.1
    simp only [List.length_cons, Int.natCast_add, Int.natCast_one]
    have := h.1.1
    omega
theorem pairs_len (x : List (Int × Int)) : (pairs x).length = 2 * x.length := by
  induction x with
  | nil => rfl
  | cons m t ih => simp only [pairs, List.flatMap_cons, List.length_append, List.length_cons, List.length_nil] at *; omega
theorem numsIn_len : ∀ ms : List (List (Int × Int)), (∀ x ∈ ms, x.length ≤ 500) → (numsIn ms).length ≤ 1001 * ms.length := by
  intro ms
  induction ms with
  | nil => intro _; simp [numsIn]
  | cons x t ih =>
    intro h
    have h1 := h x (by simp)
    have h2 := ih (fun y hy => h y (by simp [hy]))
    have h3 := pairs_len x
    simp only [numsIn, List.flatMap_cons, List.length_append, List.length_cons] at *
    omega
theorem numsOut_len : ∀ os : List (List Int), (∀ x ∈ os, x.length ≤ 500) → (numsOut os).length ≤ 501 * os.length := by
  intro os
  induction os with
  | nil => intro _; simp [numsOut]
  | cons x t ih =>
    intro h
    have h1 := h x (by simp)
    have h2 := ih (fun y hy => h y (by simp [hy]))
    simp only [numsOut, List.flatMap_cons, List.length_append, List.length_cons] at *
    omega
theorem numsIn_snoc (ms : List (List (Int × Int))) (x : List (Int × Int)) : numsIn (ms ++ [x]) = numsIn ms ++ ((x.length : Int) :: pairs x) := by simp [numsIn]
theorem numsOut_snoc (os : List (List Int)) (x : List Int) : numsOut (os ++ [x]) = numsOut os ++ ((x.length : Int) :: x) := by simp [numsOut]
theorem pairs_snoc (x : List (Int × Int)) (m : Int × Int) : pairs (x ++ [m]) = pairs x ++ [m.1, m.2] := by simp [pairs]
theorem take_next {α : Type} {l : List α} {j : Nat} {x : α} (hx : l[j]? = some x) : l.take (j + 1) = l.take j ++ [x] := by
  rw [List.take_add_one, hx]; rfl

/-- Lists that are not too long. -/
def small (p : Piece) : Prop := p.sent.length ≤ 5 ∧ p.inn.length ≤ 5 ∧ p.out.length ≤ 5 ∧ (∀ x ∈ p.inn, x.length ≤ 500) ∧ (∀ x ∈ p.out, x.length ≤ 500)
theorem small_of {p : Piece} (h : right p = true) : small p := by
  simp only [right, Bool.and_eq_true] at h
  obtain ⟨h1, h2, h3, h4⟩ := h
  have h1' := of_decide_eq_true h1
  refine ⟨h1'.2.2.2.1, h1'.2.2.2.2.1, h1'.2.2.2.2.2, fun x hx => ?_, fun x hx => ?_⟩
  · have := rising_len x 0 (List.all_eq_true.1 h3 x hx) (by omega)
    omega
  · have := List.all_eq_true.1 h4 x hx
    simp only [okOut, Bool.and_eq_true, decide_eq_true_eq] at this
    exact this.1
theorem nums_len {p : Piece} (h : small p) : (nums p).length ≤ 8000 := by
  obtain ⟨h1, h2, h3, h4, h5⟩ := h
  have := numsIn_len p.inn h4
  have := numsOut_len p.out h5
  simp only [nums, List.length_append, List.length_cons, List.length_nil]
  omega
end Go.Proofs.Ytmbilaepeekglaa.Pc
