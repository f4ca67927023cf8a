/- The plain words of layer 1: a number's bytes, reading them, many, texts. No program in sight. -/
namespace Go.Proofs.Ytmbilaepeekglaa.W

def top : Nat := 2147483647
/-- A number, as it counts. -/
def cl (n : Int) : Nat := (max 0 (min n 2147483647)).toNat
/-- The bytes of a number, with fuel. -/
def encF : Nat → Nat → List UInt8
  | 0, n => [UInt8.ofNat n]
  | k + 1, n => if n < 128 then [UInt8.ofNat n] else UInt8.ofNat (n % 128 + 128) :: encF k (n / 128)
def put (n : Int) : List UInt8 := encF 4 (cl n)

theorem cl_le (n : Int) : cl n ≤ 2147483647 := by unfold cl; omega
theorem cl_of (n : Int) (h : 0 ≤ n) (h' : n ≤ 2147483647) : (cl n : Int) = n := by unfold cl; omega

theorem put_end (n : Int) (l : List UInt8) (m k : Nat) (h : m < 128) (hl : l ++ encF k m = put n) : put n = l ++ [UInt8.ofNat m] := by
  rw [← hl]; cases k <;> simp [encF, h]

/-- What reading ends with: an error's number, or the number and how many bytes it has. -/
inductive Got where
  | bad (e : Nat)
  | ok (n i : Nat)
  deriving DecidableEq

/-- Reading, byte by byte: 'i' bytes are read, and make 'n'. -/
def rd : List UInt8 → Nat → Nat → Got
  | [], _, _ => .bad 5
  | c :: t, i, n =>
    let m := n + c.toNat % 128 * 128 ^ i
    if m ≤ 2147483647 ∧ (c.toNat < 128 ∨ i + 1 < 5) then
      if c.toNat < 128 then (if 0 < c.toNat ∨ i + 1 = 1 then .ok m (i + 1) else .bad 4)
      else rd t (i + 1) m
    else .bad 2

section
variable {l t : List UInt8} {c : UInt8} {i n x m : Nat}
theorem rd_big (hl : l = c :: t) (hx : x = c.toNat) (hm : m = n + x % 128 * 128 ^ i) (h : ¬ (m ≤ 2147483647 ∧ (x < 128 ∨ i + 1 < 5))) : rd l i n = .bad 2 := by
  subst hl; subst hx; subst hm; simp only [rd]; rw [if_neg h]
theorem rd_ok (hl : l = c :: t) (hx : x = c.toNat) (hm : m = n + x % 128 * 128 ^ i) (h1 : m ≤ 2147483647) (h2 : x < 128) (h3 : 0 < x ∨ i = 0) : rd l i n = .ok m (i + 1) := by
  subst hl; subst hx; subst hm; simp only [rd]; rw [if_pos ⟨h1, .inl h2⟩, if_pos h2, if_pos (by omega)]
theorem rd_form (hl : l = c :: t) (hx : x = c.toNat) (hm : m = n + x % 128 * 128 ^ i) (h1 : m ≤ 2147483647) (h2 : x < 128) (h3 : ¬ (0 < x ∨ i = 0)) : rd l i n = .bad 4 := by
  subst hl; subst hx; subst hm; simp only [rd]; rw [if_pos ⟨h1, .inl h2⟩, if_pos h2, if_neg (by omega)]
theorem rd_more (hl : l = c :: t) (hx : x = c.toNat) (hm : m = n + x % 128 * 128 ^ i) (h1 : m ≤ 2147483647) (h2 : ¬ x < 128) (h3 : i + 1 < 5) : rd l i n = rd t (i + 1) m := by
  subst hl; subst hx; subst hm; simp only [rd]; rw [if_pos ⟨h1, .inr h3⟩, if_neg h2]
end

/-- What reading many ends with. -/
inductive Alls where
  | bad (e : Nat)
  | ok (l : List Nat)
  deriving DecidableEq

def Alls.pre (acc : List Nat) : Alls → Alls
  | .bad e => .bad e
  | .ok l => .ok (acc ++ l)

def allF : Nat → List UInt8 → Alls
  | _, [] => .ok []
  | 0, _ :: _ => .ok []
  | k + 1, c :: t =>
    match rd (c :: t) 0 0 with
    | .bad e => .bad e
    | .ok n i => (allF k ((c :: t).drop i)).pre [n]
def all (l : List UInt8) : Alls := allF l.length l

theorem Alls.pre_pre (a b : List Nat) (r : Alls) : (r.pre b).pre a = r.pre (a ++ b) := by cases r <;> simp [Alls.pre]
theorem Alls.pre_nil (r : Alls) : r.pre [] = r := by cases r <;> simp [Alls.pre]

theorem rd_pos : ∀ (l : List UInt8) (i n m j : Nat), rd l i n = .ok m j → i < j ∧ j ≤ i + l.length ∧ m ≤ 2147483647 := by
  intro l
  induction l with
  | nil => intro i n m j h; simp [rd] at h
  | cons c t ih =>
    intro i n m j h
    simp only [rd] at h
    split at h
    · split at h
      · split at h
        · injection h with h1 h2; simp; omega
        · cases h
      · have := ih _ _ _ _ h; simp; omega
    · cases h

theorem allF_more : ∀ (k : Nat) (l : List UInt8), l.length ≤ k → allF k l = all l := by
  have key : ∀ (n k : Nat) (l : List UInt8), l.length ≤ n → l.length ≤ k → allF k l = allF n l := by
    intro n
    induction n with
    | zero => intro k l h _; have : l = [] := List.eq_nil_of_length_eq_zero (by omega); subst this; cases k <;> simp [allF]
    | succ n ih =>
      intro k l h hk
      cases l with
      | nil => cases k <;> simp [allF]
      | cons c t =>
        cases k with
        | zero => simp at hk
        | succ k =>
          simp only [allF]
          cases hr : rd (c :: t) 0 0 with
          | bad e => rfl
          | ok m i =>
            have := rd_pos _ _ _ _ _ hr
            simp only []
            rw [ih k ((c :: t).drop i) (by simp at *; omega) (by simp at *; omega)]
  intro k l h
  exact key _ k l (Nat.le_refl _) h

theorem all_nil : all [] = .ok [] := rfl
theorem all_bad {l : List UInt8} {e : Nat} (hl : l ≠ []) (h : rd l 0 0 = .bad e) : all l = .bad e := by
  cases l with
  | nil => exact absurd rfl hl
  | cons c t => simp [all, allF, h]
theorem all_ok {l : List UInt8} {n i : Nat} (h : rd l 0 0 = .ok n i) : all l = (all (l.drop i)).pre [n] := by
  cases l with
  | nil => simp [rd] at h
  | cons c t =>
    have hp := rd_pos _ _ _ _ _ h
    have : all (c :: t) = (allF t.length ((c :: t).drop i)).pre [n] := by simp [all, allF, h]
    rw [this, allF_more _ _ (by simp at *; omega)]

/-- What taking a text ends with: an error's number, or the bytes, and how many bytes that took. -/
inductive Took where
  | bad (e : Nat)
  | ok (t : List UInt8) (j : Nat)
  deriving DecidableEq

def take (l : List UInt8) (top : Int) : Took :=
  match rd l 0 0 with
  | .bad e => .bad e
  | .ok n i => if (n : Int) ≤ max top 0 then (if n ≤ l.length - i then .ok ((l.drop i).take n) (i + n) else .bad 5) else .bad 2

theorem take_bad {l : List UInt8} {top : Int} {e : Nat} (h : rd l 0 0 = .bad e) : take l top = .bad e := by simp [take, h]
theorem take_big {l : List UInt8} {top : Int} {n i : Nat} (h : rd l 0 0 = .ok n i) (h1 : ¬ (n : Int) ≤ max top 0) : take l top = .bad 2 := by
  simp only [take, h]; rw [if_neg h1]
theorem take_short {l : List UInt8} {top : Int} {n i : Nat} (h : rd l 0 0 = .ok n i) (h1 : (n : Int) ≤ max top 0) (h2 : ¬ n ≤ l.length - i) : take l top = .bad 5 := by
  simp only [take, h]; rw [if_pos h1, if_neg h2]
theorem take_ok {l : List UInt8} {top : Int} {n i : Nat} (h : rd l 0 0 = .ok n i) (h1 : (n : Int) ≤ max top 0) (h2 : n ≤ l.length - i) : take l top = .ok ((l.drop i).take n) (i + n) := by
  simp only [take, h]; rw [if_pos h1, if_pos h2]
end Go.Proofs.Ytmbilaepeekglaa.W
