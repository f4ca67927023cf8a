/- Lemmas, walks and contracts that the statements of this seat are proved by. -/
import Derived.WalkKit
import Derived.WalkLawsBesides
import Derived.WalkSpells
import Derived.Lib.Hide
import Derived.Lib.MinMax
import Derived.Outline
import Derived.Deep.LoopGhost
import Derived.Deep.DeepFit
import Derived.BigQuiet
import Derived.Deep.QuietTactic
import Derived.Test.YtdfgnmdofjhnkaaProg
import Derived.Laws.BitsAllLaws
/- The plain words of layer 1: a number's bytes, reading them, many, texts. No program in sight. -/
namespace Go.Proofs.Ytdfgnmdofjhnkaa.W

def top : Nat := 2147483647
/-- A number, as it counts. -/
def cl (n : Int) : Nat := (max 0 (min n 2147483647)).toNat
/-- The bytes of a number, with fuel. -/
def encF : Nat → Nat → List UInt8
  | 0, n => [UInt8.ofNat n]
  | k + 1, n => if n < 128 then [UInt8.ofNat n] else UInt8.ofNat (n % 128 + 128) :: encF k (n / 128)
def put (n : Int) : List UInt8 := encF 4 (cl n)

theorem cl_le (n : Int) : cl n ≤ 2147483647 := by unfold cl; omega
theorem cl_of (n : Int) (h : 0 ≤ n) (h' : n ≤ 2147483647) : (cl n : Int) = n := by unfold cl; omega

theorem put_end (n : Int) (l : List UInt8) (m k : Nat) (h : m < 128) (hl : l ++ encF k m = put n) : put n = l ++ [UInt8.ofNat m] := by
  rw [← hl]; cases k <;> simp [encF, h]

/-- What reading ends with: an error's number, or the number and how many bytes it has. -/
inductive Got where
  | bad (e : Nat)
  | ok (n i : Nat)
  deriving DecidableEq

/-- Reading, byte by byte: 'i' bytes are read, and make 'n'. -/
def rd : List UInt8 → Nat → Nat → Got
  | [], _, _ => .bad 5
  | c :: t, i, n =>
    let m := n + c.toNat % 128 * 128 ^ i
    if m ≤ 2147483647 ∧ (c.toNat < 128 ∨ i + 1 < 5) then
      if c.toNat < 128 then (if 0 < c.toNat ∨ i + 1 = 1 then .ok m (i + 1) else .bad 4)
      else rd t (i + 1) m
    else .bad 2

section
variable {l t : List UInt8} {c : UInt8} {i n x m : Nat}
theorem rd_big (hl : l = c :: t) (hx : x = c.toNat) (hm : m = n + x % 128 * 128 ^ i) (h : ¬ (m ≤ 2147483647 ∧ (x < 128 ∨ i + 1 < 5))) : rd l i n = .bad 2 := by
  subst hl; subst hx; subst hm; simp only [rd]; rw [if_neg h]
theorem rd_ok (hl : l = c :: t) (hx : x = c.toNat) (hm : m = n + x % 128 * 128 ^ i) (h1 : m ≤ 2147483647) (h2 : x < 128) (h3 : 0 < x ∨ i = 0) : rd l i n = .ok m (i + 1) := by
  subst hl; subst hx; subst hm; simp only [rd]; rw [if_pos ⟨h1, .inl h2⟩, if_pos h2, if_pos (by omega)]
theorem rd_form (hl : l = c :: t) (hx : x = c.toNat) (hm : m = n + x % 128 * 128 ^ i) (h1 : m ≤ 2147483647) (h2 : x < 128) (h3 : ¬ (0 < x ∨ i = 0)) : rd l i n = .bad 4 := by
  subst hl; subst hx; subst hm; simp only [rd]; rw [if_pos ⟨h1, .inl h2⟩, if_pos h2, if_neg (by omega)]
theorem rd_more (hl : l = c :: t) (hx : x = c.toNat) (hm : m = n + x % 128 * 128 ^ i) (h1 : m ≤ 2147483647) (h2 : ¬ x < 128) (h3 : i + 1 < 5) : rd l i n = rd t (i + 1) m := by
  subst hl; subst hx; subst hm; simp only [rd]; rw [if_pos ⟨h1, .inr h3⟩, if_neg h2]
end

/-- What reading many ends with. -/
inductive Alls where
  | bad (e : Nat)
  | ok (l : List Nat)
  deriving DecidableEq

def Alls.pre (acc : List Nat) : Alls → Alls
  | .bad e => .bad e
  | .ok l => .ok (acc ++ l)

def allF : Nat → List UInt8 → Alls
  | _, [] => .ok []
  | 0, _ :: _ => .ok []
  | k + 1, c :: t =>
    match rd (c :: t) 0 0 with
    | .bad e => .bad e
    | .ok n i => (allF k ((c :: t).drop i)).pre [n]
def all (l : List UInt8) : Alls := allF l.length l

theorem Alls.pre_pre (a b : List Nat) (r : Alls) : (r.pre b).pre a = r.pre (a ++ b) := by cases r <;> simp [Alls.pre]
theorem Alls.pre_nil (r : Alls) : r.pre [] = r := by cases r <;> simp [Alls.pre]

theorem rd_pos : ∀ (l : List UInt8) (i n m j : Nat), rd l i n = .ok m j → i < j ∧ j ≤ i + l.length ∧ m ≤ 2147483647 := by
  intro l
  induction l with
  | nil => intro i n m j h; simp [rd] at h
  | cons c t ih =>
    intro i n m j h
    simp only [rd] at h
    split at h
    · split at h
      · split at h
        · injection h with h1 h2; simp; omega
        · cases h
      · have := ih _ _ _ _ h; simp; omega
    · cases h

theorem allF_more : ∀ (k : Nat) (l : List UInt8), l.length ≤ k → allF k l = all l := by
  have key : ∀ (n k : Nat) (l : List UInt8), l.length ≤ n → l.length ≤ k → allF k l = allF n l := by
    intro n
    induction n with
    | zero => intro k l h _; have : l = [] := List.eq_nil_of_length_eq_zero (by omega); subst this; cases k <;> simp [allF]
    | succ n ih =>
      intro k l h hk
      cases l with
      | nil => cases k <;> simp [allF]
      | cons c t =>
        cases k with
        | zero => simp at hk
        | succ k =>
          simp only [allF]
          cases hr : rd (c :: t) 0 0 with
          | bad e => rfl
          | ok m i =>
            have := rd_pos _ _ _ _ _ hr
            simp only []
            rw [ih k ((c :: t).drop i) (by simp at *; omega) (by simp at *; omega)]
  intro k l h
  exact key _ k l (Nat.le_refl _) h

theorem all_nil : all [] = .ok [] := rfl
theorem all_bad {l : List UInt8} {e : Nat} (hl : l ≠ []) (h : rd l 0 0 = .bad e) : all l = .bad e := by
  cases l with
  | nil => exact absurd rfl hl
  | cons c t => simp [all, allF, h]
theorem all_ok {l : List UInt8} {n i : Nat} (h : rd l 0 0 = .ok n i) : all l = (all (l.drop i)).pre [n] := by
  cases l with
  | nil => simp [rd] at h
  | cons c t =>
    have hp := rd_pos _ _ _ _ _ h
    have : all (c :: t) = (allF t.length ((c :: t).drop i)).pre [n] := by simp [all, allF, h]
    rw [this, allF_more _ _ (by simp at *; omega)]

/-- What taking a text ends with: an error's number, or the bytes, and how many bytes that took. -/
inductive Took where
  | bad (e : Nat)
  | ok (t : List UInt8) (j : Nat)
  deriving DecidableEq

def take (l : List UInt8) (top : Int) : Took :=
  match rd l 0 0 with
  | .bad e => .bad e
  | .ok n i => if (n : Int) ≤ max top 0 then (if n ≤ l.length - i then .ok ((l.drop i).take n) (i + n) else .bad 5) else .bad 2

theorem take_bad {l : List UInt8} {top : Int} {e : Nat} (h : rd l 0 0 = .bad e) : take l top = .bad e := by simp [take, h]
theorem take_big {l : List UInt8} {top : Int} {n i : Nat} (h : rd l 0 0 = .ok n i) (h1 : ¬ (n : Int) ≤ max top 0) : take l top = .bad 2 := by
  simp only [take, h]; rw [if_neg h1]
theorem take_short {l : List UInt8} {top : Int} {n i : Nat} (h : rd l 0 0 = .ok n i) (h1 : (n : Int) ≤ max top 0) (h2 : ¬ n ≤ l.length - i) : take l top = .bad 5 := by
  simp only [take, h]; rw [if_pos h1, if_neg h2]
theorem take_ok {l : List UInt8} {top : Int} {n i : Nat} (h : rd l 0 0 = .ok n i) (h1 : (n : Int) ≤ max top 0) (h2 : n ≤ l.length - i) : take l top = .ok ((l.drop i).take n) (i + n) := by
  simp only [take, h]; rw [if_pos h1, if_pos h2]
end Go.Proofs.Ytdfgnmdofjhnkaa.W

/- Layer 1, plain: many numbers, texts, lengths. -/
namespace Go.Proofs.Ytdfgnmdofjhnkaa.W

def puts (l : List Int) : List UInt8 := l.flatMap put
theorem encF_len : ∀ k n, (encF k n).length ≤ k + 1 ∧ 1 ≤ (encF k n).length := by
  intro k
  induction k with
  | zero => intro n; simp [encF]
  | succ k ih => intro n; simp only [encF]; split <;> simp; have := (ih (n / 128)).1; omega
theorem put_len (n : Int) : (put n).length ≤ 5 ∧ 1 ≤ (put n).length := encF_len 4 _
theorem puts_len (l : List Int) : (puts l).length ≤ 5 * l.length := by
  induction l with
  | nil => simp [puts]
  | cons a l ih => simp [puts] at *; have := (put_len a).1; omega
theorem puts_snoc (l : List Int) (n : Int) : puts (l ++ [n]) = puts l ++ put n := by simp [puts]
theorem puts_append (l k : List Int) : puts (l ++ k) = puts l ++ puts k := by simp [puts]
theorem take_snoc (xs : List Int) (k : Nat) (hk : k < xs.length) : xs.take (k + 1) = xs.take k ++ [xs.getD k 0] := by
  rw [List.take_add_one, List.getElem?_eq_getElem hk]; simp [List.getD, hk]
def text (s : List UInt8) : List UInt8 := put s.length ++ s

theorem like_more {xs ys : List Int} {j : Nat} {x : Int} (hn : xs.length = ys.length) (hj : j < xs.length) (h : xs.take j = ys.take j) (hx : x = xs.getD j 0) (hy : x = ys.getD j 0) : xs.take (j + 1) = ys.take (j + 1) := by
  rw [take_snoc xs j hj, take_snoc ys j (by omega), h, ← hx, ← hy]
theorem like_not {xs ys : List Int} {j : Nat} {x y : Int} (hx : x = xs.getD j 0) (hy : y = ys.getD j 0) (h : ¬ x = y) : decide (xs = ys) = false := by
  rw [decide_eq_false_iff_not]; rintro rfl; exact h (hx.trans hy.symm)
theorem like_all {xs ys : List Int} {j : Nat} (hn : xs.length = ys.length) (hj : ¬ j < xs.length) (h : xs.take j = ys.take j) : decide (xs = ys) = true := by
  rw [decide_eq_true_eq]; rwa [List.take_of_length_le (by omega), List.take_of_length_le (by omega)] at h
end Go.Proofs.Ytdfgnmdofjhnkaa.W

/- Layer 1, plain: what is got is what was put, and the other way round. -/
namespace Go.Proofs.Ytdfgnmdofjhnkaa.W

theorem mul_lt_pow {m k : Nat} (h : m < 128 ^ (k + 1 + 1)) : m / 128 < 128 ^ (k + 1) := by
  rw [Nat.pow_succ] at h; omega

/-- A number is read as it was put, whatever stands behind. -/
theorem rd_enc (t : List UInt8) : ∀ (k m i n : Nat), i + k ≤ 4 → m < 128 ^ (k + 1) → n + m * 128 ^ i ≤ 2147483647 → (0 < m ∨ i = 0) → rd (encF k m ++ t) i n = .ok (n + m * 128 ^ i) (i + (encF k m).length) := by
  have last : ∀ (m i n : Nat), m < 128 → n + m * 128 ^ i ≤ 2147483647 → (0 < m ∨ i = 0) → rd ([UInt8.ofNat m] ++ t) i n = .ok (n + m * 128 ^ i) (i + 1) := by
    intro m i n hm ht h0
    have e : (UInt8.ofNat m).toNat = m := by simp; omega
    rw [List.singleton_append]
    refine rd_ok (c := UInt8.ofNat m) (x := m) rfl e.symm ?_ ht hm h0
    rw [Nat.mod_eq_of_lt hm]
  intro k
  induction k with
  | zero => intro m i n hi hm ht h0; exact last m i n (by simpa using hm) ht h0
  | succ k ih =>
    intro m i n hi hm ht h0
    by_cases hlt : m < 128
    · rw [encF, if_pos hlt]; exact last m i n hlt ht h0
    · rw [encF, if_neg hlt, List.cons_append]
      have e : (UInt8.ofNat (m % 128 + 128)).toNat = m % 128 + 128 := by simp; omega
      have e2 : m % 128 * 128 ^ i + m / 128 * 128 ^ (i + 1) = m * 128 ^ i := by
        rw [Nat.pow_succ, ← Nat.mul_assoc, Nat.mul_right_comm, ← Nat.add_mul]
        congr 1; omega
      have hle : m % 128 * 128 ^ i ≤ m * 128 ^ i := Nat.mul_le_mul_right _ (by omega)
      rw [rd_more (c := UInt8.ofNat (m % 128 + 128)) (x := m % 128 + 128) (m := n + m % 128 * 128 ^ i) rfl e.symm (by congr 2; omega) (by omega) (by omega) (by omega)]
      rw [ih (m / 128) (i + 1) _ (by omega) (mul_lt_pow hm) (by omega) (.inl (by omega))]
      rw [Nat.add_assoc n, e2]
      simp [List.length_cons]; omega

theorem rd_put (n : Int) (t : List UInt8) : rd (put n ++ t) 0 0 = .ok (cl n) (put n).length := by
  have h := rd_enc t 4 (cl n) 0 0 (by omega) (by have := cl_le n; omega) (by have := cl_le n; omega) (.inr rfl)
  simpa [put] using h

/-- Without some of its last bytes a number ends too early. -/
theorem rd_cut : ∀ (k m i n j : Nat), i + k ≤ 4 → m < 128 ^ (k + 1) → n + m * 128 ^ i ≤ 2147483647 → j < (encF k m).length → rd ((encF k m).take j) i n = .bad 5 := by
  intro k
  induction k with
  | zero => intro m i n j _ _ _ hj; simp [encF] at hj; subst hj; simp [rd]
  | succ k ih =>
    intro m i n j hi hm ht hj
    by_cases hlt : m < 128
    · rw [encF, if_pos hlt] at hj ⊢; simp at hj; subst hj; simp [rd]
    · rw [encF, if_neg hlt] at hj ⊢
      cases j with
      | zero => simp [rd]
      | succ j =>
        have e : (UInt8.ofNat (m % 128 + 128)).toNat = m % 128 + 128 := by simp; omega
        have e2 : m % 128 * 128 ^ i + m / 128 * 128 ^ (i + 1) = m * 128 ^ i := by
          rw [Nat.pow_succ, ← Nat.mul_assoc, Nat.mul_right_comm, ← Nat.add_mul]
          congr 1; omega
        have hle : m % 128 * 128 ^ i ≤ m * 128 ^ i := Nat.mul_le_mul_right _ (by omega)
        rw [List.take_succ_cons]
        rw [rd_more (c := UInt8.ofNat (m % 128 + 128)) (x := m % 128 + 128) (m := n + m % 128 * 128 ^ i) rfl e.symm (by congr 2; omega) (by omega) (by omega) (by omega)]
        exact ih (m / 128) (i + 1) _ j (by omega) (mul_lt_pow hm) (by omega) (by simpa using hj)

theorem rd_put_cut (n : Int) (j : Nat) (h : j < (put n).length) : rd ((put n).take j) 0 0 = .bad 5 :=
  rd_cut 4 (cl n) 0 0 j (by omega) (by have := cl_le n; omega) (by have := cl_le n; omega) h

/-- What is read as a number is just that number's bytes. -/
theorem rd_canon : ∀ (l : List UInt8) (i n m j : Nat), i ≤ 4 → rd l i n = .ok m j → ∃ q, m = n + q * 128 ^ i ∧ l.take (j - i) = encF (4 - i) q ∧ (0 < q ∨ i = 0) := by
  intro l
  induction l with
  | nil => intro i n m j _ h; simp [rd] at h
  | cons c t ih =>
    intro i n m j hi h
    have hc : c.toNat < 256 := c.toNat_lt
    simp only [rd] at h
    split at h
    · rename_i h1
      split at h
      · rename_i h2
        split at h
        · rename_i h3
          injection h with h4 h5
          refine ⟨c.toNat, ?_, ?_, by omega⟩
          · rw [← h4, Nat.mod_eq_of_lt h2]
          · rw [← h5, show i + 1 - i = 1 from by omega]
            have : UInt8.ofNat c.toNat = c := by simp
            cases hk : 4 - i <;> simp [encF, h2]
        · cases h
      · rename_i h2
        have hi' : i + 1 ≤ 4 := by omega
        obtain ⟨q, hq, ht, h0⟩ := ih _ _ _ _ hi' h
        have hp := rd_pos _ _ _ _ _ h
        have h0' : 0 < q := by omega
        have em : (c.toNat % 128 + q * 128) / 128 = q := by omega
        have em2 : (c.toNat % 128 + q * 128) % 128 + 128 = c.toNat := by omega
        refine ⟨c.toNat % 128 + q * 128, ?_, ?_, by omega⟩
        · rw [hq, Nat.pow_succ, Nat.add_mul]
          have : q * 128 * 128 ^ i = q * (128 ^ i * 128) := by rw [Nat.mul_assoc, Nat.mul_comm 128]
          omega
        · obtain ⟨d, hd⟩ : ∃ d, j - i = d + 1 := ⟨j - i - 1, by omega⟩
          obtain ⟨k, hk⟩ : ∃ k, 4 - i = k + 1 := ⟨4 - i - 1, by omega⟩
          rw [hd, List.take_succ_cons, hk, encF, if_neg (by omega), em, em2]
          congr 1
          · simp
          · rw [show d = j - (i + 1) from by omega, ht, show 4 - (i + 1) = k from by omega]
    · cases h

theorem rd_once {l : List UInt8} {m j : Nat} (h : rd l 0 0 = .ok m j) : put m = l.take j := by
  obtain ⟨q, hq, ht, _⟩ := rd_canon l 0 0 m j (by omega) h
  have hp := rd_pos _ _ _ _ _ h
  have : cl (m : Int) = q := by unfold cl; simp at hq; omega
  simp only [put, this]
  simpa using ht.symm

theorem all_put (n : Int) (t : List UInt8) : all (put n ++ t) = (all t).pre [cl n] := by
  rw [all_ok (rd_put n t), List.drop_left]

theorem all_puts (l : List Int) : ∀ t, all (puts l ++ t) = (all t).pre (l.map cl) := by
  induction l with
  | nil => intro t; simp [puts, Alls.pre_nil]
  | cons a l ih =>
    intro t
    have : puts (a :: l) ++ t = put a ++ (puts l ++ t) := by simp [puts]
    rw [this, all_put, ih, Alls.pre_pre]
    simp

theorem all_once : ∀ (k : Nat) (l : List UInt8) (r : List Nat), l.length ≤ k → all l = .ok r → puts (r.map (fun (n : Nat) => (n : Int))) = l := by
  intro k
  induction k with
  | zero =>
    intro l r hl h
    have : l = [] := List.eq_nil_of_length_eq_zero (by omega)
    subst this
    rw [all_nil] at h; injection h with h; subst h; rfl
  | succ k ih =>
    intro l r hl h
    cases hr : rd l 0 0 with
    | bad e =>
      by_cases hn : l = []
      · subst hn; rw [all_nil] at h; injection h with h; subst h; rfl
      · rw [all_bad hn hr] at h; cases h
    | ok n i =>
      have hp := rd_pos _ _ _ _ _ hr
      rw [all_ok hr] at h
      cases hd : all (l.drop i) with
      | bad e => rw [hd] at h; cases h
      | ok r' =>
        rw [hd] at h
        simp only [Alls.pre] at h
        injection h with h
        subst h
        have h2 := ih (l.drop i) r' (by simp; omega) hd
        simp only [List.singleton_append, List.map_cons, puts, List.flatMap_cons]
        rw [rd_once hr]
        have h3 : (List.map (fun (n : Nat) => (n : Int)) r').flatMap put = l.drop i := h2
        rw [h3, List.take_append_drop]

theorem put_inj {a b : Int} (t : List UInt8) (h : put a = put b ++ t) : cl a = cl b := by
  have h1 := rd_put a []
  rw [List.append_nil, h, rd_put b t] at h1
  injection h1 with h1 _
  exact h1.symm

/-- As many bytes as sevens of bits. -/
theorem encF_size : ∀ (k m : Nat), (encF k m).length = 1 + (if m < 128 ∨ k = 0 then 0 else (encF (k - 1) (m / 128)).length) := by
  intro k m
  cases k with
  | zero => simp [encF]
  | succ k => by_cases h : m < 128 <;> simp [encF, h]; omega
theorem encF_mono : ∀ (k m n : Nat), m ≤ n → (encF k m).length ≤ (encF k n).length := by
  intro k
  induction k with
  | zero => intro m n _; simp [encF]
  | succ k ih =>
    intro m n h
    simp only [encF]
    by_cases h1 : m < 128
    · rw [if_pos h1]; have := (encF_len (k + 1) n).2; simp only [encF] at this; simpa using this
    · rw [if_neg h1, if_neg (by omega)]; simp; exact ih _ _ (by omega)
theorem put_mono {a b : Int} (h : a ≤ b) : (put a).length ≤ (put b).length := encF_mono 4 _ _ (by unfold cl; omega)
end Go.Proofs.Ytdfgnmdofjhnkaa.W

/- The plain words of layer 6: a piece, whether it may be, its numbers, the piece of numbers. No program in sight. -/
namespace Go.Proofs.Ytdfgnmdofjhnkaa.Pc

structure Piece where
  node : Int
  state : Int
  steps : Int
  sent : List Int
  inn : List (List (Int × Int))
  out : List (List Int)
  deriving DecidableEq

def zero : Piece := ⟨0, 0, 0, [], [], []⟩

def within (n low high : Int) : Bool := decide (low ≤ n ∧ n ≤ high)
theorem within_yes {n low high : Int} (h : low ≤ n ∧ n ≤ high) : within n low high = true := decide_eq_true h
theorem within_no {n low high : Int} (h : ¬ (low ≤ n ∧ n ≤ high)) : within n low high = false := decide_eq_false h

def rising : Int → List (Int × Int) → Bool
  | _, [] => true
  | last, m :: t => decide (last < m.1 ∧ m.1 ≤ 500 ∧ 0 ≤ m.2 ∧ m.2 ≤ 3) && rising m.1 t

theorem rising_yes {last : Int} {m : Int × Int} {t : List (Int × Int)} (h : last < m.1 ∧ m.1 ≤ 500 ∧ 0 ≤ m.2 ∧ m.2 ≤ 3) : rising last (m :: t) = rising m.1 t := by
  rw [rising, decide_eq_true h, Bool.true_and]
theorem rising_no {last : Int} {m : Int × Int} {t : List (Int × Int)} (h : ¬ (last < m.1 ∧ m.1 ≤ 500 ∧ 0 ≤ m.2 ∧ m.2 ≤ 3)) : rising last (m :: t) = false := by
  rw [rising, decide_eq_false h, Bool.false_and]

def okOut (l : List Int) : Bool := decide (l.length ≤ 500) && l.all (fun n => within n 0 3)

/-- The numbers and lengths. -/
def okHead (p : Piece) : Bool :=
  decide ((0 ≤ p.node ∧ p.node ≤ 5) ∧ (0 ≤ p.state ∧ p.state ≤ 7) ∧ (0 ≤ p.steps ∧ p.steps ≤ 2147483647) ∧ p.sent.length ≤ 5 ∧ p.inn.length ≤ 5 ∧ p.out.length ≤ 5)
def right (p : Piece) : Bool := okHead p && (p.sent.all (fun n => within n 0 500) && (p.inn.all (rising 0) && p.out.all okOut))

/-- The first place where something is so; -1, if there is none. -/
def idx {α : Type} (b : α → Bool) : List α → Int
  | [] => -1
  | x :: t => if b x then 0 else if 0 ≤ idx b t then idx b t + 1 else -1
theorem idx_ge' {α : Type} (b : α → Bool) : ∀ l : List α, -1 ≤ idx b l ∧ (0 ≤ idx b l ↔ l.any b = true) := by
  intro l
  induction l with
  | nil => simp [idx]
  | cons x t ih =>
    have e : idx b (x :: t) = if b x then 0 else if 0 ≤ idx b t then idx b t + 1 else -1 := rfl
    generalize idx b (x :: t) = z at e
    rw [List.any_cons]
    by_cases hb : b x = true
    · rw [if_pos hb] at e; subst e; simp [hb]
    · rw [if_neg hb] at e
      rw [Bool.eq_false_iff.2 hb, Bool.false_or, ← ih.2]
      by_cases h : 0 ≤ idx b t
      · rw [if_pos h] at e; subst e; omega
      · rw [if_neg h] at e; subst e; omega
theorem idx_ge {α : Type} (b : α → Bool) (l : List α) : -1 ≤ idx b l ∧ (decide (0 ≤ idx b l) = l.any b) :=
  ⟨(idx_ge' b l).1, by rw [Bool.eq_iff_iff, decide_eq_true_iff]; exact (idx_ge' b l).2⟩
theorem idx_at {α : Type} {b : α → Bool} : ∀ {l : List α} {j : Nat} {x : α}, (∀ (i : Nat) (y : α), i < j → l[i]? = some y → b y = false) → l[j]? = some x → b x = true → idx b l = (j : Int) := by
  intro l
  induction l with
  | nil => intro j x _ h; simp at h
  | cons y t ih =>
    intro j x hlt hx hb
    cases j with
    | zero =>
      simp only [List.getElem?_cons_zero, Option.some.injEq] at hx
      subst hx
      simp [idx, hb]
    | succ j =>
      have h0 := hlt 0 y (by omega) rfl
      have := ih (j := j) (x := x) (fun i z hi hz => hlt (i + 1) z (by omega) (by simpa using hz)) (by simpa using hx) hb
      simp only [idx, h0, Bool.false_eq_true, if_false, this]
      rw [if_pos (by omega)]
      omega
theorem idx_none {α : Type} {b : α → Bool} : ∀ {l : List α}, (∀ (i : Nat) (y : α), l[i]? = some y → b y = false) → idx b l = -1 := by
  intro l
  induction l with
  | nil => intro _; rfl
  | cons y t ih =>
    intro h
    have h0 := h 0 y rfl
    have := ih (fun i z hz => h (i + 1) z (by simpa using hz))
    simp only [idx, h0, this]
    simp
/-- None of the first j is so. -/
def clear {α : Type} (b : α → Bool) (l : List α) (j : Nat) : Prop := ∀ (i : Nat) (y : α), i < j → l[i]? = some y → b y = false
theorem clear_zero {α : Type} (b : α → Bool) (l : List α) : clear b l 0 := fun _ _ h => absurd h (Nat.not_lt_zero _)
theorem clear_next {α : Type} {b : α → Bool} {l : List α} {j : Nat} {x : α} (h : clear b l j) (hx : l[j]? = some x) (hb : b x = false) : clear b l (j + 1) := by
  intro i y hi hy
  rcases Nat.lt_or_ge i j with hlt | hge
  · exact h i y hlt hy
  · obtain rfl : i = j := by omega
    rw [hx] at hy; injection hy with hy; subst hy; exact hb
theorem clear_all {α : Type} {b : α → Bool} {l : List α} (h : clear b l l.length) : idx b l = -1 :=
  idx_none fun i y hy => h i y (List.getElem?_eq_some_iff.1 hy).1 hy
theorem clear_at {α : Type} {b : α → Bool} {l : List α} {j : Nat} {x : α} (h : clear b l j) (hx : l[j]? = some x) (hb : b x = true) : idx b l = (j : Int) := idx_at h hx hb
theorem clear_any {α : Type} {b : α → Bool} {l : List α} (h : clear b l l.length) : l.any b = false := by
  rw [← (idx_ge b l).2, clear_all h]; rfl
theorem at_any {α : Type} {b : α → Bool} {l : List α} {j : Nat} {x : α} (hx : l[j]? = some x) (hb : b x = true) : l.any b = true :=
  List.any_eq_true.2 ⟨x, List.mem_of_getElem? hx, hb⟩
/-- All of the first j are so. -/
def good {α : Type} (b : α → Bool) (l : List α) (j : Nat) : Prop := ∀ (i : Nat) (y : α), i < j → l[i]? = some y → b y = true
theorem good_zero {α : Type} (b : α → Bool) (l : List α) : good b l 0 := fun _ _ h => absurd h (Nat.not_lt_zero _)
theorem good_next {α : Type} {b : α → Bool} {l : List α} {j : Nat} {x : α} (h : good b l j) (hx : l[j]? = some x) (hb : b x = true) : good b l (j + 1) := by
  intro i y hi hy
  rcases Nat.lt_or_ge i j with hlt | hge
  · exact h i y hlt hy
  · obtain rfl : i = j := by omega
    rw [hx] at hy; injection hy with hy; subst hy; exact hb
theorem good_all {α : Type} {b : α → Bool} {l : List α} (h : good b l l.length) : l.all b = true := by
  rw [List.all_eq_true]
  intro x hx
  obtain ⟨i, hi⟩ := List.mem_iff_getElem?.1 hx
  exact h i x (List.getElem?_eq_some_iff.1 hi).1 hi
theorem bad_all {α : Type} {b : α → Bool} {l : List α} {j : Nat} {x : α} (hx : l[j]? = some x) (hb : b x = false) : l.all b = false := by
  rw [← Bool.not_eq_true, List.all_eq_true]
  intro h
  rw [h x (List.mem_of_getElem? hx)] at hb
  cases hb
theorem drop_at {α : Type} {l : List α} {j : Nat} {x : α} (hx : l[j]? = some x) : l.drop j = x :: l.drop (j + 1) := by
  obtain ⟨h, rfl⟩ := List.getElem?_eq_some_iff.1 hx
  exact List.drop_eq_getElem_cons h
theorem get_at {α : Type} {l : List α} {j : Nat} (h : j < l.length) : ∃ x, l[j]? = some x := ⟨_, List.getElem?_eq_getElem h⟩
theorem all_not {α : Type} (b : α → Bool) (l : List α) : l.any (fun x => !b x) = !l.all b := by
  induction l with
  | nil => rfl
  | cons x t ih => simp [ih]

/-! ### The numbers of a piece. -/
def pairs (x : List (Int × Int)) : List Int := x.flatMap fun m => [m.1, m.2]
def numsIn (ms : List (List (Int × Int))) : List Int := ms.flatMap fun x => (x.length : Int) :: pairs x
def numsOut (os : List (List Int)) : List Int := os.flatMap fun x => (x.length : Int) :: x
def nums (p : Piece) : List Int := ([p.node, p.state, p.steps, (p.sent.length : Int)] ++ p.sent ++ [(p.inn.length : Int)] ++ numsIn p.inn) ++ [(p.out.length : Int)] ++ numsOut p.out
def enc (p : Piece) : List UInt8 := if right p then W.puts (nums p) else []
def err (p : Piece) : Int := if right p then 0 else 4

theorem rising_len : ∀ (x : List (Int × Int)) (last : Int), rising last x = true → last ≤ 500 → (x.length : Int) ≤ 500 - last := by
  intro x
  induction x with
  | nil => intro last _ h; simpa using h
  | cons m t ih =>
    intro last h hl
    simp only [rising, Bool.and_eq_true, decide_eq_true_eq] at h
    have := ih m.1 h.2 h.1.2.1
    simp only [List.length_cons, Int.natCast_add, Int.natCast_one]
    have := h.1.1
    omega
theorem pairs_len (x : List (Int × Int)) : (pairs x).length = 2 * x.length := by
  induction x with
  | nil => rfl
  | cons m t ih => simp only [pairs, List.flatMap_cons, List.length_append, List.length_cons, List.length_nil] at *; omega
theorem numsIn_len : ∀ ms : List (List (Int × Int)), (∀ x ∈ ms, x.length ≤ 500) → (numsIn ms).length ≤ 1001 * ms.length := by
  intro ms
  induction ms with
  | nil => intro _; simp [numsIn]
  | cons x t ih =>
    intro h
    have h1 := h x (by simp)
    have h2 := ih (fun y hy => h y (by simp [hy]))
    have h3 := pairs_len x
    simp only [numsIn, List.flatMap_cons, List.length_append, List.length_cons] at *
    omega
theorem numsOut_len : ∀ os : List (List Int), (∀ x ∈ os, x.length ≤ 500) → (numsOut os).length ≤ 501 * os.length := by
  intro os
  induction os with
  | nil => intro _; simp [numsOut]
  | cons x t ih =>
    intro h
    have h1 := h x (by simp)
    have h2 := ih (fun y hy => h y (by simp [hy]))
    simp only [numsOut, List.flatMap_cons, List.length_append, List.length_cons] at *
    omega
theorem numsIn_snoc (ms : List (List (Int × Int))) (x : List (Int × Int)) : numsIn (ms ++ [x]) = numsIn ms ++ ((x.length : Int) :: pairs x) := by simp [numsIn]
theorem numsOut_snoc (os : List (List Int)) (x : List Int) : numsOut (os ++ [x]) = numsOut os ++ ((x.length : Int) :: x) := by simp [numsOut]
theorem pairs_snoc (x : List (Int × Int)) (m : Int × Int) : pairs (x ++ [m]) = pairs x ++ [m.1, m.2] := by simp [pairs]
theorem take_next {α : Type} {l : List α} {j : Nat} {x : α} (hx : l[j]? = some x) : l.take (j + 1) = l.take j ++ [x] := by
  rw [List.take_add_one, hx]; rfl

/-- Lists that are not too long. -/
def small (p : Piece) : Prop := p.sent.length ≤ 5 ∧ p.inn.length ≤ 5 ∧ p.out.length ≤ 5 ∧ (∀ x ∈ p.inn, x.length ≤ 500) ∧ (∀ x ∈ p.out, x.length ≤ 500)
theorem small_of {p : Piece} (h : right p = true) : small p := by
  simp only [right, Bool.and_eq_true] at h
  obtain ⟨h1, h2, h3, h4⟩ := h
  have h1' := of_decide_eq_true h1
  refine ⟨h1'.2.2.2.1, h1'.2.2.2.2.1, h1'.2.2.2.2.2, fun x hx => ?_, fun x hx => ?_⟩
  · have := rising_len x 0 (List.all_eq_true.1 h3 x hx) (by omega)
    omega
  · have := List.all_eq_true.1 h4 x hx
    simp only [okOut, Bool.and_eq_true, decide_eq_true_eq] at this
    exact this.1
theorem nums_len {p : Piece} (h : small p) : (nums p).length ≤ 8000 := by
  obtain ⟨h1, h2, h3, h4, h5⟩ := h
  have := numsIn_len p.inn h4
  have := numsOut_len p.out h5
  simp only [nums, List.length_append, List.length_cons, List.length_nil]
  omega
end Go.Proofs.Ytdfgnmdofjhnkaa.Pc

/- The piece of numbers: how it is read. No program in sight. -/
namespace Go.Proofs.Ytdfgnmdofjhnkaa.Pc

/-- The next number; 0 behind the end. -/
def nx : List Int → Int × List Int
  | [] => (0, [])
  | n :: t => (n, t)
/-- So many, each by 'one'. -/
def rep {α : Type} (one : List Int → α × List Int) : Nat → List Int → List α × List Int
  | 0, l => ([], l)
  | k + 1, l => ((one l).1 :: (rep one k (one l).2).1, (rep one k (one l).2).2)
/-- How many, at most. -/
def cnt (most : Int) (l : List Int) : Int × List Int := (min (nx l).1 most, (nx l).2)
def rmsg (l : List Int) : (Int × Int) × List Int := (((nx l).1, (nx (nx l).2).1), (nx (nx l).2).2)
def rin (l : List Int) : List (Int × Int) × List Int := rep rmsg (cnt 500 l).1.toNat (cnt 500 l).2
def rout (l : List Int) : List Int × List Int := rep nx (cnt 500 l).1.toNat (cnt 500 l).2
def rsent (l : List Int) : List Int × List Int := rep nx (cnt 5 l).1.toNat (cnt 5 l).2
def rins (l : List Int) : List (List (Int × Int)) × List Int := rep rin (cnt 5 l).1.toNat (cnt 5 l).2
def routs (l : List Int) : List (List Int) × List Int := rep rout (cnt 5 l).1.toNat (cnt 5 l).2
def rd (l0 : List Int) : Piece :=
  let l3 := (nx (nx (nx l0).2).2).2
  ⟨(nx l0).1, (nx (nx l0).2).1, (nx (nx (nx l0).2).2).1, (rsent l3).1, (rins (rsent l3).2).1, (routs (rins (rsent l3).2).2).1⟩

theorem rep_len {α : Type} (one : List Int → α × List Int) : ∀ (k : Nat) (l : List Int), (rep one k l).1.length = k := by
  intro k
  induction k with
  | zero => intro l; rfl
  | succ k ih => intro l; simp [rep, ih]
theorem rep_snoc {α : Type} (one : List Int → α × List Int) : ∀ (k : Nat) (l : List Int), rep one (k + 1) l = ((rep one k l).1 ++ [(one (rep one k l).2).1], (one (rep one k l).2).2) := by
  intro k
  induction k with
  | zero => intro l; rfl
  | succ k ih =>
    intro l
    have h : rep one (k + 1 + 1) l = ((one l).1 :: (rep one (k + 1) (one l).2).1, (rep one (k + 1) (one l).2).2) := rfl
    rw [h, ih]
    rfl
/-- All numbers are such as word.All gives. -/
def Nums (l : List Int) : Prop := ∀ x ∈ l, 0 ≤ x ∧ x ≤ 2147483647
theorem Nums.nx {l : List Int} (h : Nums l) : (0 ≤ (nx l).1 ∧ (nx l).1 ≤ 2147483647) ∧ Nums (Pc.nx l).2 := by
  cases l with
  | nil => exact ⟨by simp [Pc.nx], h⟩
  | cons x t => exact ⟨h x (by simp), fun y hy => h y (by simp [show y ∈ t from hy])⟩
theorem nx_len (l : List Int) : (nx l).2.length ≤ l.length := by cases l <;> simp [nx]

def zs (l : List Nat) : List Int := l.map (fun (n : Nat) => (n : Int))
/-- The piece of bytes; the zero piece, if they are none. -/
def isP (bs : List UInt8) (l : List Nat) : Bool := right (rd (zs l)) && decide (W.puts (nums (rd (zs l))) = bs)
def dec (bs : List UInt8) : Piece :=
  match W.all bs with
  | .bad _ => zero
  | .ok l => if isP bs l then rd (zs l) else zero
def decE (bs : List UInt8) : Int :=
  match W.all bs with
  | .bad _ => 4
  | .ok l => if isP bs l then 0 else 4
theorem dec_bad {bs : List UInt8} {e : Nat} (h : W.all bs = .bad e) : dec bs = zero ∧ decE bs = 4 := by simp [dec, decE, h]
theorem dec_no {bs : List UInt8} {l : List Nat} (h : W.all bs = .ok l) (hp : isP bs l = false) : dec bs = zero ∧ decE bs = 4 := by simp [dec, decE, h, hp]
theorem dec_yes {bs : List UInt8} {l : List Nat} (h : W.all bs = .ok l) (hp : isP bs l = true) : dec bs = rd (zs l) ∧ decE bs = 0 := by simp [dec, decE, h, hp]

theorem rd_err : ∀ (l : List UInt8) (i n e : Nat), W.rd l i n = .bad e → 1 ≤ e := by
  intro l
  induction l with
  | nil => intro i n e h; simp only [W.rd] at h; injection h with h; omega
  | cons c t ih =>
    intro i n e h
    simp only [W.rd] at h
    split at h
    · split at h
      · split at h
        · cases h
        · injection h with h; omega
      · exact ih _ _ _ h
    · injection h with h; omega
theorem all_err : ∀ (k : Nat) (l : List UInt8) (e : Nat), l.length ≤ k → W.all l = .bad e → 1 ≤ e := by
  intro k
  induction k with
  | zero =>
    intro l e hl h
    have : l = [] := List.eq_nil_of_length_eq_zero (by omega)
    subst this; rw [W.all_nil] at h; cases h
  | succ k ih =>
    intro l e hl h
    cases hr : W.rd l 0 0 with
    | bad e' =>
      by_cases hn : l = []
      · subst hn; rw [W.all_nil] at h; cases h
      · rw [W.all_bad hn hr] at h; injection h with h; subst h; exact rd_err _ _ _ _ hr
    | ok n i =>
      have hp := W.rd_pos _ _ _ _ _ hr
      rw [W.all_ok hr] at h
      cases hd : W.all (l.drop i) with
      | bad e' => rw [hd] at h; simp only [W.Alls.pre] at h; injection h with h; subst h; exact ih (l.drop i) _ (by simp; omega) hd
      | ok r' => rw [hd] at h; cases h
end Go.Proofs.Ytdfgnmdofjhnkaa.Pc

/- The piece of a piece's numbers; bytes of pieces. No program in sight. -/
namespace Go.Proofs.Ytdfgnmdofjhnkaa.Pc

theorem rep_nx (r : List Int) : ∀ xs : List Int, rep nx xs.length (xs ++ r) = (xs, r) := by
  intro xs
  induction xs with
  | nil => rfl
  | cons x t ih =>
    have h : rep nx (t.length + 1) (x :: (t ++ r)) = (x :: (rep nx t.length (t ++ r)).1, (rep nx t.length (t ++ r)).2) := rfl
    rw [List.length_cons, List.cons_append, h, ih]
theorem rep_of {α : Type} {one : List Int → α × List Int} {enc : α → List Int} {ok : α → Prop} (h : ∀ x r, ok x → one (enc x ++ r) = (x, r)) (r : List Int) : ∀ xs : List α, (∀ x ∈ xs, ok x) → rep one xs.length (xs.flatMap enc ++ r) = (xs, r) := by
  intro xs
  induction xs with
  | nil => intro _; rfl
  | cons x t ih =>
    intro hok
    have e : (x :: t).flatMap enc ++ r = enc x ++ (t.flatMap enc ++ r) := by simp
    have h2 : ∀ l, rep one (t.length + 1) l = ((one l).1 :: (rep one t.length (one l).2).1, (rep one t.length (one l).2).2) := fun _ => rfl
    rw [e, List.length_cons, h2, h _ _ (hok x (by simp)), ih (fun y hy => hok y (by simp [hy]))]
theorem cnt_len {n : Nat} {most : Int} (h : (n : Int) ≤ most) (t : List Int) : (cnt most ((n : Int) :: t)).1.toNat = n ∧ (cnt most ((n : Int) :: t)).2 = t := by
  simp only [cnt, nx]; exact ⟨by omega, trivial⟩
theorem rmsg_enc (m : Int × Int) (r : List Int) : rmsg ([m.1, m.2] ++ r) = (m, r) := rfl
theorem rin_enc (x : List (Int × Int)) (r : List Int) (h : x.length ≤ 500) : rin (((x.length : Int) :: pairs x) ++ r) = (x, r) := by
  obtain ⟨h1, h2⟩ := cnt_len (n := x.length) (most := 500) (by omega) (pairs x ++ r)
  unfold rin
  rw [List.cons_append, h1, h2]
  exact rep_of (one := rmsg) (ok := fun _ => True) (fun m r _ => rmsg_enc m r) r x (fun _ _ => trivial)
theorem rout_enc (x : List Int) (r : List Int) (h : x.length ≤ 500) : rout (((x.length : Int) :: x) ++ r) = (x, r) := by
  obtain ⟨h1, h2⟩ := cnt_len (n := x.length) (most := 500) (by omega) (x ++ r)
  unfold rout
  rw [List.cons_append, h1, h2]
  exact rep_nx r x
theorem rd_nums {p : Piece} (hs : small p) (r : List Int) : rd (nums p ++ r) = p := by
  obtain ⟨q1, q2, q3, q4, q5⟩ := hs
  obtain ⟨a, b, c, xs, ms, os⟩ := p
  dsimp only at q1 q2 q3 q4 q5
  have e : nums ⟨a, b, c, xs, ms, os⟩ ++ r = a :: b :: c :: (xs.length : Int) :: (xs ++ ((ms.length : Int) :: (numsIn ms ++ ((os.length : Int) :: (numsOut os ++ r))))) := by simp [nums]
  rw [e]
  have s1 : rsent ((xs.length : Int) :: (xs ++ ((ms.length : Int) :: (numsIn ms ++ ((os.length : Int) :: (numsOut os ++ r)))))) = (xs, (ms.length : Int) :: (numsIn ms ++ ((os.length : Int) :: (numsOut os ++ r)))) := by
    obtain ⟨h1, h2⟩ := cnt_len (n := xs.length) (most := 5) (by omega) (xs ++ ((ms.length : Int) :: (numsIn ms ++ ((os.length : Int) :: (numsOut os ++ r)))))
    unfold rsent
    rw [h1, h2]
    exact rep_nx _ xs
  have s2 : rins ((ms.length : Int) :: (numsIn ms ++ ((os.length : Int) :: (numsOut os ++ r)))) = (ms, (os.length : Int) :: (numsOut os ++ r)) := by
    obtain ⟨h1, h2⟩ := cnt_len (n := ms.length) (most := 5) (by omega) (numsIn ms ++ ((os.length : Int) :: (numsOut os ++ r)))
    unfold rins
    rw [h1, h2]
    exact rep_of (one := rin) (ok := fun x => x.length ≤ 500) (fun x r h => rin_enc x r h) _ ms q4
  have s3 : routs ((os.length : Int) :: (numsOut os ++ r)) = (os, r) := by
    obtain ⟨h1, h2⟩ := cnt_len (n := os.length) (most := 5) (by omega) (numsOut os ++ r)
    unfold routs
    rw [h1, h2]
    exact rep_of (one := rout) (ok := fun x => x.length ≤ 500) (fun x r h => rout_enc x r h) _ os q5
  have e3 : ∀ T, rd (a :: b :: c :: T) = ⟨a, b, c, (rsent T).1, (rins (rsent T).2).1, (routs (rins (rsent T).2).2).1⟩ := fun _ => rfl
  rw [e3, s1]
  dsimp only
  rw [s2]
  dsimp only
  rw [s3]

/-- The numbers of a right piece are such as word.Put writes. -/
theorem rising_nums : ∀ (x : List (Int × Int)) (last : Int), 0 ≤ last → rising last x = true → ∀ n ∈ pairs x, 0 ≤ n ∧ n ≤ 2147483647 := by
  intro x
  induction x with
  | nil => intro _ _ _ n hn; simp [pairs] at hn
  | cons m t ih =>
    intro last hl h n hn
    simp only [rising, Bool.and_eq_true, decide_eq_true_eq] at h
    simp only [pairs, List.flatMap_cons, List.mem_append, List.mem_cons, List.not_mem_nil, or_false] at hn
    rcases hn with (rfl | rfl) | hn
    · omega
    · omega
    · exact ih m.1 (by omega) h.2 n hn
theorem right_nums {p : Piece} (h : right p = true) : Nums (nums p) := by
  have hs := small_of h
  simp only [right, Bool.and_eq_true] at h
  obtain ⟨h1, h2, h3, h4⟩ := h
  have h1' := of_decide_eq_true h1
  obtain ⟨q1, q2, q3, q4, q5⟩ := hs
  intro n hn
  simp only [nums, List.mem_append, List.mem_cons, List.not_mem_nil, or_false] at hn
  rcases hn with (((((rfl | rfl | rfl | rfl) | hn) | rfl) | hn) | rfl) | hn
  · omega
  · omega
  · omega
  · omega
  · have := of_decide_eq_true (List.all_eq_true.1 h2 n hn); omega
  · omega
  · simp only [numsIn, List.mem_flatMap, List.mem_cons] at hn
    obtain ⟨x, hx, hn⟩ := hn
    rcases hn with rfl | hn
    · have := q4 x hx; omega
    · exact rising_nums x 0 (by omega) (List.all_eq_true.1 h3 x hx) n hn
  · omega
  · simp only [numsOut, List.mem_flatMap, List.mem_cons] at hn
    obtain ⟨x, hx, hn⟩ := hn
    have h5 := List.all_eq_true.1 h4 x hx
    simp only [okOut, Bool.and_eq_true] at h5
    rcases hn with rfl | hn
    · have := q5 x hx; omega
    · have := of_decide_eq_true (List.all_eq_true.1 h5.2 n hn); omega
theorem zs_cl {l : List Int} (h : Nums l) : zs (l.map W.cl) = l := by
  simp only [zs, List.map_map]
  conv => rhs; rw [← List.map_id l]
  apply List.map_congr_left
  intro n hn
  have := h n hn
  exact W.cl_of n this.1 this.2
theorem all_nums {l : List Int} : W.all (W.puts l) = .ok (l.map W.cl) := by
  have := W.all_puts l []
  rw [List.append_nil] at this
  rw [this, W.all_nil]; simp [W.Alls.pre]
/-- A piece that may be is decoded as it was encoded. -/
theorem dec_enc {p : Piece} (h : right p = true) : dec (W.puts (nums p)) = p ∧ decE (W.puts (nums p)) = 0 := by
  have e := rd_nums (small_of h) []
  rw [List.append_nil] at e
  have hz := zs_cl (right_nums h)
  have hp : isP (W.puts (nums p)) ((nums p).map W.cl) = true := by
    unfold isP; rw [hz, e, h]; simp
  have := dec_yes all_nums hp
  rw [hz, e] at this
  exact this
theorem decE_01 (bs : List UInt8) : decE bs = 0 ∨ decE bs = 4 := by
  unfold decE
  split
  · exact .inr rfl
  · split
    · exact .inl rfl
    · exact .inr rfl
/-- What is decoded is right, and its bytes are those. -/
theorem dec_right {bs : List UInt8} (h : decE bs = 0) : right (dec bs) = true ∧ W.puts (nums (dec bs)) = bs := by
  cases hl : W.all bs with
  | bad e => rw [(dec_bad hl).2] at h; cases h
  | ok l =>
    cases hp : isP bs l with
    | false => rw [(dec_no hl hp).2] at h; cases h
    | true =>
      rw [(dec_yes hl hp).1]
      unfold isP at hp
      simpa using hp
theorem dec_zero {bs : List UInt8} (h : decE bs ≠ 0) : dec bs = zero ∧ decE bs = 4 := by
  cases hl : W.all bs with
  | bad e => exact dec_bad hl
  | ok l =>
    cases hp : isP bs l with
    | false => exact dec_no hl hp
    | true => exact absurd (dec_yes hl hp).2 h
/-- Unlike pieces have unlike bytes, and none's begin the other one's. -/
theorem puts_apart {p q : Piece} (hp : right p = true) (hq : right q = true) {r : List UInt8} (h : W.puts (nums p) ++ r = W.puts (nums q)) : p = q ∧ r = [] := by
  have h1 := W.all_puts (nums p) r
  rw [h, all_nums] at h1
  cases hr : W.all r with
  | bad e => rw [hr] at h1; simp [W.Alls.pre] at h1
  | ok l =>
    rw [hr] at h1
    simp only [W.Alls.pre] at h1
    injection h1 with h1
    have h2 := congrArg zs h1
    rw [zs_cl (right_nums hq)] at h2
    have h3 : zs ((nums p).map W.cl ++ l) = nums p ++ zs l := by
      have := zs_cl (right_nums hp)
      simp only [zs, List.map_append] at this ⊢
      rw [this]
    rw [h3] at h2
    have e1 := rd_nums (small_of hp) (zs l)
    have e2 := rd_nums (small_of hq) []
    rw [List.append_nil] at e2
    rw [h2, e1] at e2
    subst e2
    refine ⟨rfl, ?_⟩
    have := congrArg List.length h
    rw [List.length_append] at this
    exact List.eq_nil_of_length_eq_zero (by omega)
theorem puts_inj {p q : Piece} (hp : right p = true) (hq : right q = true) : (W.puts (nums p) = W.puts (nums q)) ↔ p = q :=
  ⟨fun h => (puts_apart hp hq (r := []) (by simpa using h)).1, fun h => by rw [h]⟩
/-- Bytes of a piece without the last ones are none. -/
theorem decE_take {p : Piece} (hp : right p = true) {k : Nat} (hk : k < (W.puts (nums p)).length) : decE ((W.puts (nums p)).take k) = 4 := by
  rcases decE_01 ((W.puts (nums p)).take k) with h | h
  · exfalso
    obtain ⟨h1, h2⟩ := dec_right h
    have := (puts_apart h1 hp (r := (W.puts (nums p)).drop k) (by rw [h2, List.take_append_drop])).2
    have := congrArg List.length this
    simp at this
    omega
  · exact h
theorem decE_more {p : Piece} (hp : right p = true) (c : UInt8) : decE (W.puts (nums p) ++ [c]) = 4 := by
  rcases decE_01 (W.puts (nums p) ++ [c]) with h | h
  · exfalso
    obtain ⟨h1, h2⟩ := dec_right h
    have := (puts_apart hp h1 (r := [c]) h2.symm).2
    simp at this
  · exact h
theorem nums_pos (p : Piece) : 6 ≤ (nums p).length := by simp [nums]; omega
theorem puts_pos (p : Piece) : 0 < (W.puts (nums p)).length := by
  have : nums p = p.node :: (nums p).tail := rfl
  rw [this]
  have h := (W.put_len p.node).2
  simp only [W.puts, List.flatMap_cons, List.length_append]
  omega
end Go.Proofs.Ytdfgnmdofjhnkaa.Pc

/- Frames, in plain Lean. Nothing of the program. -/
namespace Go.Proofs.Ytdfgnmdofjhnkaa
/-- A frame. -/
structure Fr where
  kind : Int
  epoch : Int
  seq : Int
  letter : Int
  pieces : List Pc.Piece
  init : Int
  num : Int
  count : Int
  path : List Int
deriving DecidableEq
namespace Fr
def zero : Fr := ⟨0, 0, 0, 0, [], 0, 0, 0, []⟩
/-- Just what the kind names. -/
def only (f : Fr) : Fr :=
  if f.kind = 0 then ⟨0, f.epoch, f.seq, f.letter, [], 0, 0, 0, []⟩ else
  if f.kind = 5 then ⟨5, f.epoch, 0, 0, f.pieces, 0, 0, 0, []⟩ else
  if f.kind = 6 then ⟨6, 0, 0, 0, [], f.init, f.num, f.count, f.path⟩ else ⟨f.kind, f.epoch, 0, 0, [], 0, 0, 0, []⟩
def node (n : Int) : Bool := Pc.within n 0 5
/-- May a probe's numbers be? -/
def probe (f : Fr) : Bool := Pc.within f.init 0 5 && (Pc.within f.num 1 200 && (Pc.within f.count 0 500 && (Pc.within f.path.length 1 6 && f.path.all node)))
def control (f : Fr) : Bool := Pc.within f.epoch 1 200
def app (f : Fr) : Bool := Pc.within f.epoch 0 200 && (Pc.within f.seq 1 500 && Pc.within f.letter 0 3)
def report (f : Fr) : Bool := control f && (Pc.within f.pieces.length 1 6 && f.pieces.all Pc.right)
def rule (f : Fr) : Bool := if f.kind = 0 then app f else if f.kind = 5 then report f else if f.kind = 6 then probe f else control f
/-- May it be? -/
def right (f : Fr) : Bool := Pc.within f.kind 0 6 && (decide (f = only f) && rule f)
/-- The pieces' bytes. -/
def texts (l : List Pc.Piece) : List UInt8 := l.flatMap fun p => W.text (Pc.enc p)
/-- The bytes of a frame that may be. -/
def body (f : Fr) : List UInt8 :=
  if f.kind = 0 then W.puts [f.kind, f.epoch, f.seq, f.letter] else
  if f.kind = 5 then W.puts [f.kind, f.epoch, (f.pieces.length : Int)] ++ texts f.pieces else
  if f.kind = 6 then W.puts ([f.kind, f.init, f.num, f.count, (f.path.length : Int)] ++ f.path) else W.puts [f.kind, f.epoch]
def enc (f : Fr) : List UInt8 := if right f then body f else []
def err (f : Fr) : Int := if right f then 0 else 4
theorem texts_snoc (l : List Pc.Piece) (p : Pc.Piece) : texts (l ++ [p]) = texts l ++ W.text (Pc.enc p) := by simp [texts]

theorem same_no {a b : Fr} (h : ¬ (a.kind = b.kind ∧ a.epoch = b.epoch ∧ a.seq = b.seq ∧ a.letter = b.letter ∧ a.pieces = b.pieces ∧ a.init = b.init ∧ a.num = b.num ∧ a.count = b.count ∧ a.path = b.path)) : decide (a = b) = false := by
  apply decide_eq_false
  rintro rfl
  exact h ⟨rfl, rfl, rfl, rfl, rfl, rfl, rfl, rfl, rfl⟩

/-! ### what a frame that may be is -/
theorem right_kind {f : Fr} (h : right f = true) : 0 ≤ f.kind ∧ f.kind ≤ 6 := by
  unfold right at h
  simp only [Bool.and_eq_true, decide_eq_true_eq] at h
  exact of_decide_eq_true h.1
theorem right_only {f : Fr} (h : right f = true) : f = only f := by
  unfold right at h
  simp only [Bool.and_eq_true, decide_eq_true_eq] at h
  exact h.2.1
theorem right_rule {f : Fr} (h : right f = true) : rule f = true := by
  unfold right at h
  simp only [Bool.and_eq_true, decide_eq_true_eq] at h
  exact h.2.2

/-! ### bytes that are read again -/
theorem enc_le {p : Pc.Piece} (h : Pc.right p = true) : (Pc.enc p).length ≤ 40000 := by
  unfold Pc.enc
  rw [if_pos h]
  have := W.puts_len (Pc.nums p)
  have := Pc.nums_len (Pc.small_of h)
  omega
theorem take_text (t r : List UInt8) (top : Int) (h : (t.length : Int) ≤ top) (h2 : t.length ≤ 1000000) : W.take (W.text t ++ r) top = .ok t (W.text t).length := by
  have e : W.text t ++ r = W.put t.length ++ (t ++ r) := by simp [W.text]
  have hc : W.cl (t.length : Int) = t.length := by have := W.cl_of (t.length : Int) (by omega) (by omega); omega
  have hr := W.rd_put (t.length : Int) (t ++ r)
  rw [hc] at hr
  rw [e, W.take_ok hr (by omega) (by simp)]
  have : (W.put (t.length : Int) ++ (t ++ r)).drop (W.put (t.length : Int)).length = t ++ r := List.drop_left
  rw [this, List.take_left]
  simp [W.text]
end Fr
end Go.Proofs.Ytdfgnmdofjhnkaa

/- Helpers that know nothing of the program: an append of one element made on the spot; bytes to a string; rows. -/
namespace Go.Proofs.Ytdfgnmdofjhnkaa
open Go.RowKit

theorem below_of_grown {base : Nat} {w w' : World} {v : Value} {e : TypeId} {size n : Nat} {xs : List Value} (hown : w.ownsRow base e size v n xs) (hg : w.grownBy w' v.ownBlock) (hb : base ≤ w.heap.size) : Below base w w' :=
  (Below.refl _ _).grown hg hb (fun k hk => (hown.lt k hk).1)

/-- 'append(s, x)', x one cell, s a row of the call's own. -/
theorem wpList_append1 {P : Program} {w : World} {ops : Array Oper} {rest : List Oper} {o : Oper} {a : Act} {Q : Exit → Act → World → Prop} (hgd : o.guard = none) (s x : Operand) (t : TypeId)
    (ho : o.op = .call { callee := .builtin .append, args := #[s, x], argTypes := #[t, t] })
    (base : Nat) (e : TypeId) {z : Value} {bytes : Nat} (hinfo : (P.info? e).map (fun i => (i.zero, i.size, i.bytes)) = some (some z, 1, bytes)) (ht : P.underlying t = some (.slice e)) (hzs : z.cells.size = 1)
    (v : Value) (n : Nat) (xs : List Value) (hs : a.eval s = v) (hown : w.ownsRow base e 1 v n xs)
    (u : Value) (hx : a.eval x = .slice (some ⟨w.heap.size, 0, none⟩) 1 1) (h1 : u.oneCell' = true)
    (hbytes : (n + 1) * bytes ≤ 140737488355328) (h63 : n + 1 ≤ 9223372036854775807) (hbase : base ≤ w.heap.size)
    (h : ∀ v' w', w'.ownsRow base e 1 v' (n + 1) (xs ++ [u]) → w.grownBy w' v.ownBlock → Below base w w' → wpList P ops Q rest (a.put o.dst v') w') :
    wpList P ops Q (o :: rest) a (w.alloc (.cells #[u] e)) := by
  obtain ⟨i0, hi0, hz0, hz1, hz2⟩ := info_parts hinfo
  have hcell : ∀ j u', [u][j]? = some u' → (w.alloc (.cells #[u] e)).cell? ((⟨w.heap.size, 0, none⟩ : Addr).add j) = some u' := by
    intro j u' hu
    cases j with
    | zero => simp only [List.getElem?_cons_zero, Option.some.injEq] at hu; subst hu; simp [Addr.add, World.cell?_alloc_new]
    | succ j => simp at hu
  have hown' : (w.alloc (.cells #[u] e)).ownsRow base e 1 v n xs := hown.alloc _
  refine wpList_append_own _ hgd s x t ho base e i0 z 1 bytes ht hi0 hz0 hz1 hz2 hzs (by omega) v n xs hs hown' _ 1 1 [u] hx rfl hcell (by simpa using h1) (by unfold maxLen; omega) hbytes (by simp; omega) ?_
  intro v' w' ho' hg' _
  have hg2 : w.grownBy w' v.ownBlock := by
    have h0 := World.grownBy_alloc w (.cells #[u] e) v.ownBlock
    exact ⟨hg'.os.trans h0.os, hg'.tape.trans h0.tape, hg'.output.trans h0.output, Nat.le_trans h0.size hg'.size, fun k hk hne => (hg'.block k (by simp; omega) hne).trans (h0.block k hk hne)⟩
  exact h v' w' ho' hg2 (below_of_grown hown hg2 hbase)

def u8s (l : List UInt8) : List Value := l.map fun c => .int .u8 c.toNat
theorem u8s_snoc (l : List UInt8) (c : UInt8) : u8s l ++ [.int .u8 c.toNat] = u8s (l ++ [c]) := by simp [u8s]
@[simp] theorem u8s_length (l : List UInt8) : (u8s l).length = l.length := by simp [u8s]

/-- 'string(b)', b a row of bytes of the call's own. -/
theorem run_bytes_own {P : Program} {w : World} (src dst e : TypeId) (hs : P.underlying src = some (.slice e)) (he : P.underlying e = some (.int .u8)) (hd : P.underlying dst = some .string)
    (base : Nat) (v : Value) (l : List UInt8) (hown : w.ownsRow base e 1 v l.length (u8s l)) (hl : 0 < l.length) :
    (convert src dst v).run P w = .ok (.string ⟨l.toArray⟩) w := by
  rcases hown.2 with ⟨_, h0⟩ | ⟨g, cap, cur, rfl, _, hh, hnc, _, hsz, htake⟩
  · omega
  · rw [run_convert_bytes_string w src dst e _ _ _ hs he hd]
    have hload : (loadCells ⟨g, 0, none⟩ l.length).run P w = .ok ((l.map fun c => (c.toNat : Int)).map (Value.int .u8)).toArray w := by
      have e1 : (l.map fun c => (c.toNat : Int)).map (Value.int .u8) = u8s l := by simp [u8s]
      rw [e1]
      have h2 := run_loadCells_list (P := P) (w := w) ⟨g, 0, none⟩ (u8s l) (fun j v hj => hown.cells (g := g) rfl j v hj)
      simpa using h2
    rw [run_bytesToString w _ _ _ _ hload]
    have key : ∀ (l : List UInt8) (s : ByteArray), ((l.map fun c => (c.toNat : Int)).foldl (fun r n => r.push (UInt8.ofNat n.toNat)) s) = ⟨s.data ++ l.toArray⟩ := by
      intro l
      induction l with
      | nil => intro s; simp
      | cons c l ih =>
        intro s
        simp only [List.map_cons, List.foldl_cons]
        rw [ih]
        congr 1
        cases s with
        | mk d => simp [ByteArray.push]
    rw [key]
    simp [ByteArray.empty, ByteArray.emptyWithCapacity]
    rfl

theorem own_below {w w' : World} {base : Nat} {e : TypeId} {size : Nat} {v : Value} {n : Nat} {xs : List Value} (h : w.ownsRow base e size v n xs) (hb : Below w.heap.size w w') : w'.ownsRow base e size v n xs := by
  refine ⟨h.1, ?_⟩
  rcases h.2 with h2 | ⟨g, cap, cur, hv, hg, hh, r⟩
  · exact .inl h2
  · have hlt : g < w.heap.size := by
      rcases Nat.lt_or_ge g w.heap.size with h' | h'
      · exact h'
      · simp [Array.getElem?_eq_none h'] at hh
    exact .inr ⟨g, cap, cur, hv, hg, (hb.block g hlt).trans hh, r⟩

theorem own_base {w : World} {base base' : Nat} {e : TypeId} {size : Nat} {v : Value} {n : Nat} {xs : List Value} (h : w.ownsRow base e size v n xs) (hb : base' ≤ base) : w.ownsRow base' e size v n xs := by
  refine ⟨h.1, ?_⟩
  rcases h.2 with h2 | ⟨g, cap, cur, hv, hg, r⟩
  · exact .inl h2
  · exact .inr ⟨g, cap, cur, hv, by omega, r⟩

theorem own_setCell {w : World} {base : Nat} {e : TypeId} {size : Nat} {v : Value} {n : Nat} {xs : List Value} (h : w.ownsRow base e size v n xs) {p : Addr} (hp : p.block < base) (u : Value) : (w.setCell p u).ownsRow base e size v n xs :=
  ownsRow_setCell_below h hp u
end Go.Proofs.Ytdfgnmdofjhnkaa

/- The smallest contracts of the seat: must, Cut. -/
namespace Go.Proofs.Ytdfgnmdofjhnkaa
open Go.RowKit

theorem ret_int {k : IntKind} {a b : Int} (h : a = b) : Ending.returned (.int k a) = .returned (.int k b) := by rw [h]

theorem must_yes (e : Int) (w : World) : Calls Try.prog 102 #[.bool true, .int .i64 e] w fun x w' => x = .returned (.tuple #[]) ∧ w = w' := by
  go_enter Try.func102, Try.ntmps102
  go_wp2
  go_end0
  exact ⟨rfl, rfl⟩

theorem must_no (e : Int) (w : World) : Calls Try.prog 102 #[.bool false, .int .i64 e] w fun x w' => x = .panicked [{ v := .iface 128 (.agg #[.int .i64 e]), recovered := false }] ∧ w = w' := by
  go_enter Try.func102, Try.ntmps102
  go_wp2
  exact ⟨rfl, rfl, rfl⟩

theorem must_so (b : Bool) (hb : b = true) (e : Int) (w : World) : Calls Try.prog 102 #[.bool b, .int .i64 e] w fun x w' => x = .returned (.tuple #[]) ∧ w = w' := by subst hb; exact must_yes e w
theorem must_not (b : Bool) (hb : b = false) (e : Int) (w : World) : Calls Try.prog 102 #[.bool b, .int .i64 e] w fun x w' => x = .panicked [{ v := .iface 128 (.agg #[.int .i64 e]), recovered := false }] ∧ w = w' := by subst hb; exact must_no e w

theorem cut_any (n : Int) (w : World) : Calls Try.prog 96 #[.int .i64 n] w fun x w' => x = .returned (.int .i64 (max 0 (min n 2147483647))) ∧ w = w' := by
  go_enter Try.func96, Try.ntmps96
  go_wp2
  all_goals go_ret
  all_goals (refine ⟨ret_int ?_, rfl⟩; (try split at *) <;> omega)
end Go.Proofs.Ytdfgnmdofjhnkaa

/- word.Put -/
namespace Go.Proofs.Ytdfgnmdofjhnkaa
open Go.RowKit

theorem Try.infoU8 : (Try.prog.info? 5).map (fun i => (i.zero, i.size, i.bytes)) = some (some (.int .u8 0), 1, 1) := by kernel_rfl

/-- The relation of Put's loop. -/
def PutRel (n : Int) (w : World) (v b : Value) (wr : World) : Prop :=
  ∃ (m k : Nat) (l : List UInt8), v = .int .i64 m ∧ wr.ownsRow w.heap.size 5 1 b l.length (u8s l) ∧ m < 128 ^ (k + 1) ∧ m ≤ 2147483647 ∧ l.length + k ≤ 4 ∧ l ++ W.encF k m = W.put n ∧ Below w.heap.size w wr

theorem put_last {base : Nat} {v : Value} (w1 : World) (l : List UInt8) (m : Nat) (hlt : m < 128) (h : w1.ownsRow base 5 1 v (l.length + 1) (u8s l ++ [.int .u8 (m : Int)])) :
    (convert 53 9 v).run Try.prog w1 = .ok (.string ⟨(l ++ [UInt8.ofNat m]).toArray⟩) w1 := by
  have e : u8s l ++ [.int .u8 (m : Int)] = u8s (l ++ [UInt8.ofNat m]) := by
    rw [← u8s_snoc]; congr 4
    have : (UInt8.ofNat m).toNat = m := by simp; omega
    omega
  refine run_bytes_own _ _ _ Try.underlying53 Try.underlying5 Try.underlying9 base v (l ++ [UInt8.ofNat m]) ?_ (by simp)
  rw [← e]; simpa using h

theorem put_start (n : Int) (w : World) : PutRel n w (.int .i64 (min (max n 0) 2147483647)) (.slice none 0 0) w :=
  ⟨W.cl n, 4, [], by congr 1; unfold W.cl; omega, World.ownsRow_nil _ _ _ _, by have := W.cl_le n; omega, W.cl_le n, by simp, rfl, Below.refl _ _⟩

theorem bits_or_128 (m : Nat) : bits .or .u8 ((m : Int) % 128) 128 = ((m % 128 + 128 : Nat) : Int) := by
  have h1 : ((m : Int) % 128) = ((m % 128 : Nat) : Int) := by omega
  rw [h1, show (128 : Int) = ((128 : Nat) : Int) from rfl, u8_or_nat _ _ (by omega) (by omega)]
  have : ∀ x : Fin 128, x.val ||| 128 = x.val + 128 := by decide
  have := this ⟨m % 128, by omega⟩
  simp only at this
  rw [this]

theorem put_round {n : Int} {w w1 : World} {v : Value} {l : List UInt8} {m k : Nat} (hlt : ¬ m < 128) (hown : w1.ownsRow w.heap.size 5 1 v (l.length + 1) (u8s l ++ [.int .u8 (bits .or .u8 ((m : Int) % 128) 128)]))
    (hm' : m ≤ 2147483647) (hm : m < 128 ^ (k + 1)) (hk : l.length + k ≤ 4) (hl : l ++ W.encF k m = W.put n) (hb : Below w.heap.size w w1) : PutRel n w (.int .i64 ((m : Int) / 128)) v w1 := by
  cases k with
  | zero => omega
  | succ k =>
    refine ⟨m / 128, k, l ++ [UInt8.ofNat (m % 128 + 128)], by congr 1, ?_, ?_, by omega, by simp; omega, ?_, hb⟩
    · rw [← u8s_snoc]
      have e : ((UInt8.ofNat (m % 128 + 128)).toNat : Int) = bits .or .u8 ((m : Int) % 128) 128 := by
        rw [bits_or_128]; simp; omega
      rw [e]; simpa using hown
    · rw [Nat.pow_succ] at hm; omega
    · rw [← hl, W.encF, if_neg hlt]; simp

set_option maxRecDepth 100000 in
set_option maxHeartbeats 400000 in
theorem put_any (n : Int) (w : World) : Calls Try.prog 89 #[.int .i64 n] w fun x w' => x = .returned (.string ⟨(W.put n).toArray⟩) ∧ Below w.heap.size w w' := by
  go_enter Try.func89, Try.ntmps89
  go_wp2_with fail
  go_loopw [0, 3] (fun v b wr => PutRel n w v b wr) (fun v _ _ => (intOf v).toNat)
  case atStart => exact put_start n w
  case round =>
    obtain ⟨m, k, l, rfl, hown, hm, hm', hk, hl, hb⟩ := hrel
    have HL := Lib.hid hl; clear hl
    have HM := Lib.hid hm; clear hm
    by_cases hlt : m < 128
    · go_wp2_with (at_builtin; refine wpList_append1 rfl _ _ 53 rfl w.heap.size 5 Try.infoU8 Try.underlying53 rfl _ _ _ rfl hown (.int .u8 (m : Int)) rfl rfl (by omega) (by omega) hb.size ?_; intro v1 w1 hown1 hg1 hb1; have hcv := put_last w1 l m hlt hown1; clear hown1)
      go_ret
      exact ⟨by rw [← W.put_end n l m k hlt HL.out]; rfl, hb.trans hb1⟩
    · go_wp2_with (at_builtin; refine wpList_append1 rfl _ _ 53 rfl w.heap.size 5 Try.infoU8 Try.underlying53 rfl _ _ _ rfl hown _ rfl rfl (by omega) (by omega) hb.size ?_; intro v1 w1 hown1 hg1 hb1)
      go_roundw
      case rel => exact put_round hlt hown1 hm' HM.out hk HL.out (hb.trans hb1)
      case measure => simp [intOf]; omega
end Go.Proofs.Ytdfgnmdofjhnkaa
