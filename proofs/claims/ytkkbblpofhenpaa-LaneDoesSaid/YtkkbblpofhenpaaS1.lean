/- Lemmas, walks and contracts that the statements of this seat are proved by. -/
import Derived.WalkKit
import Derived.WalkLawsBesides
import Derived.WalkSpells
import Derived.Lib.Hide
import Derived.Lib.MinMax
import Derived.Outline
import Derived.Deep.LoopGhost
import Derived.Deep.DeepFit
import Derived.BigQuiet
import Derived.Deep.QuietTactic
import Derived.Test.YtkkbblpofhenpaaProg
import Derived.Laws.BitsAllLaws
import Derived.Recover
import Derived.Laws.Pointers
import Derived.Laws.ResultCell
import Derived.Maps.AppendAt
import Derived.Deep.AppendLies
/- The plain words of layer 1: a number's bytes, reading them, many, texts. No program in sight. -/
namespace Go.Proofs.Ytkkbblpofhenpaa.W

def top : Nat := 2147483647
/-- A number, as it counts. -/
def cl (n : Int) : Nat := (max 0 (min n 2147483647)).toNat
/-- The bytes of a number, with fuel. -/
def encF : Nat → Nat → List UInt8
  | 0, n => [UInt8.ofNat n]
  | k + 1, n => if n < 128 then [UInt8.ofNat n] else UInt8.ofNat (n % 128 + 128) :: encF k (n / 128)
def put (n : Int) : List UInt8 := encF 4 (cl n)

/-- What reading ends with: an error's number, or the number and how many bytes it has. -/
inductive Got where
  | bad (e : Nat)
  | ok (n i : Nat)
  deriving DecidableEq

/-- Reading, byte by byte: 'i' bytes are read, and make 'n'. -/
def rd : List UInt8 → Nat → Nat → Got
  | [], _, _ => .bad 5
  | c :: t, i, n =>
    let m := n + c.toNat % 128 * 128 ^ i
    if m ≤ 2147483647 ∧ (c.toNat < 128 ∨ i + 1 < 5) then
      if c.toNat < 128 then (if 0 < c.toNat ∨ i + 1 = 1 then .ok m (i + 1) else .bad 4)
      else rd t (i + 1) m
    else .bad 2

section
variable {l t : List UInt8} {c : UInt8} {i n x m : Nat}
theorem rd_big (hl : l = c :: t) (hx : x = c.toNat) (hm : m = n + x % 128 * 128 ^ i) (h : ¬ (m ≤ 2147483647 ∧ (x < 128 ∨ i + 1 < 5))) : rd l i n = .bad 2 := by
  subst hl; subst hx; subst hm; simp only [rd]; rw [if_neg h]
theorem rd_ok (hl : l = c :: t) (hx : x = c.toNat) (hm : m = n + x % 128 * 128 ^ i) (h1 : m ≤ 2147483647) (h2 : x < 128) (h3 : 0 < x ∨ i = 0) : rd l i n = .ok m (i + 1) := by
  subst hl; subst hx; subst hm; simp only [rd]; rw [if_pos ⟨h1, .inl h2⟩, if_pos h2, if_pos (by omega)]
theorem rd_form (hl : l = c :: t) (hx : x = c.toNat) (hm : m = n + x % 128 * 128 ^ i) (h1 : m ≤ 2147483647) (h2 : x < 128) (h3 : ¬ (0 < x ∨ i = 0)) : rd l i n = .bad 4 := by
  subst hl; subst hx; subst hm; simp only [rd]; rw [if_pos ⟨h1, .inl h2⟩, if_pos h2, if_neg (by omega)]
theorem rd_more (hl : l = c :: t) (hx : x = c.toNat) (hm : m = n + x % 128 * 128 ^ i) (h1 : m ≤ 2147483647) (h2 : ¬ x < 128) (h3 : i + 1 < 5) : rd l i n = rd t (i + 1) m := by
  subst hl; subst hx; subst hm; simp only [rd]; rw [if_pos ⟨h1, .inr h3⟩, if_neg h2]
end

/-- What reading many ends with. -/
inductive Alls where
  | bad (e : Nat)
  | ok (l : List Nat)
  deriving DecidableEq

def Alls.pre (acc : List Nat) : Alls → Alls
  | .bad e => .bad e
  | .ok l => .ok (acc ++ l)

def allF : Nat → List UInt8 → Alls
  | _, [] => .ok []
  | 0, _ :: _ => .ok []
  | k + 1, c :: t =>
    match rd (c :: t) 0 0 with
    | .bad e => .bad e
    | .ok n i => (allF k ((c :: t).drop i)).pre [n]
def all (l : List UInt8) : Alls := allF l.length l

theorem Alls.pre_pre (a b : List Nat) (r : Alls) : (r.pre b).pre a = r.pre (a ++ b) := by cases r <;> simp [Alls.pre]
theorem Alls.pre_nil (r : Alls) : r.pre [] = r := by cases r <;> simp [Alls.pre]

theorem rd_pos : ∀ (l : List UInt8) (i n m j : Nat), rd l i n = .ok m j → i < j ∧ j ≤ i + l.length ∧ m ≤ 2147483647 := by
  intro l
  induction l with
  | nil => intro i n m j h; simp [rd] at h
  | cons c t ih =>
    intro i n m j h
    simp only [rd] at h
    split at h
    · split at h
      · split at h
        · injection h with h1 h2; simp; omega
        · cases h
      · have := ih _ _ _ _ h; simp; omega
    · cases h

theorem allF_more : ∀ (k : Nat) (l : List UInt8), l.length ≤ k → allF k l = all l := by
  have key : ∀ (n k : Nat) (l : List UInt8), l.length ≤ n → l.length ≤ k → allF k l = allF n l := by
    intro n
    induction n with
    | zero => intro k l h _; have : l = [] := List.eq_nil_of_length_eq_zero (by omega); subst this; cases k <;> simp [allF]
    | succ n ih =>
      intro k l h hk
      cases l with
      | nil => cases k <;> simp [allF]
      | cons c t =>
        cases k with
        | zero => simp at hk
        | succ k =>
          simp only [allF]
          cases hr : rd (c :: t) 0 0 with
          | bad e => rfl
          | ok m i =>
            have := rd_pos _ _ _ _ _ hr
            simp only []
            rw [ih k ((c :: t).drop i) (by simp at *; omega) (by simp at *; omega)]
  intro k l h
  exact key _ k l (Nat.le_refl _) h

theorem all_nil : all [] = .ok [] := rfl
theorem all_bad {l : List UInt8} {e : Nat} (hl : l ≠ []) (h : rd l 0 0 = .bad e) : all l = .bad e := by
  cases l with
  | nil => exact absurd rfl hl
  | cons c t => simp [all, allF, h]
theorem all_ok {l : List UInt8} {n i : Nat} (h : rd l 0 0 = .ok n i) : all l = (all (l.drop i)).pre [n] := by
  cases l with
  | nil => simp [rd] at h
  | cons c t =>
    have hp := rd_pos _ _ _ _ _ h
    have : all (c :: t) = (allF t.length ((c :: t).drop i)).pre [n] := by simp [all, allF, h]
    rw [this, allF_more _ _ (by simp at *; omega)]

/-- What taking a text ends with: an error's number, or the bytes, and how many bytes that took. -/
inductive Took where
  | bad (e : Nat)
  | ok (t : List UInt8) (j : Nat)
  deriving DecidableEq

def take (l : List UInt8) (top : Int) : Took :=
  match rd l 0 0 with
  | .bad e => .bad e
  | .ok n i => if (n : Int) ≤ max top 0 then (if n ≤ l.length - i then .ok ((l.drop i).take n) (i + n) else .bad 5) else .bad 2

end Go.Proofs.Ytkkbblpofhenpaa.W

/- Layer 1, plain: many numbers, texts, lengths. -/
namespace Go.Proofs.Ytkkbblpofhenpaa.W

def puts (l : List Int) : List UInt8 := l.flatMap put
def text (s : List UInt8) : List UInt8 := put s.length ++ s

end Go.Proofs.Ytkkbblpofhenpaa.W

/- The plain words of layer 6: a piece, whether it may be, its numbers, the piece of numbers. No program in sight. -/
namespace Go.Proofs.Ytkkbblpofhenpaa.Pc

structure Piece where
  node : Int
  state : Int
  steps : Int
  sent : List Int
  inn : List (List (Int × Int))
  out : List (List Int)
  deriving DecidableEq

def zero : Piece := ⟨0, 0, 0, [], [], []⟩

def within (n low high : Int) : Bool := decide (low ≤ n ∧ n ≤ high)
theorem within_yes {n low high : Int} (h : low ≤ n ∧ n ≤ high) : within n low high = true := decide_eq_true h
theorem within_no {n low high : Int} (h : ¬ (low ≤ n ∧ n ≤ high)) : within n low high = false := decide_eq_false h

def rising : Int → List (Int × Int) → Bool
  | _, [] => true
  | last, m :: t => decide (last < m.1 ∧ m.1 ≤ 500 ∧ 0 ≤ m.2 ∧ m.2 ≤ 3) && rising m.1 t

theorem rising_yes {last : Int} {m : Int × Int} {t : List (Int × Int)} (h : last < m.1 ∧ m.1 ≤ 500 ∧ 0 ≤ m.2 ∧ m.2 ≤ 3) : rising last (m :: t) = rising m.1 t := by
  rw [rising, decide_eq_true h, Bool.true_and]
theorem rising_no {last : Int} {m : Int × Int} {t : List (Int × Int)} (h : ¬ (last < m.1 ∧ m.1 ≤ 500 ∧ 0 ≤ m.2 ∧ m.2 ≤ 3)) : rising last (m :: t) = false := by
  rw [rising, decide_eq_false h, Bool.false_and]

def okOut (l : List Int) : Bool := decide (l.length ≤ 500) && l.all (fun n => within n 0 3)

/-- The numbers and lengths. -/
def okHead (p : Piece) : Bool :=
  decide ((0 ≤ p.node ∧ p.node ≤ 5) ∧ (0 ≤ p.state ∧ p.state ≤ 7) ∧ (0 ≤ p.steps ∧ p.steps ≤ 2147483647) ∧ p.sent.length ≤ 5 ∧ p.inn.length ≤ 5 ∧ p.out.length ≤ 5)
def right (p : Piece) : Bool := okHead p && (p.sent.all (fun n => within n 0 500) && (p.inn.all (rising 0) && p.out.all okOut))

/-- The first place where something is so; -1, if there is none. -/
def idx {α : Type} (b : α → Bool) : List α → Int
  | [] => -1
  | x :: t => if b x then 0 else if 0 ≤ idx b t then idx b t + 1 else -1
theorem idx_ge' {α : Type} (b : α → Bool) : ∀ l : List α, -1 ≤ idx b l ∧ (0 ≤ idx b l ↔ l.any b = true) := by
  intro l
  induction l with
  | nil => simp [idx]
  | cons x t ih =>
    have e : idx b (x :: t) = if b x then 0 else if 0 ≤ idx b t then idx b t + 1 else -1 := rfl
    generalize idx b (x :: t) = z at e
    rw [List.any_cons]
    by_cases hb : b x = true
    · rw [if_pos hb] at e; subst e; simp [hb]
    · rw [if_neg hb] at e
      rw [Bool.eq_false_iff.2 hb, Bool.false_or, ← ih.2]
      by_cases h : 0 ≤ idx b t
      · rw [if_pos h] at e; subst e; omega
      · rw [if_neg h] at e; subst e; omega
theorem idx_ge {α : Type} (b : α → Bool) (l : List α) : -1 ≤ idx b l ∧ (decide (0 ≤ idx b l) = l.any b) :=
  ⟨(idx_ge' b l).1, by rw [Bool.eq_iff_iff, decide_eq_true_iff]; exact (idx_ge' b l).2⟩
theorem idx_at {α : Type} {b : α → Bool} : ∀ {l : List α} {j : Nat} {x : α}, (∀ (i : Nat) (y : α), i < j → l[i]? = some y → b y = false) → l[j]? = some x → b x = true → idx b l = (j : Int) := by
  intro l
  induction l with
  | nil => intro j x _ h; simp at h
  | cons y t ih =>
    intro j x hlt hx hb
    cases j with
    | zero =>
      simp only [List.getElem?_cons_zero, Option.some.injEq] at hx
      subst hx
      simp [idx, hb]
    | succ j =>
      have h0 := hlt 0 y (by omega) rfl
      have := ih (j := j) (x := x) (fun i z hi hz => hlt (i + 1) z (by omega) (by simpa using hz)) (by simpa using hx) hb
      simp only [idx, h0, Bool.false_eq_true, if_false, this]
      rw [if_pos (by omega)]
      omega
theorem idx_none {α : Type} {b : α → Bool} : ∀ {l : List α}, (∀ (i : Nat) (y : α), l[i]? = some y → b y = false) → idx b l = -1 := by
  intro l
  induction l with
  | nil => intro _; rfl
  | cons y t ih =>
    intro h
    have h0 := h 0 y rfl
    have := ih (fun i z hz => h (i + 1) z (by simpa using hz))
    simp only [idx, h0, this]
    simp
/-- None of the first j is so. -/
def clear {α : Type} (b : α → Bool) (l : List α) (j : Nat) : Prop := ∀ (i : Nat) (y : α), i < j → l[i]? = some y → b y = false
theorem clear_zero {α : Type} (b : α → Bool) (l : List α) : clear b l 0 := fun _ _ h => absurd h (Nat.not_lt_zero _)
theorem clear_next {α : Type} {b : α → Bool} {l : List α} {j : Nat} {x : α} (h : clear b l j) (hx : l[j]? = some x) (hb : b x = false) : clear b l (j + 1) := by
  intro i y hi hy
  rcases Nat.lt_or_ge i j with hlt | hge
  · exact h i y hlt hy
  · obtain rfl : i = j := by omega
    rw [hx] at hy; injection hy with hy; subst hy; exact hb
theorem clear_all {α : Type} {b : α → Bool} {l : List α} (h : clear b l l.length) : idx b l = -1 :=
  idx_none fun i y hy => h i y (List.getElem?_eq_some_iff.1 hy).1 hy
theorem clear_at {α : Type} {b : α → Bool} {l : List α} {j : Nat} {x : α} (h : clear b l j) (hx : l[j]? = some x) (hb : b x = true) : idx b l = (j : Int) := idx_at h hx hb
/-- All of the first j are so. -/
def good {α : Type} (b : α → Bool) (l : List α) (j : Nat) : Prop := ∀ (i : Nat) (y : α), i < j → l[i]? = some y → b y = true
theorem good_zero {α : Type} (b : α → Bool) (l : List α) : good b l 0 := fun _ _ h => absurd h (Nat.not_lt_zero _)
theorem good_next {α : Type} {b : α → Bool} {l : List α} {j : Nat} {x : α} (h : good b l j) (hx : l[j]? = some x) (hb : b x = true) : good b l (j + 1) := by
  intro i y hi hy
  rcases Nat.lt_or_ge i j with hlt | hge
  · exact h i y hlt hy
  · obtain rfl : i = j := by omega
    rw [hx] at hy; injection hy with hy; subst hy; exact hb
theorem good_all {α : Type} {b : α → Bool} {l : List α} (h : good b l l.length) : l.all b = true := by
  rw [List.all_eq_true]
  intro x hx
  obtain ⟨i, hi⟩ := List.mem_iff_getElem?.1 hx
  exact h i x (List.getElem?_eq_some_iff.1 hi).1 hi
theorem bad_all {α : Type} {b : α → Bool} {l : List α} {j : Nat} {x : α} (hx : l[j]? = some x) (hb : b x = false) : l.all b = false := by
  rw [← Bool.not_eq_true, List.all_eq_true]
  intro h
  rw [h x (List.mem_of_getElem? hx)] at hb
  cases hb
theorem drop_at {α : Type} {l : List α} {j : Nat} {x : α} (hx : l[j]? = some x) : l.drop j = x :: l.drop (j + 1) := by
  obtain ⟨h, rfl⟩ := List.getElem?_eq_some_iff.1 hx
  exact List.drop_eq_getElem_cons h
theorem get_at {α : Type} {l : List α} {j : Nat} (h : j < l.length) : ∃ x, l[j]? = some x := ⟨_, List.getElem?_eq_getElem h⟩
theorem all_not {α : Type} (b : α → Bool) (l : List α) : l.any (fun x => !b x) = !l.all b := by
  induction l with
  | nil => rfl
  | cons x t ih => simp [ih]

/-! ### The numbers of a piece. -/
def pairs (x : List (Int × Int)) : List Int := x.flatMap fun m => [m.1, m.2]
def numsIn (ms : List (List (Int × Int))) : List Int := ms.flatMap fun x => (x.length : Int) :: pairs x
def numsOut (os : List (List Int)) : List Int := os.flatMap fun x => (x.length : Int) :: x
def nums (p : Piece) : List Int := ([p.node, p.state, p.steps, (p.sent.length : Int)] ++ p.sent ++ [(p.inn.length : Int)] ++ numsIn p.inn) ++ [(p.out.length : Int)] ++ numsOut p.out
def enc (p : Piece) : List UInt8 := if right p then W.puts (nums p) else []
theorem take_next {α : Type} {l : List α} {j : Nat} {x : α} (hx : l[j]? = some x) : l.take (j + 1) = l.take j ++ [x] := by
  rw [List.take_add_one, hx]; rfl

end Go.Proofs.Ytkkbblpofhenpaa.Pc

/- The piece of numbers: how it is read. No program in sight. -/
namespace Go.Proofs.Ytkkbblpofhenpaa.Pc

/-- The next number; 0 behind the end. -/
def nx : List Int → Int × List Int
  | [] => (0, [])
  | n :: t => (n, t)
/-- So many, each by 'one'. -/
def rep {α : Type} (one : List Int → α × List Int) : Nat → List Int → List α × List Int
  | 0, l => ([], l)
  | k + 1, l => ((one l).1 :: (rep one k (one l).2).1, (rep one k (one l).2).2)
/-- How many, at most. -/
def cnt (most : Int) (l : List Int) : Int × List Int := (min (nx l).1 most, (nx l).2)
def rmsg (l : List Int) : (Int × Int) × List Int := (((nx l).1, (nx (nx l).2).1), (nx (nx l).2).2)
def rin (l : List Int) : List (Int × Int) × List Int := rep rmsg (cnt 500 l).1.toNat (cnt 500 l).2
def rout (l : List Int) : List Int × List Int := rep nx (cnt 500 l).1.toNat (cnt 500 l).2
def rsent (l : List Int) : List Int × List Int := rep nx (cnt 5 l).1.toNat (cnt 5 l).2
def rins (l : List Int) : List (List (Int × Int)) × List Int := rep rin (cnt 5 l).1.toNat (cnt 5 l).2
def routs (l : List Int) : List (List Int) × List Int := rep rout (cnt 5 l).1.toNat (cnt 5 l).2
def rd (l0 : List Int) : Piece :=
  let l3 := (nx (nx (nx l0).2).2).2
  ⟨(nx l0).1, (nx (nx l0).2).1, (nx (nx (nx l0).2).2).1, (rsent l3).1, (rins (rsent l3).2).1, (routs (rins (rsent l3).2).2).1⟩

theorem rep_len {α : Type} (one : List Int → α × List Int) : ∀ (k : Nat) (l : List Int), (rep one k l).1.length = k := by
  intro k
  induction k with
  | zero => intro l; rfl
  | succ k ih => intro l; simp [rep, ih]
theorem rep_snoc {α : Type} (one : List Int → α × List Int) : ∀ (k : Nat) (l : List Int), rep one (k + 1) l = ((rep one k l).1 ++ [(one (rep one k l).2).1], (one (rep one k l).2).2) := by
  intro k
  induction k with
  | zero => intro l; rfl
  | succ k ih =>
    intro l
    have h : rep one (k + 1 + 1) l = ((one l).1 :: (rep one (k + 1) (one l).2).1, (rep one (k + 1) (one l).2).2) := rfl
    rw [h, ih]
    rfl
/-- All numbers are such as word.All gives. -/
def Nums (l : List Int) : Prop := ∀ x ∈ l, 0 ≤ x ∧ x ≤ 2147483647
theorem Nums.nx {l : List Int} (h : Nums l) : (0 ≤ (nx l).1 ∧ (nx l).1 ≤ 2147483647) ∧ Nums (Pc.nx l).2 := by
  cases l with
  | nil => exact ⟨by simp [Pc.nx], h⟩
  | cons x t => exact ⟨h x (by simp), fun y hy => h y (by simp [show y ∈ t from hy])⟩
def zs (l : List Nat) : List Int := l.map (fun (n : Nat) => (n : Int))
end Go.Proofs.Ytkkbblpofhenpaa.Pc

/- Frames, in plain Lean. Nothing of the program. -/
namespace Go.Proofs.Ytkkbblpofhenpaa
/-- A frame. -/
structure Fr where
  kind : Int
  epoch : Int
  seq : Int
  letter : Int
  pieces : List Pc.Piece
  init : Int
  num : Int
  count : Int
  path : List Int
deriving DecidableEq
namespace Fr
def zero : Fr := ⟨0, 0, 0, 0, [], 0, 0, 0, []⟩
/-- Just what the kind names. -/
def only (f : Fr) : Fr :=
  if f.kind = 0 then ⟨0, f.epoch, f.seq, f.letter, [], 0, 0, 0, []⟩ else
  if f.kind = 5 then ⟨5, f.epoch, 0, 0, f.pieces, 0, 0, 0, []⟩ else
  if f.kind = 6 then ⟨6, 0, 0, 0, [], f.init, f.num, f.count, f.path⟩ else ⟨f.kind, f.epoch, 0, 0, [], 0, 0, 0, []⟩
def node (n : Int) : Bool := Pc.within n 0 5
/-- May a probe's numbers be? -/
def probe (f : Fr) : Bool := Pc.within f.init 0 5 && (Pc.within f.num 1 200 && (Pc.within f.count 0 500 && (Pc.within f.path.length 1 6 && f.path.all node)))
def control (f : Fr) : Bool := Pc.within f.epoch 1 200
def app (f : Fr) : Bool := Pc.within f.epoch 0 200 && (Pc.within f.seq 1 500 && Pc.within f.letter 0 3)
def report (f : Fr) : Bool := control f && (Pc.within f.pieces.length 1 6 && f.pieces.all Pc.right)
def rule (f : Fr) : Bool := if f.kind = 0 then app f else if f.kind = 5 then report f else if f.kind = 6 then probe f else control f
/-- May it be? -/
def right (f : Fr) : Bool := Pc.within f.kind 0 6 && (decide (f = only f) && rule f)
/-- The pieces' bytes. -/
def texts (l : List Pc.Piece) : List UInt8 := l.flatMap fun p => W.text (Pc.enc p)
/-- The bytes of a frame that may be. -/
def body (f : Fr) : List UInt8 :=
  if f.kind = 0 then W.puts [f.kind, f.epoch, f.seq, f.letter] else
  if f.kind = 5 then W.puts [f.kind, f.epoch, (f.pieces.length : Int)] ++ texts f.pieces else
  if f.kind = 6 then W.puts ([f.kind, f.init, f.num, f.count, (f.path.length : Int)] ++ f.path) else W.puts [f.kind, f.epoch]
def enc (f : Fr) : List UInt8 := if right f then body f else []
theorem same_no {a b : Fr} (h : ¬ (a.kind = b.kind ∧ a.epoch = b.epoch ∧ a.seq = b.seq ∧ a.letter = b.letter ∧ a.pieces = b.pieces ∧ a.init = b.init ∧ a.num = b.num ∧ a.count = b.count ∧ a.path = b.path)) : decide (a = b) = false := by
  apply decide_eq_false
  rintro rfl
  exact h ⟨rfl, rfl, rfl, rfl, rfl, rfl, rfl, rfl, rfl⟩

/-! ### what a frame that may be is -/
theorem right_kind {f : Fr} (h : right f = true) : 0 ≤ f.kind ∧ f.kind ≤ 6 := by
  unfold right at h
  simp only [Bool.and_eq_true, decide_eq_true_eq] at h
  exact of_decide_eq_true h.1
theorem right_only {f : Fr} (h : right f = true) : f = only f := by
  unfold right at h
  simp only [Bool.and_eq_true, decide_eq_true_eq] at h
  exact h.2.1
theorem right_rule {f : Fr} (h : right f = true) : rule f = true := by
  unfold right at h
  simp only [Bool.and_eq_true, decide_eq_true_eq] at h
  exact h.2.2

end Fr
end Go.Proofs.Ytkkbblpofhenpaa

/- Helpers that know nothing of the program: an append of one element made on the spot; bytes to a string; rows. -/
namespace Go.Proofs.Ytkkbblpofhenpaa
open Go.RowKit

theorem below_of_grown {base : Nat} {w w' : World} {v : Value} {e : TypeId} {size n : Nat} {xs : List Value} (hown : w.ownsRow base e size v n xs) (hg : w.grownBy w' v.ownBlock) (hb : base ≤ w.heap.size) : Below base w w' :=
  (Below.refl _ _).grown hg hb (fun k hk => (hown.lt k hk).1)

/-- 'append(s, x)', x one cell, s a row of the call's own. -/
theorem wpList_append1 {P : Program} {w : World} {ops : Array Oper} {rest : List Oper} {o : Oper} {a : Act} {Q : Exit → Act → World → Prop} (hgd : o.guard = none) (s x : Operand) (t : TypeId)
    (ho : o.op = .call { callee := .builtin .append, args := #[s, x], argTypes := #[t, t] })
    (base : Nat) (e : TypeId) {z : Value} {bytes : Nat} (hinfo : (P.info? e).map (fun i => (i.zero, i.size, i.bytes)) = some (some z, 1, bytes)) (ht : P.underlying t = some (.slice e)) (hzs : z.cells.size = 1)
    (v : Value) (n : Nat) (xs : List Value) (hs : a.eval s = v) (hown : w.ownsRow base e 1 v n xs)
    (u : Value) (hx : a.eval x = .slice (some ⟨w.heap.size, 0, none⟩) 1 1) (h1 : u.oneCell' = true)
    (hbytes : (n + 1) * bytes ≤ 140737488355328) (h63 : n + 1 ≤ 9223372036854775807) (hbase : base ≤ w.heap.size)
    (h : ∀ v' w', w'.ownsRow base e 1 v' (n + 1) (xs ++ [u]) → w.grownBy w' v.ownBlock → Below base w w' → wpList P ops Q rest (a.put o.dst v') w') :
    wpList P ops Q (o :: rest) a (w.alloc (.cells #[u] e)) := by
  obtain ⟨i0, hi0, hz0, hz1, hz2⟩ := info_parts hinfo
  have hcell : ∀ j u', [u][j]? = some u' → (w.alloc (.cells #[u] e)).cell? ((⟨w.heap.size, 0, none⟩ : Addr).add j) = some u' := by
    intro j u' hu
    cases j with
    | zero => simp only [List.getElem?_cons_zero, Option.some.injEq] at hu; subst hu; simp [Addr.add, World.cell?_alloc_new]
    | succ j => simp at hu
  have hown' : (w.alloc (.cells #[u] e)).ownsRow base e 1 v n xs := hown.alloc _
  refine wpList_append_own _ hgd s x t ho base e i0 z 1 bytes ht hi0 hz0 hz1 hz2 hzs (by omega) v n xs hs hown' _ 1 1 [u] hx rfl hcell (by simpa using h1) (by unfold maxLen; omega) hbytes (by simp; omega) ?_
  intro v' w' ho' hg' _
  have hg2 : w.grownBy w' v.ownBlock := by
    have h0 := World.grownBy_alloc w (.cells #[u] e) v.ownBlock
    exact ⟨hg'.os.trans h0.os, hg'.tape.trans h0.tape, hg'.output.trans h0.output, Nat.le_trans h0.size hg'.size, fun k hk hne => (hg'.block k (by simp; omega) hne).trans (h0.block k hk hne)⟩
  exact h v' w' ho' hg2 (below_of_grown hown hg2 hbase)

def u8s (l : List UInt8) : List Value := l.map fun c => .int .u8 c.toNat
@[simp] theorem u8s_length (l : List UInt8) : (u8s l).length = l.length := by simp [u8s]

theorem own_below {w w' : World} {base : Nat} {e : TypeId} {size : Nat} {v : Value} {n : Nat} {xs : List Value} (h : w.ownsRow base e size v n xs) (hb : Below w.heap.size w w') : w'.ownsRow base e size v n xs := by
  refine ⟨h.1, ?_⟩
  rcases h.2 with h2 | ⟨g, cap, cur, hv, hg, hh, r⟩
  · exact .inl h2
  · have hlt : g < w.heap.size := by
      rcases Nat.lt_or_ge g w.heap.size with h' | h'
      · exact h'
      · simp [Array.getElem?_eq_none h'] at hh
    exact .inr ⟨g, cap, cur, hv, hg, (hb.block g hlt).trans hh, r⟩

theorem own_base {w : World} {base base' : Nat} {e : TypeId} {size : Nat} {v : Value} {n : Nat} {xs : List Value} (h : w.ownsRow base e size v n xs) (hb : base' ≤ base) : w.ownsRow base' e size v n xs := by
  refine ⟨h.1, ?_⟩
  rcases h.2 with h2 | ⟨g, cap, cur, hv, hg, r⟩
  · exact .inl h2
  · exact .inr ⟨g, cap, cur, hv, by omega, r⟩

theorem own_setCell {w : World} {base : Nat} {e : TypeId} {size : Nat} {v : Value} {n : Nat} {xs : List Value} (h : w.ownsRow base e size v n xs) {p : Addr} (hp : p.block < base) (u : Value) : (w.setCell p u).ownsRow base e size v n xs :=
  ownsRow_setCell_below h hp u
end Go.Proofs.Ytkkbblpofhenpaa

/- The smallest contracts of the seat: must, Cut. -/
namespace Go.Proofs.Ytkkbblpofhenpaa
open Go.RowKit

theorem must_yes (e : Int) (w : World) : Calls Try.prog 128 #[.bool true, .int .i64 e] w fun x w' => x = .returned (.tuple #[]) ∧ w = w' := by
  go_enter Try.func128, Try.ntmps128
  go_wp2
  go_end0
  exact ⟨rfl, rfl⟩

theorem must_no (e : Int) (w : World) : Calls Try.prog 128 #[.bool false, .int .i64 e] w fun x w' => x = .panicked [{ v := .iface 166 (.agg #[.int .i64 e]), recovered := false }] ∧ w = w' := by
  go_enter Try.func128, Try.ntmps128
  go_wp2
  exact ⟨rfl, rfl, rfl⟩

theorem must_so (b : Bool) (hb : b = true) (e : Int) (w : World) : Calls Try.prog 128 #[.bool b, .int .i64 e] w fun x w' => x = .returned (.tuple #[]) ∧ w = w' := by subst hb; exact must_yes e w
theorem must_not (b : Bool) (hb : b = false) (e : Int) (w : World) : Calls Try.prog 128 #[.bool b, .int .i64 e] w fun x w' => x = .panicked [{ v := .iface 166 (.agg #[.int .i64 e]), recovered := false }] ∧ w = w' := by subst hb; exact must_no e w

end Go.Proofs.Ytkkbblpofhenpaa

/- word.read$1 (the closure), word.read -/
namespace Go.Proofs.Ytkkbblpofhenpaa
open Go.RowKit

/-- The four cells of a reading: the bytes, the place, what is read, how many. -/
structure RdMem (B : Nat) (s : ByteArray) (at_ n i : Int) (w : World) : Prop where
  s : w.heap[B]? = some (.cells #[.string s] 9 (0, 0))
  at_ : w.heap[B + 1]? = some (.cells #[.int .i64 at_] 3 (0, 0))
  n : w.heap[B + 2]? = some (.cells #[.int .i64 n] 3 (0, 0))
  i : w.heap[B + 3]? = some (.cells #[.int .i64 i] 3 (0, 0))

def stopV (e : Int) : List PanicEntry := [{ v := .iface 166 (.agg #[.int .i64 e]), recovered := false }]

theorem RdMem.step {B : Nat} {s : ByteArray} {at_ n i : Int} {w : World} (h : RdMem B s at_ n i w) (n' i' : Int) :
    RdMem B s at_ n' i' ((w.setCell ⟨B + 2, 0, none⟩ (.int .i64 n')).setCell ⟨B + 3, 0, none⟩ (.int .i64 i')).drew := by
  refine ⟨?_, ?_, ?_, ?_⟩
  · show ((w.setCell _ _).setCell _ _).heap[B]? = _
    rw [heap_setCell_other _ _ _ _ (by simp), heap_setCell_other _ _ _ _ (by simp)]; exact h.s
  · show ((w.setCell _ _).setCell _ _).heap[B + 1]? = _
    rw [heap_setCell_other _ _ _ _ (by simp), heap_setCell_other _ _ _ _ (by simp)]; exact h.at_
  · show ((w.setCell _ _).setCell _ _).heap[B + 2]? = _
    rw [heap_setCell_other _ _ _ _ (by simp)]; exact one_setCell h.n
  · show ((w.setCell _ _).setCell _ _).heap[B + 3]? = _
    exact one_setCell ((heap_setCell_other _ _ _ _ (by simp)).trans h.i)

theorem shl_val (x n i : Nat) (hi : i < 5) (hn : n ≤ 2147483647) (_hx : x < 256) : wrap64 ((n : Int) + wrap64 ((x : Int) % 128 * 2 ^ (7 * i))) = ((n + x % 128 * 128 ^ i : Nat) : Int) := by
  have h5 : i = 0 ∨ i = 1 ∨ i = 2 ∨ i = 3 ∨ i = 4 := by omega
  rcases h5 with rfl | rfl | rfl | rfl | rfl <;> simp only [Nat.mul_zero, Nat.reduceMul, Int.reducePow, Nat.reducePow, Int.pow_zero, Nat.pow_zero] <;> (rw [IntWalk.wrap64_in (_ * _) (by omega), IntWalk.wrap64_in _ (by omega)]; omega)

set_option maxRecDepth 100000 in
set_option maxHeartbeats 400000 in
theorem next_no (B : Nat) (s : ByteArray) (at_ i n : Nat) (w : World) (h : RdMem B s at_ n i w) (hat : at_ ≤ s.size) (hi : i < 5) (hs : s.size ≤ 1000000000) (hend : ¬ at_ + i < s.size) :
    Calls Try.prog 129 #[.pointer (some ⟨B + 1, 0, none⟩), .pointer (some ⟨B + 3, 0, none⟩), .pointer (some ⟨B, 0, none⟩), .pointer (some ⟨B + 2, 0, none⟩)] w
      fun x w' => x = .panicked (stopV 5) ∧ w = w' := by
  have c0 := cell_of_one h.s
  have c1 := cell_of_one h.at_
  have c3 := cell_of_one h.i
  have c2 := cell_of_one h.n
  have f2 := free_of_one h.n
  have f3 := free_of_one h.i
  clear h
  go_enter Try.func129, Try.ntmps129
  go_wp2_with fail
  refine (must_not _ (by simp; omega) 5 _).mono ?_
  rintro e w' ⟨rfl, rfl⟩
  exact ⟨rfl, rfl, rfl⟩

set_option maxRecDepth 100000 in
set_option maxHeartbeats 400000 in
theorem next_yes (B : Nat) (s : ByteArray) (at_ i n : Nat) (w : World) (h : RdMem B s at_ n i w) (hat : at_ ≤ s.size) (hi : i < 5) (hn : n ≤ 2147483647) (hs : s.size ≤ 1000000000) (hend : at_ + i < s.size) (x m : Nat) (hx : x = s[at_ + i].toNat) (hm : m = n + x % 128 * 128 ^ i) :
    Calls Try.prog 129 #[.pointer (some ⟨B + 1, 0, none⟩), .pointer (some ⟨B + 3, 0, none⟩), .pointer (some ⟨B, 0, none⟩), .pointer (some ⟨B + 2, 0, none⟩)] w
      fun y w' => y = .returned (.int .u8 x) ∧ RdMem B s at_ m ((i : Int) + 1) w' ∧ Below B w w' := by
  have c0 := cell_of_one h.s
  have c1 := cell_of_one h.at_
  have c3 := cell_of_one h.i
  have c2 := cell_of_one h.n
  have f2 := free_of_one h.n
  have f3 := free_of_one h.i
  have HX := Lib.hid hx; clear hx
  have HM := Lib.hid hm; clear hm
  go_enter Try.func129, Try.ntmps129
  go_wp2_with fail
  refine (must_so _ (by simp; omega) 5 _).mono ?_
  rintro e w' ⟨rfl, rfl⟩
  go_wp2_with fail
  go_region
  go_wp2_with fail
  go_ret
  rw [shl_val _ n i hi hn (UInt8.toNat_lt _), ← HX.out, ← HM.out]
  exact ⟨rfl, h.step _ _, ((((Below.refl B w).setCell (by simp) _).setCell (by simp) _)).drew⟩

/-- How a reading ends. -/
def rdEnd (at_ : Nat) : W.Got → Ending
  | .bad e => .panicked (stopV e)
  | .ok n i => .returned (.tuple #[.int .i64 n, .int .i64 ((at_ : Int) + (i : Int))])

def RdRel (l : List UInt8) (w : World) (s : ByteArray) (at_ : Nat) (k : Nat) (wr : World) : Prop :=
  ∃ i n : Nat, i < 5 ∧ k = 5 - i ∧ n ≤ 2147483647 ∧ RdMem w.heap.size s at_ n i wr ∧ Below w.heap.size w wr ∧ w.heap.size + 4 ≤ wr.heap.size ∧ W.rd (l.drop i) i n = W.rd l 0 0

theorem below_2 (w : World) (o o' : Obj) : Below w.heap.size w ((w.alloc o).alloc o') := ((Below.refl _ _).alloc (Nat.le_refl _) o).alloc (by simp) o'

theorem rd_cons {s : ByteArray} {at_ i : Nat} {l : List UInt8} (hend : at_ + i < s.size) (hl : s.data.toList.drop at_ = l) : l.drop i = s[at_ + i] :: l.drop (i + 1) := by
  subst hl
  rw [List.drop_drop, List.drop_drop, List.drop_eq_getElem_cons (by simpa using hend)]
  congr 1

theorem rd_nil {s : ByteArray} {at_ i : Nat} {l : List UInt8} (hend : ¬ at_ + i < s.size) (hl : s.data.toList.drop at_ = l) : l.drop i = [] := by
  subst hl
  rw [List.drop_drop]
  apply List.drop_eq_nil_of_le
  have : s.data.toList.length = s.size := by simp
  omega

theorem rd_start (l : List UInt8) (w : World) (s : ByteArray) (at_ : Nat) : RdRel l w s at_ 5 ((((w.alloc (.cells #[.string s] 9)).alloc (.cells #[.int .i64 at_] 3)).alloc (.cells #[.int .i64 0] 3)).alloc (.cells #[.int .i64 0] 3)) := by
  refine ⟨0, 0, by omega, rfl, by omega, ⟨?_, ?_, ?_, ?_⟩, ((below_2 _ _ _).alloc (by simp; omega) _).alloc (by simp; omega) _, by simp, by simp⟩
  · rw [heap_alloc_old _ _ (by simp; omega), heap_alloc_old _ _ (by simp; omega), heap_alloc_old _ _ (by simp)]; exact heap_alloc_new _ _
  · rw [heap_alloc_old _ _ (by simp), heap_alloc_old _ _ (by simp)]; have := heap_alloc_new (w.alloc (.cells #[.string s] 9)) (.cells #[.int .i64 at_] 3); simpa using this
  · rw [heap_alloc_old _ _ (by simp)]; have := heap_alloc_new ((w.alloc (.cells #[.string s] 9)).alloc (.cells #[.int .i64 at_] 3)) (.cells #[.int .i64 0] 3); simpa using this
  · have := heap_alloc_new (((w.alloc (.cells #[.string s] 9)).alloc (.cells #[.int .i64 at_] 3)).alloc (.cells #[.int .i64 0] 3)) (.cells #[.int .i64 0] 3); simpa using this

set_option maxRecDepth 100000 in
set_option maxHeartbeats 400000 in
theorem read_any (s : ByteArray) (at_ : Nat) (w : World) (hs : s.size ≤ 1000000000) (h : at_ ≤ s.size) : Calls Try.prog 116 #[.string s, .int .i64 at_] w
    fun x w' => x = rdEnd at_ (W.rd (s.data.toList.drop at_) 0 0) ∧ Below w.heap.size w w' := by
  have hmf : ∀ (fn : Fn) (first cap : Array Value) (w : World), (Instr.makeFunc fn first cap).run Try.prog w = .ok (.func fn first cap) w := fun _ _ _ _ => rfl
  generalize hl : s.data.toList.drop at_ = l
  have HL := Lib.hid hl; clear hl
  go_enter Try.func116, Try.ntmps116
  go_wp2_with fail
  refine (must_yes 1 _).mono ?_
  rintro e w' ⟨rfl, rfl⟩
  go_wp2_with fail
  go_loopg [] 5 (fun k wr => RdRel l w s at_ k wr)
  case atStart => exact rd_start l w s at_
  case round =>
    obtain ⟨i, n, hi, hk, hn, hm, hb, hsz, hr⟩ := hrel
    have HR := Lib.hid hr; clear hr
    have HK := Lib.hid hk; clear hk
    by_cases hend : at_ + i < s.size
    · have hx : s[at_ + i].toNat < 256 := UInt8.toNat_lt _
      obtain ⟨x, hxe⟩ : ∃ x, x = s[at_ + i].toNat := ⟨_, rfl⟩
      obtain ⟨m, hme⟩ : ∃ m, m = n + x % 128 * 128 ^ i := ⟨_, rfl⟩
      have hx2 : x < 256 := by omega
      have HX := Lib.hid hxe; clear hxe hx
      have HM := Lib.hid hme; clear hme
      go_wp2_with fail
      refine (next_yes w.heap.size s at_ i n _ hm h hi hn hs hend x m HX.out HM.out).mono ?_
      rintro e w1 ⟨rfl, hm1, hb1⟩
      have k1 : w1.cell? ⟨w.heap.size + 1, 0, none⟩ = some (.int .i64 (at_ : Int)) := cell_of_one hm1.at_
      have k2 : w1.cell? ⟨w.heap.size + 1 + 1, 0, none⟩ = some (.int .i64 (m : Int)) := cell_of_one hm1.n
      have k3 : w1.cell? ⟨w.heap.size + 1 + 1 + 1, 0, none⟩ = some (.int .i64 ((i : Int) + 1)) := cell_of_one hm1.i
      have hr0 := rd_cons hend HL.out
      have HR0 := Lib.hid hr0; clear hr0
      by_cases c1 : m ≤ 2147483647
      · by_cases c2 : x < 128
        · go_wp2_with fail
          refine (must_yes 2 _).mono ?_
          rintro e w' ⟨rfl, rfl⟩
          by_cases c3 : 0 < x
          · go_wp2_with fail
            refine (must_yes 4 _).mono ?_
            rintro e w' ⟨rfl, rfl⟩
            go_wp2_with fail
            go_quiet (fail)
            go_wp2_with fail
            go_ret2
            refine ⟨?_, below_drewN (hb.trans hb1) _⟩
            rw [← HR.out, W.rd_ok HR0.out HX.out HM.out c1 c2 (.inl c3)]
            rfl
          · by_cases c4 : i = 0
            · subst c4
              go_wp2_with fail
              refine (must_so _ (by simp) 4 _).mono ?_
              rintro e w' ⟨rfl, rfl⟩
              go_wp2_with fail
              go_quiet (fail)
              go_wp2_with fail
              go_ret2
              refine ⟨?_, below_drewN (hb.trans hb1) _⟩
              rw [← HR.out, W.rd_ok HR0.out HX.out HM.out c1 c2 (.inr rfl)]
              simp [rdEnd]
            · have c4' : (((i : Int) + 1) == 1) = false := beq_eq_false_iff_ne.2 (by omega)
              go_wp2_with fail
              refine (must_not _ (by first | rfl | (simp; omega)) 4 _).mono ?_
              rintro e w' ⟨rfl, rfl⟩
              go_wp2_with fail
              refine ⟨rfl, ?_, hb.trans hb1⟩
              rw [← HR.out, W.rd_form HR0.out HX.out HM.out c1 c2 (by omega)]
              rfl
        · by_cases c5 : i + 1 < 5
          · go_wp2_with fail
            refine (must_so _ (by simp; omega) 2 _).mono ?_
            rintro e w' ⟨rfl, rfl⟩
            go_wp2_with fail
            go_roundg (gk - 1)
            case rel => exact ⟨i + 1, m, c5, by have := HK.out; omega, c1, hm1, hb.trans hb1, Nat.le_trans hsz hb1.size, by rw [← HR.out, W.rd_more HR0.out HX.out HM.out c1 c2 c5]⟩
            case measure => have := HK.out; omega
          · go_wp2_with fail
            refine (must_not _ (by simp; omega) 2 _).mono ?_
            rintro e w' ⟨rfl, rfl⟩
            go_wp2_with fail
            refine ⟨rfl, ?_, hb.trans hb1⟩
            rw [← HR.out, W.rd_big HR0.out HX.out HM.out (by omega)]
            rfl
      · go_wp2_with fail
        refine (must_no 2 _).mono ?_
        rintro e w' ⟨rfl, rfl⟩
        go_wp2_with fail
        refine ⟨rfl, ?_, hb.trans hb1⟩
        rw [← HR.out, W.rd_big HR0.out HX.out HM.out (by omega)]
        rfl
    · go_wp2_with fail
      refine (next_no w.heap.size s at_ i n _ hm h hi hs hend).mono ?_
      rintro e w1 ⟨rfl, rfl⟩
      go_wp2_with fail
      refine ⟨rfl, ?_, hb⟩
      rw [← HR.out, rd_nil hend HL.out]
      rfl
end Go.Proofs.Ytkkbblpofhenpaa

/- word.caught, word.Get -/
namespace Go.Proofs.Ytkkbblpofhenpaa
open Go.RowKit

theorem assert_stop (e : Int) (w : World) : (Instr.typeAssert (.iface 166 (.agg #[.int .i64 e])) 20 166 true).run Try.prog w = .ok (.tuple #[.agg #[.int .i64 e], .bool true]) w := by kernel_rfl
theorem assert_nil (w : World) : (Instr.typeAssert .nilIface 20 166 true).run Try.prog w = .ok (.tuple #[.agg #[.int .i64 0], .bool false]) w := by kernel_rfl

set_option maxHeartbeats 400000 in
theorem caught_panicking (g : Nat) (x e : Int) (older : List PanicEntry) (w : World) (hc : w.cell? ⟨g, 0, none⟩ = some (.int .i64 x)) (hz : w.frozen? ⟨g, 0, none⟩ = false) :
    CallsD Try.prog 115 #[.pointer (some ⟨g, 0, none⟩)] (.panicking ({ v := .iface 166 (.agg #[.int .i64 e]), recovered := false } :: older)) w fun y u' w' =>
      y = .returned (.tuple #[]) ∧ u' = .panicking ({ v := .iface 166 (.agg #[.int .i64 e]), recovered := true } :: older) ∧ w' = (w.setCell ⟨g, 0, none⟩ (.int .i64 e)).alloc (.cells #[.int .i64 e] 166) := by
  have hlt : g < w.heap.size := block_lt_of_cell hc
  have ha := assert_stop e
  refine callsD_of_wpS Try.func115 rfl fun c₀ cs hu => ?_
  simp only [Try.ntmps115, List.size_toArray, List.length_cons, List.length_nil, Nat.reduceAdd, Nat.reduceSub, Array.replicate_succ,
     Array.replicate_zero, List.push_toArray, List.append_toArray, List.nil_append, List.cons_append]
  apply wpS_seq
  apply wpS_region
  simp [wpOpsS, go_sem, recoverD, hu, Exit.thenS, ha]
  refine wpS_of_wp ?_
  go_wp2
  exact ⟨rfl, _, rfl, _, by simp [results, Try.results115], rfl, rfl, rfl⟩

set_option maxHeartbeats 400000 in
theorem caught_idle (p : Option Addr) (w : World) :
    CallsD Try.prog 115 #[.pointer p] .returning w fun y u' w' =>
      y = .returned (.tuple #[]) ∧ u' = .returning ∧ w' = w.alloc (.cells #[.int .i64 0] 166) := by
  have ha := assert_nil
  refine callsD_of_wpS Try.func115 rfl fun c₀ cs hu => ?_
  simp only [Try.ntmps115, List.size_toArray, List.length_cons, List.length_nil, Nat.reduceAdd, Nat.reduceSub, Array.replicate_succ,
     Array.replicate_zero, List.push_toArray, List.append_toArray, List.nil_append, List.cons_append]
  apply wpS_seq
  apply wpS_region
  simp [wpOpsS, go_sem, recoverD, hu, Exit.thenS, ha]
  refine wpS_of_wp ?_
  go_wp2
  exact ⟨rfl, .returning, by cases c₀; simp_all, _, by simp [results, Try.results115], rfl, rfl, rfl⟩

/-- The door of a function that defers 'caught', when a reading was ended: the named error is laid. -/
theorem door_bad {fn : Func} {tmps : Array Value} {R : Ending → World → Prop} {g : Nat} {x e : Int} {w : World} (hc : w.heap[g]? = some (.cells #[.int .i64 x] 41 (0, 0)))
    (h : ∀ w', w'.heap[g]? = some (.cells #[.int .i64 e] 41 (0, 0)) → Below g w w' → ∃ v, (results fn tmps).run Try.prog w' = .ok v w' ∧ R (.returned v) w') :
    Leaves Try.prog fn tmps R [{ target := .fn (.func 115) #[], args := #[.pointer (some ⟨g, 0, none⟩)] }] (.panicking (stopV e)) w := by
  refine leaves_cons (f := 115) (args := #[.pointer (some ⟨g, 0, none⟩)]) (by simp) (by simp [go_sem]) ?_
  refine (caught_panicking g x e [] w (cell_of_one hc) (free_of_one hc)).mono ?_
  rintro y u' w'' ⟨rfl, rfl, rfl⟩
  have hlt := lt_of_block hc
  have hb : Below g w ((w.setCell ⟨g, 0, none⟩ (.int .i64 e)).alloc (.cells #[.int .i64 e] 166)) := ((Below.refl _ _).setCell (by simp) _).alloc (by simp; omega) _
  exact h _ ((heap_alloc_old _ _ (by simpa using hlt)).trans (one_setCell hc)) hb

theorem door_good {fn : Func} {tmps : Array Value} {R : Ending → World → Prop} {g : Nat} {w : World}
    (h : ∀ w', Below w.heap.size w w' → ∃ v, (results fn tmps).run Try.prog w' = .ok v w' ∧ R (.returned v) w') :
    Leaves Try.prog fn tmps R [{ target := .fn (.func 115) #[], args := #[.pointer (some ⟨g, 0, none⟩)] }] .returning w := by
  refine leaves_cons (f := 115) (args := #[.pointer (some ⟨g, 0, none⟩)]) (by simp) (by simp [go_sem]) ?_
  refine (caught_idle _ w).mono ?_
  rintro y u' w'' ⟨rfl, rfl, rfl⟩
  exact h _ ((Below.refl _ _).alloc (Nat.le_refl _) _)

end Go.Proofs.Ytkkbblpofhenpaa

/- word.All, word.Take -/
namespace Go.Proofs.Ytkkbblpofhenpaa
open Go.RowKit

theorem Try.infoInt : (Try.prog.info? 3).map (fun i => (i.zero, i.size, i.bytes)) = some (some (.int .i64 0), 1, 8) := by kernel_rfl

def i64s (l : List Nat) : List Value := l.map fun (n : Nat) => .int .i64 (n : Int)
@[simp] theorem i64s_length (l : List Nat) : (i64s l).length = l.length := by simp [i64s]
theorem i64s_snoc (l : List Nat) (n : Nat) : i64s l ++ [.int .i64 (n : Int)] = i64s (l ++ [n]) := by simp [i64s]

/-- How All ends. -/
def AllEnd (B : Nat) : W.Alls → Ending → World → Prop
  | .bad e, x, _ => x = .returned (.tuple #[.slice none 0 0, .int .i64 e])
  | .ok l, x, w' => ∃ v, x = .returned (.tuple #[v, .int .i64 0]) ∧ w'.ownsRow B 3 1 v l.length (i64s l)

def AllRel (l : List UInt8) (w : World) (k : Nat) (v b : Value) (wr : World) : Prop :=
  ∃ (at_ : Nat) (acc : List Nat), v = .int .i64 at_ ∧ at_ ≤ l.length ∧ k = l.length - at_ ∧ acc.length ≤ at_ ∧ wr.heap[w.heap.size]? = some (.cells #[.int .i64 0] 41 (0, 0)) ∧
    wr.ownsRow (w.heap.size + 1) 3 1 b acc.length (i64s acc) ∧ W.all l = (W.all (l.drop at_)).pre acc ∧ Below w.heap.size w wr

set_option maxRecDepth 100000 in
set_option maxHeartbeats 400000 in
theorem all_any (s : ByteArray) (w : World) (hs : s.size ≤ 1000000000) : Calls Try.prog 72 #[.string s] w
    fun x w' => AllEnd w.heap.size (W.all s.data.toList) x w' ∧ Below w.heap.size w w' := by
  generalize hl : s.data.toList = l
  have hsz : s.size = l.length := by rw [← hl]; simp
  have HL := Lib.hid hl; clear hl
  have HS := Lib.hid hsz; clear hsz
  go_enter_defers Try.func72, Try.ntmps72
  go_wp2_with fail
  go_loopg [5, 4] l.length (fun k v b wr => AllRel l w k v b wr)
  case atStart => exact ⟨0, [], rfl, by omega, by omega, by simp, heap_alloc_new _ _, World.ownsRow_nil _ _ _ _, by simp [W.Alls.pre_nil], (Below.refl _ _).alloc (Nat.le_refl _) _⟩
  case round =>
    obtain ⟨at_, acc, rfl, ha, hk, hacc, h0, hown, hr, hb⟩ := hrel
    have HR := Lib.hid hr; clear hr
    have HK := Lib.hid hk; clear hk
    have hlt := lt_of_block h0
    by_cases hend : at_ < s.size
    · have hrd := fun w => read_any s at_ w hs (by omega)
      rw [HL.out] at hrd
      generalize hg : W.rd (l.drop at_) 0 0 = g at hrd
      have HG := Lib.hid hg; clear hg
      have HRD := Lib.hid hrd; clear hrd
      have H0 := Lib.hid h0; clear h0
      cases g with
      | bad e =>
        go_wp2_with fail
        refine (HRD.out _).mono ?_
        rintro y w1 ⟨rfl, hb1⟩
        simp only [rdEnd]
        go_wp2_with fail
        refine door_bad ((hb1.block _ hlt).trans H0.out) (fun w2 h2 hb2 => ?_)
        have c2 := cell_of_one h2
        refine ⟨.tuple #[.slice none 0 0, .int .i64 e], by simp [results, Try.results72, go_sem, c2], ?_, (hb.trans (hb1.mono (by omega))).trans hb2⟩
        rw [HR.out, W.all_bad (by intro h; have := congrArg List.length h; have := HS.out; simp at *; omega) HG.out]
        rfl
      | ok n i =>
        have hp := W.rd_pos _ _ _ _ _ HG.out
        have hp2 : i + at_ ≤ l.length := by have := hp.2.1; simp at this; omega
        go_wp2_with fail
        refine (HRD.out _).mono ?_
        rintro y w1 ⟨rfl, hb1⟩
        simp only [rdEnd]
        have hs1 := hb1.size
        have hown1 := own_below hown hb1
        have hab : acc.length + 1 ≤ 1000000000 := by have := HS.out; omega
        go_wp2_with (at_builtin; refine wpList_append1 rfl _ _ 35 rfl (w.heap.size + 1) 3 Try.infoInt Try.underlying35 rfl _ _ _ rfl hown1 (.int .i64 (n : Int)) rfl rfl (by omega) (by omega) (by omega) ?_; intro v2 w2 hown2 hg2 hb2)
        go_roundg (l.length - (at_ + i))
        case rel =>
          refine ⟨at_ + i, acc ++ [n], by simp, by omega, rfl, by simp; omega, (hb2.block _ (by omega)).trans ((hb1.block _ hlt).trans H0.out), by rw [← i64s_snoc]; simpa using hown2, ?_, (hb.trans (hb1.mono (by omega))).trans (hb2.mono (by omega))⟩
          rw [HR.out, W.all_ok HG.out, W.Alls.pre_pre, List.drop_drop]
        case measure => have := HK.out; omega
    · have c0 := cell_of_one h0
      have f0 := free_of_one h0
      have H0 := Lib.hid h0; clear h0
      go_wp2_with fail
      refine door_good (fun w2 hb2 => ?_)
      have c2 : w2.cell? ⟨w.heap.size, 0, none⟩ = some (.int .i64 0) := by rw [hb2.cell (by simpa using hlt)]; exact cell_of_one (one_setCell H0.out)
      refine ⟨.tuple #[u4, .int .i64 0], by simp [results, Try.results72, go_sem, c2], ?_, (hb.setCell (by simp) _).trans (hb2.mono (by simp; omega))⟩
      have e : l.drop at_ = [] := List.drop_eq_nil_of_le (by have := HS.out; omega)
      rw [HR.out, e]
      exact ⟨_, rfl, by simpa using own_base (own_below (own_setCell hown (by simp) _) hb2) (Nat.le_succ _)⟩
end Go.Proofs.Ytkkbblpofhenpaa

/- word.Text, word.Puts -/
namespace Go.Proofs.Ytkkbblpofhenpaa
open Go.RowKit

/-- A slice that reads as a list of numbers, below block B. -/
def IsInts (w : World) (B : Nat) (v : Value) (xs : List Int) : Prop :=
  ∃ A c, v = .slice A xs.length c ∧ xs.length ≤ c ∧ c ≤ maxLen ∧ (xs ≠ [] → ∃ g o, A = some ⟨g, o, none⟩ ∧ g < B ∧ ∀ k, k < xs.length → w.cell? ⟨g, o + k, none⟩ = some (.int .i64 (xs.getD k 0)))

theorem IsInts.keep {w w' : World} {B : Nat} {v : Value} {xs : List Int} (h : IsInts w B v xs) (hb : Below B w w') : IsInts w' B v xs := by
  obtain ⟨A, c, rfl, hn, hm, hc⟩ := h
  refine ⟨A, c, rfl, hn, hm, fun hx => ?_⟩
  obtain ⟨g, o, rfl, hg, hk⟩ := hc hx
  exact ⟨g, o, rfl, hg, fun k hk' => (hb.cell hg).trans (hk k hk')⟩
theorem IsInts.up {w : World} {B B' : Nat} {v : Value} {xs : List Int} (h : IsInts w B v xs) (hb : B ≤ B') : IsInts w B' v xs := by
  obtain ⟨A, c, rfl, hn, hm, hc⟩ := h
  refine ⟨A, c, rfl, hn, hm, fun hx => ?_⟩
  obtain ⟨g, o, rfl, hg, hk⟩ := hc hx
  exact ⟨g, o, rfl, by omega, hk⟩

end Go.Proofs.Ytkkbblpofhenpaa

/- What memory reads as, in a set S of blocks: numbers, messages, lists of what can be read, lists of lists. Nothing of the program. -/
namespace Go.Proofs.Ytkkbblpofhenpaa
open Go.RowKit

/-- How some cells of a world read as data; what they lead to lies in the blocks S; 'fr': may it be written? -/
structure Rep (α : Type) where
  size : Nat
  pos : 0 < size
  is : Bool → World → (Nat → Prop) → List Value → α → Prop
  len : ∀ {fr w S cs a}, is fr w S cs a → cs.length = size
  keep : ∀ {fr w w' S cs a}, is fr w S cs a → (∀ b, S b → w'.heap[b]? = w.heap[b]?) → is fr w' S cs a
  widen : ∀ {fr w S S' cs a}, is fr w S cs a → (∀ b, S b → S' b) → is fr w S' cs a
  soft : ∀ {fr w S cs a}, is fr w S cs a → is false w S cs a
  one : ∀ {fr w S cs a}, is fr w S cs a → ∀ u ∈ cs, u.oneCell' = true

/-- The blocks lo .. hi. -/
def rng (lo hi : Nat) (b : Nat) : Prop := lo ≤ b ∧ b < hi
theorem rng_widen {lo hi lo' hi' : Nat} (h1 : lo' ≤ lo) (h2 : hi ≤ hi') : ∀ b, rng lo hi b → rng lo' hi' b := fun _ h => ⟨Nat.le_trans h1 h.1, Nat.lt_of_lt_of_le h.2 h2⟩

section
variable {α : Type} (r : Rep α)
/-- Cells, one behind the other, that read as a list. -/
def Rep.all (fr : Bool) (w : World) (S : Nat → Prop) : List Value → List α → Prop
  | cells, [] => cells = []
  | cells, x :: xs => ∃ cs rest, cells = cs ++ rest ∧ r.is fr w S cs x ∧ Rep.all fr w S rest xs
end
section
variable {α : Type} {r : Rep α} {fr : Bool} {w w' : World} {S S' : Nat → Prop} {cells : List Value} {xs : List α}
theorem Rep.all_len : ∀ {xs : List α} {cells : List Value}, r.all fr w S cells xs → cells.length = xs.length * r.size := by
  intro xs
  induction xs with
  | nil => intro cells h; simp only [Rep.all] at h; subst h; simp
  | cons x xs ih =>
    intro cells h
    obtain ⟨cs, rest, rfl, h1, h2⟩ := h
    rw [List.length_append, r.len h1, ih h2, List.length_cons, Nat.succ_mul, Nat.add_comm]
theorem Rep.all_keep (hk : ∀ b, S b → w'.heap[b]? = w.heap[b]?) : ∀ {xs : List α} {cells : List Value}, r.all fr w S cells xs → r.all fr w' S cells xs := by
  intro xs
  induction xs with
  | nil => intro cells h; exact h
  | cons x xs ih =>
    intro cells h
    obtain ⟨cs, rest, rfl, h1, h2⟩ := h
    exact ⟨cs, rest, rfl, r.keep h1 hk, ih h2⟩
theorem Rep.all_widen (h1 : ∀ b, S b → S' b) : ∀ {xs : List α} {cells : List Value}, r.all fr w S cells xs → r.all fr w S' cells xs := by
  intro xs
  induction xs with
  | nil => intro cells h; exact h
  | cons x xs ih =>
    intro cells h
    obtain ⟨cs, rest, rfl, h3, h4⟩ := h
    exact ⟨cs, rest, rfl, r.widen h3 h1, ih h4⟩
theorem Rep.all_soft : ∀ {xs : List α} {cells : List Value}, r.all fr w S cells xs → r.all false w S cells xs := by
  intro xs
  induction xs with
  | nil => intro cells h; exact h
  | cons x xs ih =>
    intro cells h
    obtain ⟨cs, rest, rfl, h3, h4⟩ := h
    exact ⟨cs, rest, rfl, r.soft h3, ih h4⟩
theorem Rep.all_one : ∀ {xs : List α} {cells : List Value}, r.all fr w S cells xs → ∀ u ∈ cells, u.oneCell' = true := by
  intro xs
  induction xs with
  | nil => intro cells h; simp only [Rep.all] at h; subst h; simp
  | cons x xs ih =>
    intro cells h
    obtain ⟨cs, rest, rfl, h3, h4⟩ := h
    intro u hu
    rcases List.mem_append.1 hu with hu | hu
    · exact r.one h3 u hu
    · exact ih h4 u hu
theorem Rep.all_append : ∀ {xs ys : List α} {c1 c2 : List Value}, r.all fr w S c1 xs → r.all fr w S c2 ys → r.all fr w S (c1 ++ c2) (xs ++ ys) := by
  intro xs
  induction xs with
  | nil => intro ys c1 c2 h h2; simp only [Rep.all] at h; subst h; simpa using h2
  | cons x xs ih =>
    intro ys c1 c2 h h2
    obtain ⟨cs, rest, rfl, h3, h4⟩ := h
    exact ⟨cs, rest ++ c2, by simp, h3, ih h4 h2⟩
theorem Rep.all_single {cs : List Value} {x : α} (h : r.is fr w S cs x) : r.all fr w S cs [x] := ⟨cs, [], by simp, h, rfl⟩
theorem Rep.all_snoc {cs : List Value} {x : α} (h : r.all fr w S cells xs) (h1 : r.is fr w S cs x) : r.all fr w S (cells ++ cs) (xs ++ [x]) := Rep.all_append h (Rep.all_single h1)
theorem Rep.all_take : ∀ (k : Nat) {xs : List α} {cells : List Value}, r.all fr w S cells xs → r.all fr w S (cells.take (k * r.size)) (xs.take k) := by
  intro k
  induction k with
  | zero => intro xs cells _; simp [Rep.all]
  | succ k ih =>
    intro xs cells h
    cases xs with
    | nil => simp only [Rep.all] at h; subst h; simp [Rep.all]
    | cons x xs =>
      obtain ⟨cs, rest, rfl, h3, h4⟩ := h
      have hl := r.len h3
      rw [List.take_succ_cons, List.take_append]
      have e1 : cs.take ((k + 1) * r.size) = cs := List.take_of_length_le (by rw [hl, Nat.succ_mul]; omega)
      have e2 : (k + 1) * r.size - cs.length = k * r.size := by rw [hl, Nat.succ_mul]; omega
      rw [e1, e2]
      exact ⟨cs, _, rfl, h3, ih h4⟩
theorem Rep.all_drop : ∀ (k : Nat) {xs : List α} {cells : List Value}, r.all fr w S cells xs → r.all fr w S (cells.drop (k * r.size)) (xs.drop k) := by
  intro k
  induction k with
  | zero => intro xs cells h; simpa using h
  | succ k ih =>
    intro xs cells h
    cases xs with
    | nil => simp only [Rep.all] at h; subst h; simp [Rep.all]
    | cons x xs =>
      obtain ⟨cs, rest, rfl, h3, h4⟩ := h
      have hl := r.len h3
      rw [List.drop_succ_cons, List.drop_append]
      have e1 : cs.drop ((k + 1) * r.size) = [] := List.drop_eq_nil_of_le (by rw [hl, Nat.succ_mul]; omega)
      have e2 : (k + 1) * r.size - cs.length = k * r.size := by rw [hl, Nat.succ_mul]; omega
      rw [e1, e2, List.nil_append]
      exact ih h4
theorem Rep.all_at : ∀ {xs : List α} {cells : List Value} {k : Nat} {x : α}, r.all fr w S cells xs → xs[k]? = some x → ∃ cs, r.is fr w S cs x ∧ ∀ j u, cs[j]? = some u → cells[k * r.size + j]? = some u := by
  intro xs
  induction xs with
  | nil => intro cells k x _ hx; simp at hx
  | cons y ys ih =>
    intro cells k x h hx
    obtain ⟨cs, rest, rfl, h3, h4⟩ := h
    have hl := r.len h3
    cases k with
    | zero =>
      simp only [List.getElem?_cons_zero, Option.some.injEq] at hx
      subst hx
      refine ⟨cs, h3, fun j u hj => ?_⟩
      have hlt : j < cs.length := (List.getElem?_eq_some_iff.1 hj).1
      rw [Nat.zero_mul, Nat.zero_add, List.getElem?_append_left hlt]
      exact hj
    | succ k =>
      simp only [List.getElem?_cons_succ] at hx
      obtain ⟨c2, h5, h6⟩ := ih h4 hx
      refine ⟨c2, h5, fun j u hj => ?_⟩
      rw [List.getElem?_append_right (by rw [hl, Nat.succ_mul]; omega), show (k + 1) * r.size + j - cs.length = k * r.size + j from by rw [hl, Nat.succ_mul]; omega]
      exact h6 j u hj
end

section
variable {α : Type} (r : Rep α)
/-- The array of a slice (its address A) reads as a list. -/
def AtOn (fr : Bool) (w : World) (S : Nat → Prop) (A : Option Addr) (xs : List α) : Prop :=
  ∃ cells, r.all fr w S cells xs ∧ (0 < xs.length → ∃ g o, A = some ⟨g, o, none⟩ ∧ S g ∧ ∀ j u, cells[j]? = some u → w.cell? ⟨g, o + j, none⟩ = some u ∧ (fr = true → w.frozen? ⟨g, o + j, none⟩ = false))
/-- A slice reads as a list. -/
def SliceOn (fr : Bool) (w : World) (S : Nat → Prop) (v : Value) (xs : List α) : Prop :=
  ∃ A c, v = .slice A xs.length c ∧ xs.length ≤ c ∧ c ≤ maxLen ∧ AtOn r fr w S A xs
def SliceAt (fr : Bool) (w : World) (lo hi : Nat) (A : Option Addr) (xs : List α) : Prop := AtOn r fr w (rng lo hi) A xs
def SliceIs (fr : Bool) (w : World) (lo hi : Nat) (v : Value) (xs : List α) : Prop := ∃ A c, v = .slice A xs.length c ∧ xs.length ≤ c ∧ c ≤ maxLen ∧ SliceAt r fr w lo hi A xs
end
section
variable {α : Type} {r : Rep α} {fr : Bool} {w w' : World} {S S' : Nat → Prop} {lo hi lo' hi' : Nat} {A : Option Addr} {v : Value} {xs : List α}
theorem SliceIs.on (h : SliceIs r fr w lo hi v xs) : SliceOn r fr w (rng lo hi) v xs := h
theorem SliceOn.is_ (h : SliceOn r fr w (rng lo hi) v xs) : SliceIs r fr w lo hi v xs := h
theorem frozen_of_block {w w' : World} {g o : Nat} (h : w'.heap[g]? = w.heap[g]?) : w'.frozen? ⟨g, o, none⟩ = w.frozen? ⟨g, o, none⟩ := by
  simp only [World.frozen?, h]
theorem cell_of_block {w w' : World} {g o : Nat} (h : w'.heap[g]? = w.heap[g]?) : w'.cell? ⟨g, o, none⟩ = w.cell? ⟨g, o, none⟩ := World.cell?_of_block h
theorem AtOn.keep (h : AtOn r fr w S A xs) (hk : ∀ b, S b → w'.heap[b]? = w.heap[b]?) : AtOn r fr w' S A xs := by
  obtain ⟨cells, h1, h2⟩ := h
  refine ⟨cells, Rep.all_keep hk h1, fun hn => ?_⟩
  obtain ⟨g, o, rfl, h3, h5⟩ := h2 hn
  refine ⟨g, o, rfl, h3, fun j u hj => ?_⟩
  have hb := hk g h3
  rw [cell_of_block hb, frozen_of_block hb]
  exact h5 j u hj
theorem AtOn.widen (h : AtOn r fr w S A xs) (h1 : ∀ b, S b → S' b) : AtOn r fr w S' A xs := by
  obtain ⟨cells, h3, h4⟩ := h
  refine ⟨cells, Rep.all_widen h1 h3, fun hn => ?_⟩
  obtain ⟨g, o, rfl, h5, h7⟩ := h4 hn
  exact ⟨g, o, rfl, h1 _ h5, h7⟩
theorem AtOn.soft (h : AtOn r fr w S A xs) : AtOn r false w S A xs := by
  obtain ⟨cells, h3, h4⟩ := h
  refine ⟨cells, Rep.all_soft h3, fun hn => ?_⟩
  obtain ⟨g, o, rfl, h5, h7⟩ := h4 hn
  exact ⟨g, o, rfl, h5, fun j u hj => ⟨(h7 j u hj).1, fun h => by cases h⟩⟩
theorem SliceOn.keep (h : SliceOn r fr w S v xs) (hk : ∀ b, S b → w'.heap[b]? = w.heap[b]?) : SliceOn r fr w' S v xs := by
  obtain ⟨A, c, h1, h2, h3, h4⟩ := h
  exact ⟨A, c, h1, h2, h3, h4.keep hk⟩
theorem SliceOn.widen (h : SliceOn r fr w S v xs) (h1 : ∀ b, S b → S' b) : SliceOn r fr w S' v xs := by
  obtain ⟨A, c, h3, h4, h5, h6⟩ := h
  exact ⟨A, c, h3, h4, h5, h6.widen h1⟩
theorem SliceOn.soft (h : SliceOn r fr w S v xs) : SliceOn r false w S v xs := by
  obtain ⟨A, c, h3, h4, h5, h6⟩ := h
  exact ⟨A, c, h3, h4, h5, h6.soft⟩
theorem SliceOn.none_ : SliceOn r fr w S (.slice none 0 0) [] := ⟨none, 0, rfl, Nat.le_refl _, by unfold maxLen; omega, [], rfl, fun h => absurd h (by simp)⟩
theorem SliceAt.keep (h : SliceAt r fr w lo hi A xs) (hk : ∀ b, lo ≤ b → b < hi → w'.heap[b]? = w.heap[b]?) : SliceAt r fr w' lo hi A xs := AtOn.keep h fun b hb => hk b hb.1 hb.2
theorem SliceAt.widen (h : SliceAt r fr w lo hi A xs) (h1 : lo' ≤ lo) (h2 : hi ≤ hi') : SliceAt r fr w lo' hi' A xs := AtOn.widen h (rng_widen h1 h2)
theorem SliceAt.soft (h : SliceAt r fr w lo hi A xs) : SliceAt r false w lo hi A xs := AtOn.soft h
theorem SliceAt.below {B : Nat} (h : SliceAt r fr w lo hi A xs) (hb : Below B w w') (hB : hi ≤ B) : SliceAt r fr w' lo hi A xs := h.keep fun b _ h2 => hb.block b (by omega)
theorem AtOn.at_ {k : Nat} {x : α} (h : AtOn r fr w S A xs) (hx : xs[k]? = some x) :
    ∃ g o cs, A = some ⟨g, o, none⟩ ∧ S g ∧ r.is fr w S cs x ∧ ∀ j u, cs[j]? = some u → w.cell? ⟨g, o + (k * r.size + j), none⟩ = some u ∧ (fr = true → w.frozen? ⟨g, o + (k * r.size + j), none⟩ = false) := by
  obtain ⟨cells, h1, h2⟩ := h
  have hlt : k < xs.length := (List.getElem?_eq_some_iff.1 hx).1
  obtain ⟨g, o, rfl, h3, h5⟩ := h2 (by omega)
  obtain ⟨cs, h6, h7⟩ := Rep.all_at h1 hx
  exact ⟨g, o, cs, rfl, h3, h6, fun j u hj => h5 _ _ (h7 j u hj)⟩
theorem SliceIs.keep (h : SliceIs r fr w lo hi v xs) (hk : ∀ b, lo ≤ b → b < hi → w'.heap[b]? = w.heap[b]?) : SliceIs r fr w' lo hi v xs := by
  obtain ⟨A, c, h1, h2, h3, h4⟩ := h
  exact ⟨A, c, h1, h2, h3, h4.keep hk⟩
theorem SliceIs.below {B : Nat} (h : SliceIs r fr w lo hi v xs) (hb : Below B w w') (hB : hi ≤ B) : SliceIs r fr w' lo hi v xs := h.keep fun b _ h2 => hb.block b (by omega)
theorem SliceIs.widen (h : SliceIs r fr w lo hi v xs) (h1 : lo' ≤ lo) (h2 : hi ≤ hi') : SliceIs r fr w lo' hi' v xs := by
  obtain ⟨A, c, h3, h4, h5, h6⟩ := h
  exact ⟨A, c, h3, h4, h5, h6.widen h1 h2⟩
theorem SliceIs.soft (h : SliceIs r fr w lo hi v xs) : SliceIs r false w lo hi v xs := by
  obtain ⟨A, c, h3, h4, h5, h6⟩ := h
  exact ⟨A, c, h3, h4, h5, h6.soft⟩
theorem SliceIs.none_ : SliceIs r fr w lo hi (.slice none 0 0) [] := ⟨none, 0, rfl, Nat.le_refl _, by unfold maxLen; omega, [], rfl, fun h => absurd h (by simp)⟩
theorem SliceIs.nil_any (A : Option Addr) (c : Nat) (hc : c ≤ maxLen) : SliceIs r fr w lo hi (.slice A 0 c) [] := ⟨A, c, rfl, Nat.zero_le _, hc, [], rfl, fun h => absurd h (by simp)⟩
/-- A cut 's[:k]'. -/
theorem AtOn.take (k : Nat) (h : AtOn r fr w S A xs) : AtOn r fr w S A (xs.take k) := by
  obtain ⟨cells, h3, h4⟩ := h
  refine ⟨cells.take (k * r.size), Rep.all_take k h3, fun hn => ?_⟩
  obtain ⟨g, o, rfl, h5, h7⟩ := h4 (by simp at hn; omega)
  refine ⟨g, o, rfl, h5, fun j u hj => h7 j u ?_⟩
  rw [List.getElem?_take] at hj
  split at hj
  · exact hj
  · cases hj
theorem SliceAt.take (k : Nat) (h : SliceAt r fr w lo hi A xs) : SliceAt r fr w lo hi A (xs.take k) := AtOn.take k h
/-- What a row of the call's own reads as. -/
theorem SliceOn.of_own {base : Nat} {e : TypeId} {cells : List Value} (h : w.ownsRow base e r.size v xs.length cells) (ha : r.all fr w S cells xs) (hS : ∀ g, v.ownBlock = some g → S g) : SliceOn r fr w S v xs := by
  obtain ⟨hlen, h0 | ⟨g, cap, cur, rfl, hg, hh, hnc, hcm, hsz, htake⟩⟩ := h
  · obtain ⟨rfl, h3⟩ := h0
    have : xs = [] := List.eq_nil_of_length_eq_zero (by omega)
    subst this
    exact SliceOn.none_
  · have hown : w.ownsRow base e r.size (.slice (some ⟨g, 0, none⟩) xs.length cap) xs.length cells := ⟨hlen, .inr ⟨g, cap, cur, rfl, hg, hh, hnc, hcm, hsz, htake⟩⟩
    refine ⟨_, cap, rfl, hnc, hcm, cells, ha, fun _ => ⟨g, 0, rfl, hS g rfl, fun j u hj => ?_⟩⟩
    have := hown.cells (g := g) rfl j u hj
    rw [Nat.zero_add]
    have e : (⟨g, 0, none⟩ : Addr).add j = ⟨g, j, none⟩ := by
      unfold Addr.add
      split
      · subst_vars; rfl
      · simp
    rw [e] at this
    refine ⟨this, fun _ => ?_⟩
    simp [World.frozen?, hh]
theorem SliceIs.of_own {base : Nat} {e : TypeId} {cells : List Value} (h : w.ownsRow base e r.size v xs.length cells) (ha : r.all fr w (rng lo hi) cells xs) (h1 : lo ≤ base) (h2 : w.heap.size ≤ hi) : SliceIs r fr w lo hi v xs :=
  SliceOn.of_own h ha fun g hg => ⟨Nat.le_trans h1 (h.lt g hg).1, Nat.lt_of_lt_of_le (h.lt g hg).2 h2⟩
end

/-- A number. -/
def Rep.int : Rep Int where
  size := 1
  pos := by omega
  is _ _ _ cs a := cs = [.int .i64 a]
  len h := by rw [h]; rfl
  keep h _ := h
  widen h _ := h
  soft h := h
  one h := by rw [h]; intro u hu; simp at hu; subst hu; rfl
/-- A message. -/
def Rep.msg : Rep (Int × Int) where
  size := 2
  pos := by omega
  is _ _ _ cs a := cs = [.int .i64 a.1, .int .i64 a.2]
  len h := by rw [h]; rfl
  keep h _ := h
  widen h _ := h
  soft h := h
  one h := by rw [h]; intro u hu; simp at hu; rcases hu with rfl | rfl <;> rfl
/-- A list of what can be read. -/
def Rep.slice {α : Type} (r : Rep α) : Rep (List α) where
  size := 1
  pos := by omega
  is fr w S cs a := ∃ v, cs = [v] ∧ SliceOn r fr w S v a
  len h := by obtain ⟨v, rfl, _⟩ := h; rfl
  keep h hk := by obtain ⟨v, rfl, h⟩ := h; exact ⟨v, rfl, h.keep hk⟩
  widen h h1 := by obtain ⟨v, rfl, h⟩ := h; exact ⟨v, rfl, h.widen h1⟩
  soft h := by obtain ⟨v, rfl, h⟩ := h; exact ⟨v, rfl, h.soft⟩
  one h := by
    obtain ⟨v, rfl, A, c, rfl, _⟩ := h
    intro u hu; simp at hu; subst hu; rfl

section
variable {fr : Bool} {w : World} {lo hi k : Nat} {A : Option Addr}
theorem SliceAt.int {xs : List Int} {x : Int} (h : SliceAt Rep.int fr w lo hi A xs) (hx : xs[k]? = some x) :
    ∃ g o, A = some ⟨g, o, none⟩ ∧ lo ≤ g ∧ g < hi ∧ w.cell? ⟨g, o + k, none⟩ = some (.int .i64 x) := by
  obtain ⟨g, o, cs, rfl, h1, h3, h4⟩ := AtOn.at_ h hx
  have h3' : cs = [.int .i64 x] := h3
  subst h3'
  have := (h4 0 _ rfl).1
  exact ⟨g, o, rfl, h1.1, h1.2, by simpa [Rep.int] using this⟩
theorem SliceAt.msg {xs : List (Int × Int)} {x : Int × Int} (h : SliceAt Rep.msg fr w lo hi A xs) (hx : xs[k]? = some x) :
    ∃ g o, A = some ⟨g, o, none⟩ ∧ lo ≤ g ∧ g < hi ∧ w.cell? ⟨g, o + k * 2, none⟩ = some (.int .i64 x.1) ∧ w.cell? ⟨g, o + k * 2 + 1, none⟩ = some (.int .i64 x.2) := by
  obtain ⟨g, o, cs, rfl, h1, h3, h4⟩ := AtOn.at_ h hx
  have h3' : cs = [.int .i64 x.1, .int .i64 x.2] := h3
  subst h3'
  have e0 := (h4 0 _ rfl).1
  have e1 := (h4 1 _ rfl).1
  exact ⟨g, o, rfl, h1.1, h1.2, by simpa [Rep.msg] using e0, by simpa [Rep.msg, Nat.add_assoc] using e1⟩
theorem SliceAt.row {α : Type} {r : Rep α} {xs : List (List α)} {x : List α} (h : SliceAt r.slice fr w lo hi A xs) (hx : xs[k]? = some x) :
    ∃ g o v, A = some ⟨g, o, none⟩ ∧ lo ≤ g ∧ g < hi ∧ w.cell? ⟨g, o + k, none⟩ = some v ∧ SliceIs r fr w lo hi v x := by
  obtain ⟨g, o, cs, rfl, h1, ⟨v, rfl, h3⟩, h4⟩ := AtOn.at_ h hx
  have := (h4 0 _ rfl).1
  exact ⟨g, o, v, rfl, h1.1, h1.2, by simpa [Rep.slice] using this, h3⟩
end
end Go.Proofs.Ytkkbblpofhenpaa

/- piece.within, piece.rising, slices.ContainsFunc over numbers. -/
namespace Go.Proofs.Ytkkbblpofhenpaa
open Go.RowKit

theorem pwithin_any (n m : Int) (w : World) : Calls Try.prog 84 #[.int .i64 n, .int .i64 m] w fun x w' => x = .returned (.bool (Pc.within n 0 m)) ∧ w = w' := by
  generalize hb : Pc.within n 0 m = b
  have HB := Lib.hid hb; clear hb
  by_cases h0 : 0 ≤ n
  · by_cases h1 : n ≤ m
    · go_enter Try.func84, Try.ntmps84
      go_wp2_with fail
      go_ret
      exact ⟨by rw [← HB.out, Pc.within_yes ⟨h0, h1⟩]; rfl, rfl⟩
    · go_enter Try.func84, Try.ntmps84
      go_wp2_with fail
      go_ret
      exact ⟨by rw [← HB.out, Pc.within_no (by omega)]; rfl, rfl⟩
  · go_enter Try.func84, Try.ntmps84
    go_wp2_with fail
    go_ret
    exact ⟨by rw [← HB.out, Pc.within_no (by omega)]; rfl, rfl⟩
theorem pwithin_yes (n m : Int) (h : 0 ≤ n ∧ n ≤ m) (w : World) : Calls Try.prog 84 #[.int .i64 n, .int .i64 m] w fun x w' => x = .returned (.bool true) ∧ w = w' := by
  have := pwithin_any n m w; rwa [Pc.within_yes h] at this
theorem pwithin_no (n m : Int) (h : ¬ (0 ≤ n ∧ n ≤ m)) (w : World) : Calls Try.prog 84 #[.int .i64 n, .int .i64 m] w fun x w' => x = .returned (.bool false) ∧ w = w' := by
  have := pwithin_any n m w; rwa [Pc.within_no h] at this

def RisRel (ms : List (Int × Int)) (w : World) (k : Nat) (last i : Value) (wr : World) : Prop :=
  ∃ (j : Nat) (lv : Int), i = .int .i64 (j : Int) ∧ j ≤ ms.length ∧ k = ms.length - j ∧ last = .int .i64 lv ∧ Pc.rising 0 ms = Pc.rising lv (ms.drop j) ∧ Below w.heap.size w wr

set_option maxRecDepth 100000 in
set_option maxHeartbeats 1000000 in
theorem rising_any (v : Value) (ms : List (Int × Int)) (w : World) (h : SliceIs Rep.msg false w 0 w.heap.size v ms) : Calls Try.prog 85 #[v] w
    fun x w' => x = .returned (.bool (Pc.rising 0 ms)) ∧ Below w.heap.size w w' := by
  obtain ⟨A, c, rfl, hl, hm, hA⟩ := h
  unfold maxLen at hm
  go_enter Try.func85, Try.ntmps85
  go_wp2_with fail
  go_loopg [3, 5, 8] ms.length (fun k last _ i wr => RisRel ms w k last i wr)
  case atStart => exact ⟨0, 0, rfl, by omega, by omega, rfl, rfl, Below.refl _ _⟩
  case round =>
    obtain ⟨j, lv, rfl, hj, hk, rfl, hr, hb⟩ := hrel
    have HR := Lib.hid hr; clear hr
    have HK := Lib.hid hk; clear hk
    by_cases hlt : j < ms.length
    · obtain ⟨⟨s, l⟩, hx⟩ := Pc.get_at hlt
      obtain ⟨g, o, rfl, _, hg, c0, c1⟩ := (hA.below hb (Nat.le_refl _)).msg hx
      rw [Pc.drop_at hx] at HR
      have HX := Lib.hid hx; clear hx
      dsimp only at c0 c1
      clear hA
      by_cases q1 : lv < s
      · by_cases q2 : s ≤ 500
        · by_cases q3 : 0 ≤ l ∧ l ≤ 3
          · go_wp2_with fail
            refine (pwithin_yes _ _ q3 _).mono ?_
            rintro e w1 ⟨rfl, rfl⟩
            go_wp2_with fail
            go_roundg (ms.length - (j + 1))
            case rel => exact ⟨j + 1, s, by simp, by omega, rfl, rfl, by rw [HR.out, Pc.rising_yes ⟨q1, q2, q3⟩], hb.alloc hb.size _⟩
            case measure => have := HK.out; omega
          · go_wp2_with fail
            refine (pwithin_no _ _ q3 _).mono ?_
            rintro e w1 ⟨rfl, rfl⟩
            go_wp2_with fail
            go_ret
            exact ⟨by rw [HR.out, Pc.rising_no (fun h => q3 h.2.2)]; rfl, hb.alloc hb.size _⟩
        · go_wp2_with fail
          go_ret
          exact ⟨by rw [HR.out, Pc.rising_no (by dsimp only; omega)]; rfl, hb.alloc hb.size _⟩
      · go_wp2_with fail
        go_ret
        exact ⟨by rw [HR.out, Pc.rising_no (by dsimp only; omega)]; rfl, hb.alloc hb.size _⟩
    · go_wp2_with fail
      go_ret
      exact ⟨by rw [HR.out, List.drop_eq_nil_of_le (by omega)]; rfl, hb⟩

set_option maxRecDepth 100000 in
set_option maxHeartbeats 1000000 in
theorem indexInts_any (F : Nat) (hE : ∀ (args : Array Value) (w : World), (callFunc F args).run Try.prog w = .ok (.enter F args) w) (b : Int → Bool) (hF : ∀ n w, Calls Try.prog F #[.int .i64 n] w fun x w' => x = .returned (.bool (b n)) ∧ w = w') (v : Value) (xs : List Int) (w : World) (h : SliceIs Rep.int false w 0 w.heap.size v xs) :
    Calls Try.prog 118 #[v, .func (.func F) #[] #[]] w fun x w' => x = .returned (.int .i64 (Pc.idx b xs)) ∧ Below w.heap.size w w' := by
  obtain ⟨A, c, rfl, hl, hm, hA⟩ := h
  unfold maxLen at hm
  have HF := Lib.hid hF; clear hF
  go_enter Try.func118, Try.ntmps118
  go_wp2_with fail
  go_loopg [5, 8] xs.length (fun k _ i wr => ∃ j : Nat, i = .int .i64 (j : Int) ∧ j ≤ xs.length ∧ k = xs.length - j ∧ Pc.clear b xs j ∧ Below w.heap.size w wr)
  case atStart => exact ⟨0, rfl, by omega, by omega, Pc.clear_zero _ _, Below.refl _ _⟩
  case round =>
    obtain ⟨j, rfl, hj, hk, hr, hb⟩ := hrel
    have HR := Lib.hid hr; clear hr
    have HK := Lib.hid hk; clear hk
    by_cases hlt : j < xs.length
    · obtain ⟨x, hx⟩ := Pc.get_at hlt
      obtain ⟨g, o, rfl, _, hg, c0⟩ := (hA.below hb (Nat.le_refl _)).int hx
      have HX := Lib.hid hx; clear hx
      clear hA
      go_wp2_with fail
      refine (HF.out _ _).mono ?_
      rintro e w1 ⟨rfl, rfl⟩
      cases hbx : b x
      · have HB := Lib.hid hbx; clear hbx
        go_wp2_with fail
        go_roundg (xs.length - (j + 1))
        case rel => exact ⟨j + 1, by simp, by omega, rfl, Pc.clear_next HR.out HX.out HB.out, hb⟩
        case measure => have := HK.out; omega
      · have HB := Lib.hid hbx; clear hbx
        go_wp2_with fail
        go_ret
        exact ⟨by rw [Pc.clear_at HR.out HX.out HB.out]; rfl, hb⟩
    · go_wp2_with fail
      go_ret
      have hj2 : j = xs.length := by omega
      subst hj2
      exact ⟨by rw [Pc.clear_all HR.out]; rfl, hb⟩

set_option maxRecDepth 100000 in
theorem containsInts_any (F : Nat) (hE : ∀ (args : Array Value) (w : World), (callFunc F args).run Try.prog w = .ok (.enter F args) w) (b : Int → Bool) (hF : ∀ n w, Calls Try.prog F #[.int .i64 n] w fun x w' => x = .returned (.bool (b n)) ∧ w = w') (v : Value) (xs : List Int) (w : World) (h : SliceIs Rep.int false w 0 w.heap.size v xs) :
    Calls Try.prog 87 #[v, .func (.func F) #[] #[]] w fun x w' => x = .returned (.bool (xs.any b)) ∧ Below w.heap.size w w' := by
  have hi := fun w h => indexInts_any F hE b hF v xs w h
  have hg := Pc.idx_ge b xs
  generalize Pc.idx b xs = i at hi hg
  have HI := Lib.hid hi; clear hi
  rw [← hg.2]
  clear hg
  go_enter Try.func87, Try.ntmps87
  go_wp2_with fail
  refine (HI.out _ h).mono ?_
  rintro e w1 ⟨rfl, hb⟩
  go_wp2_with fail
  go_ret
  exact ⟨rfl, hb⟩
end Go.Proofs.Ytkkbblpofhenpaa
