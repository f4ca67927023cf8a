/- The piece of numbers: how it is read. No program in sight. -/
import Derived.Test.YtmbilaepeekglaaPLaw
namespace Go.Proofs.Ytmbilaepeekglaa.Pc

/-- The next number; 0 behind the end. -/
def nx : List Int → Int × List Int
  | [] => (0, [])
  | n :: t => (n, t)
/-- So many, each by 'one'. -/
def rep {α : Type} (one : List Int → α × List Int) : Nat → List Int → List α × List Int
  | 0, l => ([], l)
  | k + 1, l => ((one l).1 :: (rep one k (one l).2).1, (rep one k (one l).2).2)
/-- How many, at most. -/
def cnt (most : Int) (l : List Int) : Int × List Int := (min (nx l).1 most, (nx l).2)
def rmsg (l : List Int) : (Int × Int) × List Int := (((nx l).1, (nx (nx l).2).1), (nx (nx l).2).2)
def rin (l : List Int) : List (Int × Int) × List Int := rep rmsg (cnt 500 l).1.toNat (cnt 500 l).2
def rout (l : List Int) : List Int × List Int := rep nx (cnt 500 l).1.toNat (cnt 500 l).2
def rsent (l : List Int) : List Int × List Int := rep nx (cnt 5 l).1.toNat (cnt 5 l).2
def rins (l : List Int) : List (List (Int × Int)) × List Int := rep rin (cnt 5 l).1.toNat (cnt 5 l).2
def routs (l : List Int) : List (List Int) × List Int := rep rout (cnt 5 l).1.toNat (cnt 5 l).2
def rd (l0 : List Int) : Piece :=
  let l3 := (nx (nx (nx l0).2).2).2
  ⟨(nx l0).1, (nx (nx l0).2).1, (nx (nx (nx l0).2).2).1, (rsent l3).1, (rins (rsent l3).2).1, (routs (rins (rsent l3).2).2).1⟩

theorem rep_len {α : Type} (one : List Int → α × List Int) : ∀ (k : Nat) (l : List Int), (rep one k l).1.length = k := by
  intro k
  induction k with
  | zero => intro l; rfl
  | succ k ih => intro l; simp [rep, ih]
theorem rep_snoc {α : Type} (one : List Int → α × List Int) : ∀ (k : Nat) (l : List Int), rep one (k + 1) l = ((rep one k l).1 ++ [(one (rep one k l).2).1], (one (rep one k l).2).2) := by
  intro k
  induction k with
  | zero => intro l; rfl
  | succ k ih =>
    intro l
    have h : rep one (k + 1 + 1) l = ((one l).1 :: (rep one (k + 1) (one l).2).1, (rep one (k + 1) (one l).2).2) := rfl
    rw [h, ih]
    rfl
/-- All numbers are such as word.All gives. -/
def Nums (l : List Int) : Prop := ∀ x ∈ l, 0 ≤ x ∧ x ≤ 2147483647
theorem Nums.nx {l : List Int} (h : Nums l) : (0 ≤ (nx l).1 ∧ (nx l).1 ≤ 2147483647) ∧ Nums (Pc.nx l).2 := by
  cases l with
  | nil => exact ⟨by simp [Pc.nx], h⟩
  | cons x t => exact ⟨h x (by simp), fun y hy => h y (by simp [show y ∈ t from hy])⟩
theorem nx_len (l : List Int) : (nx l).2.length ≤ l.length := by cases l <;> simp [nx]

def zs (l : List Nat) : List Int := l.map (fun (n : Nat) => (n : Int))
/-- The piece of bytes; the zero piece, if they are none. -/
def isP (bs : List UInt8) (l : List Nat) : Bool := right (rd (zs l)) && decide (W.puts (nums (rd (zs l))) = bs)
def dec (bs : List UInt8) : Piece :=
  match W.all bs with
  | .bad _ => zero
  | .ok l => if isP bs l then rd (zs l) else zero
def decE (bs : List UInt8) : Int :=
  match W.all bs with
  | .bad _ => 4
  | .ok l => if isP bs l then 0 else 4
theorem dec_bad {bs : List UInt8} {e : Nat} (h : W.all bs = .bad e) : dec bs = zero ∧ decE bs = 4 := by simp [dec, decE, h]
theorem dec_no {bs : List UInt8} {l : List Nat} (h : W.all bs = .ok l) (hp : isP bs l = false) : dec bs = zero ∧ decE bs = 4 := by simp [dec, decE, h, hp]
theorem dec_yes {bs : List UInt8} {l : List Nat} (h : W.all bs = .ok l) (hp : isP bs l = true) : dec bs = rd (zs l) ∧ decE bs = 0 := by simp [dec, decE, h, hp]

theorem rd_err : ∀ (l : List UInt8) (i n e : Nat), W.rd l i n = .bad e → 1 ≤ e := by
  intro l
  induction l with
  | nil => intro i n e h; simp only [W.rd] at h; injection h with h; omega
  | cons c t ih =>
    intro i n e h
    simp only [W.rd] at h
    split at h
    · split at h
      · split at h
        · cases h
        · injection h with h; omega
      · exact ih _ _ _ h
    · injection h with h; omega
theorem all_err : ∀ (k : Nat) (l : List UInt8) (e : Nat), l.length ≤ k → W.all l = .bad e → 1 ≤ e := by
  intro k
  induction k with
  | zero =>
    intro l e hl h
    have : l = [] := List.eq_nil_of_length_eq_zero (by omega)
    subst this; rw [W.all_nil] at h; cases h
  | succ k ih =>
    intro l e hl h
    cases hr : W.rd l 0 0 with
    | bad e' =>
      by_cases hn : l = []
      · subst hn; rw [W.all_nil] at h; cases h
      · rw [W.all_bad hn hr] at h; injection h with h; subst h; exact rd_err _ _ _ _ hr
    | ok n i =>
      have hp := W.rd_pos _ _ _ _ _ hr
      rw [W.all_ok hr] at h
      cases hd : W.all (l.drop i) with
      | bad e' => rw [hd] at h; simp only [W.Alls.pre] at h; injection h with h; subst h; exact ih (l.drop i) _ (by simp; omega) hd
      | ok r' => rw [hd] at h; cases h
end Go.Proofs.Ytmbilaepeekglaa.Pc
