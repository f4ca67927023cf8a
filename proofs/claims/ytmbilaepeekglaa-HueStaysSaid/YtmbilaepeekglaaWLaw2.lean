/- Layer 1, plain: many numbers, texts, lengths. -/
import Derived.Test.YtmbilaepeekglaaWLaw
namespace Go.Proofs.Ytmbilaepeekglaa.W

def puts (l : List Int) : List UInt8 := l.flatMap put
theorem encF_len : ∀ k n, (encF k n).length ≤ k + 1 ∧ 1 ≤ (encF k n).length := by
  intro k
  induction k with
  | zero => intro n; simp [encF]
  | succ k ih => intro n; simp only [encF]; split <;> simp; have := (ih (n / 128)).1; omega
theorem put_len (n : Int) : (put n).length ≤ 5 ∧ 1 ≤ (put n).length := encF_len 4 _
theorem puts_len (l : List Int) : (puts l).length ≤ 5 * l.length := by
  induction l with
  | nil => simp [puts]
  | cons a l ih => simp [puts] at *; have := (put_len a).1; omega
theorem puts_snoc (l : List Int) (n : Int) : puts (l ++ [n]) = puts l ++ put n := by simp [puts]
theorem puts_append (l k : List Int) : puts (l ++ k) = puts l ++ puts k := by simp [puts]
theorem take_snoc (xs : List Int) (k : Nat) (hk : k < xs.length) : xs.take (k + 1) = xs.take k ++ [xs.getD k 0] := by
  rw [List.take_add_one, List.getElem?_eq_getElem hk]; simp [List.getD, hk]
def text (s : List UInt8) : List UInt8 := put s.length ++ s

theorem like_more {xs ys : List Int} {j : Nat} {x : Int} (hn : xs.length = ys.length) (hj : j < xs.length) (h : xs.take j = ys.take j) (hx : x = xs.getD j 0) (hy : x = ys.getD j 0) : xs.take (j + 1) = ys.take (j + 1) := by
  rw [take_snoc xs j hj, take_snoc ys j (by omega), h, ← hx, ← hy]
theorem like_not {xs ys : List Int} {j : Nat} {x y : Int} (hx : x = xs.getD j 0) (hy : y = ys.getD j 0) (h : ¬ x = y) : decide (xs = ys) = false := by
  rw [decide_eq_false_iff_not]; rintro rfl; exact h (hx.trans hy.symm)
theorem like_all {xs ys : List Int} {j : Nat} (hn : xs.length = ys.length) (hj : ¬ j < xs.length) (h : xs.take j = ys.take j) : decide (xs = ys) = true := by
  rw [decide_eq_true_eq]; rwa [List.take_of_length_le (by omega), List.take_of_length_le (by omega)] at h
end Go.Proofs.Ytmbilaepeekglaa.W
