/- Layer 1, plain: what is got is what was put, and the other way round. -/
import Derived.Test.YtmbilaepeekglaaWLaw2
namespace Go.Proofs.Ytmbilaepeekglaa.W

theorem mul_lt_pow {m k : Nat} (h : m < 128 ^ (k + 1 + 1)) : m / 128 < 128 ^ (k + 1) := by
  rw [Nat.pow_succ] at h; omega

/-- A number is read as it was put, whatever stands behind. -/
theorem rd_enc (t : List UInt8) : ∀ (k m i n : Nat), i + k ≤ 4 → m < 128 ^ (k + 1) → n + m * 128 ^ i ≤ 2147483647 → (0 < m ∨ i = 0) → rd (encF k m ++ t) i n = .ok (n + m * 128 ^ i) (i + (encF k m).length) := by
  have last : ∀ (m i n : Nat), m < 128 → n + m * 128 ^ i ≤ 2147483647 → (0 < m ∨ i = 0) → rd ([UInt8.ofNat m] ++ t) i n = .ok (n + m * 128 ^ i) (i + 1) := by
    intro m i n hm ht h0
    have e : (UInt8.ofNat m).toNat = m := by simp; omega
    rw [List.singleton_append]
    refine rd_ok (c := UInt8.ofNat m) (x := m) rfl e.symm ?_ ht hm h0
    rw [Nat.mod_eq_of_lt hm]
  intro k
  induction k with
  | zero => intro m i n hi hm ht h0; exact last m i n (by simpa using hm) ht h0
  | succ k ih =>
    intro m i n hi hm ht h0
    by_cases hlt : m < 128
    · rw [encF, if_pos hlt]; exact last m i n hlt ht h0
    · rw [encF, if_neg hlt, List.cons_append]
      have e : (UInt8.ofNat (m % 128 + 128)).toNat = m % 128 + 128 := by simp; omega
      have e2 : m % 128 * 128 ^ i + m / 128 * 128 ^ (i + 1) = m * 128 ^ i := by
        rw [Nat.pow_succ, ← Nat.mul_assoc, Nat.mul_right_comm, ← Nat.add_mul]
        congr 1; omega
      have hle : m % 128 * 128 ^ i ≤ m * 128 ^ i := Nat.mul_le_mul_right _ (by omega)
      rw [rd_more (c := UInt8.ofNat (m % 128 + 128)) (x := m % 128 + 128) (m := n + m % 128 * 128 ^ i) rfl e.symm (by congr 2; omega) (by omega) (by omega) (by omega)]
      rw [ih (m / 128) (i + 1) _ (by omega) (mul_lt_pow hm) (by omega) (.inl (by omega))]
      rw [Nat.add_assoc n, e2]
      simp [List.length_cons]; omega

theorem rd_put (n : Int) (t : List UInt8) : rd (put n ++ t) 0 0 = .ok (cl n) (put n).length := by
  have h := rd_enc t 4 (cl n) 0 0 (by omega) (by have := cl_le n; omega) (by have := cl_le n; omega) (.inr rfl)
  simpa [put] using h

/-- Without some of its last bytes a number ends too early. -/
theorem rd_cut : ∀ (k m i n j : Nat), i + k ≤ 4 → m < 128 ^ (k + 1) → n + m * 128 ^ i ≤ 2147483647 → j < (encF k m).length → rd ((encF k m).take j) i n = .bad 5 := by
  intro k
  induction k with
  | zero => intro m i n j _ _ _ hj; simp [encF] at hj; subst hj; simp [rd]
  | succ k ih =>
    intro m i n j hi hm ht hj
    by_cases hlt : m < 128
    · rw [encF, if_pos hlt] at hj ⊢; simp at hj; subst hj; simp [rd]
    · rw [encF, if_neg hlt] at hj ⊢
      cases j with
      | zero => simp [rd]
      | succ j =>
        have e : (UInt8.ofNat (m % 128 + 128)).toNat = m % 128 + 128 := by simp; omega
        have e2 : m % 128 * 128 ^ i + m / 128 * 128 ^ (i + 1) = m * 128 ^ i := by
          rw [Nat.pow_succ, ← Nat.mul_assoc, Nat.mul_right_comm, ← Nat.add_mul]
          congr 1; omega
        have hle : m % 128 * 128 ^ i ≤ m * 128 ^ i := Nat.mul_le_mul_right _ (by omega)
        rw [List.take_succ_cons]
        rw [rd_more (c := UInt8.ofNat (m % 128 + 128)) (x := m % 128 + 128) (m := n + m % 128 * 128 ^ i) rfl e.symm (by congr 2; omega) (by omega) (by omega) (by omega)]
        exact ih (m / 128) (i + 1) _ j (by omega) (mul_lt_pow hm) (by omega) (by simpa using hj)

theorem rd_put_cut (n : Int) (j : Nat) (h : j < (put n).length) : rd ((put n).take j) 0 0 = .bad 5 :=
  rd_cut 4 (cl n) 0 0 j (by omega) (by have := cl_le n; omega) (by have := cl_le n; omega) h

/-- What is read as a number is just that number's bytes. -/
theorem rd_canon : ∀ (l : List UInt8) (i n m j : Nat), i ≤ 4 → rd l i n = .ok m j → ∃ q, m = n + q * 128 ^ i ∧ l.take (j - i) = encF (4 - i) q ∧ (0 < q ∨ i = 0) := by
  intro l
  induction l with
  | nil => intro i n m j _ h; simp [rd] at h
  | cons c t ih =>
    intro i n m j hi h
    have hc : c.toNat < 256 := c.toNat_lt
    simp only [rd] at h
    split at h
    · rename_i h1
      split at h
      · rename_i h2
        split at h
        · rename_i h3
          injection h with h4 h5
          refine ⟨c.toNat, ?_, ?_, by omega⟩
          · rw [← h4, Nat.mod_eq_of_lt h2]
          · rw [← h5, show i + 1 - i = 1 from by omega]
            have : UInt8.ofNat c.toNat = c := by simp
            cases hk : 4 - i <;> simp [encF, h2]
        · cases h
      · rename_i h2
        have hi' : i + 1 ≤ 4 := by omega
        obtain ⟨q, hq, ht, h0⟩ := ih _ _ _ _ hi' h
        have hp := rd_pos _ _ _ _ _ h
        have h0' : 0 < q := by omega
        have em : (c.toNat % 128 + q * 128) / 128 = q := by omega
        have em2 : (c.toNat % 128 + q * 128) % 128 + 128 = c.toNat := by omega
        refine ⟨c.toNat % 128 + q * 128, ?_, ?_, by omega⟩
        · rw [hq, Nat.pow_succ, Nat.add_mul]
          have : q * 128 * 128 ^ i = q * (128 ^ i * 128) := by rw [Nat.mul_assoc, Nat.mul_comm 128]
          omega
        · obtain ⟨d, hd⟩ : ∃ d, j - i = d + 1 := ⟨j - i - 1, by omega⟩
          obtain ⟨k, hk⟩ : ∃ k, 4 - i = k + 1 := ⟨4 - i - 1, by omega⟩
          rw [hd, List.take_succ_cons, hk, encF, if_neg (by omega), em, em2]
          congr 1
          · simp
          · rw [show d = j - (i + 1) from by omega, ht, show 4 - (i + 1) = k from by omega]
    · cases h

theorem rd_once {l : List UInt8} {m j : Nat} (h : rd l 0 0 = .ok m j) : put m = l.take j := by
  obtain ⟨q, hq, ht, _⟩ := rd_canon l 0 0 m j (by omega) h
  have hp := rd_pos _ _ _ _ _ h
  have : cl (m : Int) = q := by unfold cl; simp at hq; omega
  simp only [put, this]
  simpa using ht.symm

theorem all_put (n : Int) (t : List UInt8) : all (put n ++ t) = (all t).pre [cl n] := by
  rw [all_ok (rd_put n t), List.drop_left]

theorem all_puts (l : List Int) : ∀ t, all (puts l ++ t) = (all t).pre (l.map cl) := by
  induction l with
  | nil => intro t; simp [puts, Alls.pre_nil]
  | cons a l ih =>
    intro t
    have : puts (a :: l) ++ t = put a ++ (puts l ++ t) := by simp [puts]
    rw [this, all_put, ih, Alls.pre_pre]
    simp

theorem all_once : ∀ (k : Nat) (l : List UInt8) (r : List Nat), l.length ≤ k → all l = .ok r → puts (r.map (fun (n : Nat) => (n : Int))) = l := by
  intro k
  induction k with
  | zero =>
    intro l r hl h
    have : l = [] := List.eq_nil_of_length_eq_zero (by omega)
    subst this
    rw [all_nil] at h; injection h with h; subst h; rfl
  | succ k ih =>
    intro l r hl h
    cases hr : rd l 0 0 with
    | bad e =>
      by_cases hn : l = []
      · subst hn; rw [all_nil] at h; injection h with h; subst h; rfl
      · rw [all_bad hn hr] at h; cases h
    | ok n i =>
      have hp := rd_pos _ _ _ _ _ hr
      rw [all_ok hr] at h
      cases hd : all (l.drop i) with
      | bad e => rw [hd] at h; cases h
      | ok r' =>
        rw [hd] at h
        simp only [Alls.pre] at h
        injection h with h
        subst h
        have h2 := ih (l.drop i) r' (by simp; omega) hd
        simp only [List.singleton_append, List.map_cons, puts, List.flatMap_cons]
        rw [rd_once hr]
        have h3 : (List.map (fun (n : Nat) => (n : Int)) r').flatMap put = l.drop i := h2
        rw [h3, List.take_append_drop]

theorem put_inj {a b : Int} (t : List UInt8) (h : put a = put b ++ t) : cl a = cl b := by
  have h1 := rd_put a []
  rw [List.append_nil, h, rd_put b t] at h1
  injection h1 with h1 _
  exact h1.symm

/-- As many bytes as sevens of bits. -/
theorem encF_size : ∀ (k m : Nat), (encF k m).length = 1 + (if m < 128 ∨ k = 0 then 0 else (encF (k - 1) (m / 128)).length) := by
  intro k m
  cases k with
  | zero => simp [encF]
  | succ k => by_cases h : m < 128 <;> simp [encF, h]; omega
theorem encF_mono : ∀ (k m n : Nat), m ≤ n → (encF k m).length ≤ (encF k n).length := by
  intro k
  induction k with
  | zero => intro m n _; simp [encF]
  | succ k ih =>
    intro m n h
    simp only [encF]
    by_cases h1 : m < 128
    · rw [if_pos h1]; have := (encF_len (k + 1) n).2; simp only [encF] at this; simpa using this
    · rw [if_neg h1, if_neg (by omega)]; simp; exact ih _ _ (by omega)
theorem put_mono {a b : Int} (h : a ≤ b) : (put a).length ≤ (put b).length := encF_mono 4 _ _ (by unfold cl; omega)
end Go.Proofs.Ytmbilaepeekglaa.W
