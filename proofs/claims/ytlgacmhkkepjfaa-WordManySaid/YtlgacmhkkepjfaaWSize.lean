/- WordSize: the walk. -/
import Derived.Test.YtlgacmhkkepjfaaWApart
namespace Go.Proofs.Ytlgacmhkkepjfaa
namespace wordSize
open Go.RowKit

def Rel (X len : Nat) (k : Nat) (vn vt vi : Value) : Prop :=
  ∃ j m t : Nat, vn = .int .i64 (m : Int) ∧ vt = .int .i64 (t : Int) ∧ vi = .int .i64 (j : Int) ∧ j ≤ 4 ∧ k = 4 - j ∧ m = 1 + j ∧ t = 128 ^ (j + 1) ∧ len = j + (W.encF (4 - j) (X / 128 ^ j)).length

theorem t_le {j t : Nat} (ht : t = 128 ^ (j + 1)) (hj : j ≤ 4) : t ≤ 34359738368 := by
  have h5 : j = 0 ∨ j = 1 ∨ j = 2 ∨ j = 3 ∨ j = 4 := by omega
  rcases h5 with rfl | rfl | rfl | rfl | rfl <;> simp at ht <;> omega

theorem start (X len : Nat) (h : len = (W.encF 4 X).length) : Rel X len 4 (.int .i64 1) (.int .i64 128) (.int .i64 0) :=
  ⟨0, 1, 128, rfl, rfl, rfl, by omega, rfl, rfl, rfl, by simpa using h⟩

theorem round {X len j m t : Nat} (hX : X ≤ 2147483647) (hj : j ≤ 4) (hm : m = 1 + j) (ht : t = 128 ^ (j + 1)) (hl : len = j + (W.encF (4 - j) (X / 128 ^ j)).length) (h : t ≤ X) :
    j + 1 ≤ 4 ∧ Rel X len (4 - (j + 1)) (.int .i64 ((m : Int) + 1)) (.int .i64 ((t : Int) * 128)) (.int .i64 ((j : Int) + 1)) := by
  have hj' : j + 1 ≤ 4 := by
    rcases Nat.lt_or_ge j 4 with h4 | h4
    · omega
    · have : j = 4 := by omega
      subst this; simp at ht; omega
  refine ⟨hj', j + 1, m + 1, t * 128, rfl, by simp, rfl, hj', rfl, by omega, by rw [ht, Nat.pow_succ _ (j + 1)], ?_⟩
  obtain ⟨k, hk⟩ : ∃ k, 4 - j = k + 1 := ⟨4 - j - 1, by omega⟩
  rw [hl, hk, W.encF]
  have hge : ¬ X / 128 ^ j < 128 := by
    rw [ht, Nat.pow_succ] at h
    have : 128 ≤ X / 128 ^ j := (Nat.le_div_iff_mul_le (Nat.pow_pos (by omega))).2 (by rw [Nat.mul_comm]; exact h)
    omega
  rw [if_neg hge, List.length_cons, show 4 - (j + 1) = k from by omega, Nat.pow_succ, Nat.div_div_eq_div_mul]
  omega

theorem done {X len j m t : Nat} (hm : m = 1 + j) (ht : t = 128 ^ (j + 1)) (hl : len = j + (W.encF (4 - j) (X / 128 ^ j)).length) (h : ¬ t ≤ X) : len = m := by
  have hlt : X / 128 ^ j < 128 := by
    rw [ht, Nat.pow_succ] at h
    exact (Nat.div_lt_iff_lt_mul (Nat.pow_pos (by omega))).2 (by rw [Nat.mul_comm]; omega)
  rw [hl, hm]
  cases hk : 4 - j <;> simp [W.encF, hlt] <;> omega

set_option maxRecDepth 100000 in
set_option maxHeartbeats 1000000 in
theorem walk (a0 : Int) (_ : (Lit.int .i64 a0).wf = true) (a1 : Int) (_ : (Lit.int .i64 a1).wf = true) (w : World) :
    Calls Try.prog 6 #[.int .i64 a0, .int .i64 a1] w fun e w' => e = .returned (.bool true) ∧ Below w.heap.size w w' := by
  obtain ⟨X, hX⟩ : ∃ X, X = W.cl a0 := ⟨_, rfl⟩
  have hXl : X ≤ 2147483647 := by rw [hX]; exact W.cl_le a0
  have hx : max 0 (min a0 2147483647) = (X : Int) := by rw [hX]; unfold W.cl; omega
  obtain ⟨len, hlen⟩ : ∃ len, len = (W.put a0).length := ⟨_, rfl⟩
  have hlen' : len = (W.encF 4 X).length := by rw [hlen, W.put, ← hX]
  have HX := Lib.hid hX; clear hX
  have HL := Lib.hid hlen; clear hlen
  have HL' := Lib.hid hlen'; clear hlen'
  go_enter Try.func6, Try.ntmps6
  go_wp2_with fail
  go_loopg [6, 7, 8] 4 (fun k vn vt vi wr => Rel X len k vn vt vi ∧ w = wr)
  case atStart => exact ⟨start X len HL'.out, rfl⟩
  case round =>
    obtain ⟨⟨j, m, t, rfl, rfl, rfl, hj, hk, hm, ht, hl⟩, rfl⟩ := hrel
    have htl := t_le ht hj
    have hml : m ≤ 5 := by omega
    have HM := Lib.hid hm; clear hm
    have HT := Lib.hid ht; clear ht
    have HK := Lib.hid hk; clear hk
    have HLL := Lib.hid hl; clear hl
    by_cases hge : t ≤ X
    · obtain ⟨hj', hr⟩ := round hXl hj HM.out HT.out HLL.out hge
      have HR := Lib.hid hr; clear hr
      go_wp2_with fail
      go_roundg (4 - (j + 1))
      case rel => exact ⟨HR.out, rfl⟩
      case measure => have := HK.out; omega
    · have hd := done HM.out HT.out HLL.out hge
      have HD := Lib.hid hd; clear hd
      have hs0 : (ByteArray.mk (W.put a0).toArray).size = m := by rw [size_bs, ← HL.out, HD.out]
      have hs1 : (ByteArray.mk (W.put a1).toArray).size ≤ 5 := by rw [size_bs]; exact (W.put_len a1).1
      obtain ⟨P, hP⟩ : ∃ P, P = ByteArray.mk (W.put a0).toArray := ⟨_, rfl⟩
      obtain ⟨Q, hQ⟩ : ∃ Q, Q = ByteArray.mk (W.put a1).toArray := ⟨_, rfl⟩
      rw [← hP] at hs0
      rw [← hQ] at hs1
      have hmn : a0 ≤ a1 → P.size ≤ Q.size := by rw [hP, hQ, size_bs, size_bs]; exact W.put_mono
      have HMN := Lib.hid hmn; clear hmn
      have HP := Lib.hid hP; clear hP
      have HQ := Lib.hid hQ; clear hQ
      have q1 : ((P.size : Int) == (m : Int)) = true := by rw [beq_iff_eq]; omega
      have HS0 := Lib.hid hs0; clear hs0
      by_cases hgt : a1 < a0
      · go_wp2_with fail
        refine (put_any _ _).mono ?_
        rintro e w1 ⟨rfl, hb1⟩
        rw [← HP.out]
        go_wp2_with fail
        refine (fixed_any _).mono ?_
        rintro e w4 ⟨rfl, hb4⟩
        go_wp2_with fail
        go_ret
        exact ⟨rfl, hb1.trans (hb4.mono hb1.size)⟩
      · have hle := HMN.out (by omega)
        go_wp2_with fail
        refine (put_any _ _).mono ?_
        rintro e w1 ⟨rfl, hb1⟩
        rw [← HP.out]
        go_wp2_with fail
        refine (put_any _ _).mono ?_
        rintro e w2 ⟨rfl, hb2⟩
        rw [← HP.out]
        go_wp2_with fail
        refine (put_any _ _).mono ?_
        rintro e w3 ⟨rfl, hb3⟩
        rw [← HQ.out]
        go_wp2_with fail
        refine (fixed_any _).mono ?_
        rintro e w4 ⟨rfl, hb4⟩
        go_wp2_with fail
        go_ret
        exact ⟨rfl, ((hb1.trans (hb2.mono hb1.size)).trans (hb3.mono (Nat.le_trans hb1.size hb2.size))).trans (hb4.mono (Nat.le_trans (Nat.le_trans hb1.size hb2.size) hb3.size))⟩
end wordSize
end Go.Proofs.Ytlgacmhkkepjfaa
