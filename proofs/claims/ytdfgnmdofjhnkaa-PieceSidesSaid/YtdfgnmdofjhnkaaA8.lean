/- The document's functions of layer 1: Get, All, Take. -/
import Derived.Test.YtdfgnmdofjhnkaaA7
namespace Go.Proofs.Ytdfgnmdofjhnkaa
open Go.RowKit

def RGetRel (l : List UInt8) (k : Nat) (vn vt vi : Value) : Prop :=
  ∃ i n t : Nat, i < 5 ∧ k = 5 - i ∧ vn = .int .i64 (n : Int) ∧ vt = .int .i64 (t : Int) ∧ vi = .int .i64 (i : Int) ∧ t = 128 ^ i ∧ n ≤ 2147483647 ∧ W.rd (l.drop i) i n = W.rd l 0 0

theorem pow_le {i t : Nat} (h : t = 128 ^ i) (hi : i < 5) : 1 ≤ t ∧ t ≤ 268435456 := by
  have h5 : i = 0 ∨ i = 1 ∨ i = 2 ∨ i = 3 ∨ i = 4 := by omega
  rcases h5 with rfl | rfl | rfl | rfl | rfl <;> simp_all
theorem mul_val {x t p n m : Nat} (ht : t ≤ 268435456) (hn : n ≤ 2147483647) (hp : p = x % 128 * t) (hm : m = n + p) :
    wrap64 ((x : Int) % 128 * (t : Int)) = (p : Int) ∧ wrap64 ((n : Int) + (p : Int)) = (m : Int) ∧ m ≤ 40000000000 := by
  have h1 : x % 128 * t ≤ 127 * 268435456 := Nat.mul_le_mul (by omega) ht
  have e : (x : Int) % 128 * (t : Int) = ((x % 128 * t : Nat) : Int) := by simp
  rw [e, ← hp]
  rw [← hp] at h1
  clear hp e
  subst hm
  refine ⟨IntWalk.wrap64_in _ ⟨by omega, by omega⟩, ?_, by omega⟩
  rw [IntWalk.wrap64_in _ ⟨by omega, by omega⟩]; omega

set_option maxRecDepth 100000 in
set_option maxHeartbeats 800000 in
theorem rget_any (s : ByteArray) (at_ : Nat) (w : World) (hs : s.size ≤ 1000000000) (h : at_ ≤ s.size) : Calls Try.prog 42 #[.string s, .int .i64 at_] w
    fun x w' => x = getEnd at_ (W.rd (s.data.toList.drop at_) 0 0) ∧ w = w' := by
  generalize hl : s.data.toList.drop at_ = l
  have HL := Lib.hid hl; clear hl
  have d1 : decide (s.size < at_) = false := decide_eq_false (by omega)
  have d2 : decide ((at_ : Int) < 0) = false := decide_eq_false (by omega)
  go_enter Try.func42, Try.ntmps42
  go_wp2_with fail
  go_loopg [7, 8, 9] 5 (fun k vn vt vi wr => RGetRel l k vn vt vi ∧ w = wr)
  case atStart => exact ⟨⟨0, 0, 1, by omega, rfl, rfl, rfl, rfl, rfl, by omega, rfl⟩, rfl⟩
  case round =>
    obtain ⟨⟨i, n, t, hi, hk, rfl, rfl, rfl, ht, hn, hr⟩, rfl⟩ := hrel
    have htl := pow_le ht hi
    have HT := Lib.hid ht; clear ht
    have HR := Lib.hid hr; clear hr
    have HK := Lib.hid hk; clear hk
    by_cases hend : at_ + i < s.size
    · have hx : s[at_ + i].toNat < 256 := UInt8.toNat_lt _
      obtain ⟨x, hxe⟩ : ∃ x, x = s[at_ + i].toNat := ⟨_, rfl⟩
      have hx2 : x < 256 := by omega
      obtain ⟨p, hp⟩ : ∃ p, p = x % 128 * t := ⟨_, rfl⟩
      obtain ⟨m, hm⟩ : ∃ m, m = n + x % 128 * 128 ^ i := ⟨_, rfl⟩
      obtain ⟨hmul, hadd, hml⟩ := mul_val (m := m) htl.2 hn hp (by rw [hm, hp, HT.out])
      have HX := Lib.hid hxe
      have HM := Lib.hid hm
      have hr0 := rd_cons hend HL.out
      have HR0 := Lib.hid hr0
      have hxi : (s[at_ + i].toNat : Int) = (x : Int) := by rw [hxe]
      clear hxe hm hp hx hr0
      by_cases c1 : m ≤ 2147483647
      · by_cases c2 : x < 128
        · by_cases c4 : i = 0
          · have hi0 : i ≤ 0 := by omega
            have i4 : ((i : Int) == 4) = false := beq_eq_false_iff_ne.2 (by omega)
            clear c4
            by_cases c3 : 0 < x
            · have x0 : ((x : Int) == 0) = false := beq_eq_false_iff_ne.2 (by omega)
              go_wp2_with fail
              refine bodyPost_ret (results_tmp3 rfl _ _ _) rfl ⟨?_, rfl⟩
              rw [← HR.out, W.rd_ok HR0.out HX.out HM.out c1 c2 (.inl c3)]
              simp [getEnd, Int.add_assoc]
            · have x0 : ((x : Int) == 0) = true := beq_iff_eq.2 (by omega)
              go_wp2_with fail
              refine bodyPost_ret (results_tmp3 rfl _ _ _) rfl ⟨?_, rfl⟩
              rw [← HR.out, W.rd_ok HR0.out HX.out HM.out c1 c2 (.inr (by omega))]
              simp [getEnd, Int.add_assoc]
          · have hi0 : 0 < i := by omega
            clear c4
            obtain ⟨b, i4⟩ : ∃ b : Bool, ((i : Int) == 4) = b := ⟨_, rfl⟩
            by_cases c3 : 0 < x
            · have x0 : ((x : Int) == 0) = false := beq_eq_false_iff_ne.2 (by omega)
              cases b
              all_goals
                go_wp2_with fail
                refine bodyPost_ret (results_tmp3 rfl _ _ _) rfl ⟨?_, rfl⟩
                rw [← HR.out, W.rd_ok HR0.out HX.out HM.out c1 c2 (.inl c3)]
                simp [getEnd, Int.add_assoc]
            · have x0 : ((x : Int) == 0) = true := beq_iff_eq.2 (by omega)
              cases b
              all_goals
                go_wp2_with fail
                refine bodyPost_ret (results_tmp3 rfl _ _ _) rfl ⟨?_, rfl⟩
                rw [← HR.out, W.rd_form HR0.out HX.out HM.out c1 c2 (by omega)]
                rfl
        · have x0 : ((x : Int) == 0) = false := beq_eq_false_iff_ne.2 (by omega)
          by_cases c5 : i = 4
          · have i4 : ((i : Int) == 4) = true := beq_iff_eq.2 (by omega)
            clear c5
            go_wp2_with fail
            refine bodyPost_ret (results_tmp3 rfl _ _ _) rfl ⟨?_, rfl⟩
            rw [← HR.out, W.rd_big HR0.out HX.out HM.out (by have := beq_iff_eq.1 i4; omega)]
            rfl
          · have i4 : ((i : Int) == 4) = false := beq_eq_false_iff_ne.2 (by omega)
            have hi4 : i < 4 := by omega
            clear c5
            go_wp2_with fail
            go_roundg (gk - 1)
            case rel => exact ⟨⟨i + 1, m, t * 128, by omega, by have := HK.out; omega, rfl, by simp, by simp, by rw [HT.out, Nat.pow_succ], c1, by rw [← HR.out, W.rd_more HR0.out HX.out HM.out c1 c2 (by omega)]⟩, rfl⟩
            case measure => have := HK.out; omega
      · go_wp2_with fail
        refine bodyPost_ret (results_tmp3 rfl _ _ _) rfl ⟨?_, rfl⟩
        rw [← HR.out, W.rd_big HR0.out HX.out HM.out (by omega)]
        rfl
    · go_wp2_with fail
      refine bodyPost_ret (results_tmp3 rfl _ _ _) rfl ⟨?_, rfl⟩
      rw [← HR.out, rd_nil hend HL.out]
      rfl
end Go.Proofs.Ytdfgnmdofjhnkaa
