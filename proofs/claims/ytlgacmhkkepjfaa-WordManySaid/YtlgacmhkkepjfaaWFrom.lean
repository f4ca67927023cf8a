/- WordFrom: the walk. -/
import Derived.Test.YtlgacmhkkepjfaaWSize
import Derived.OpenShut
namespace Go.Proofs.Ytlgacmhkkepjfaa

theorem take_err {l : List UInt8} {top : Int} {e : Nat} (h : W.take l top = .bad e) : 2 ≤ e ∧ e ≤ 5 := by
  unfold W.take at h
  split at h
  · rename_i hr; injection h with h; subst h; exact errno_pos _ _ _ _ hr
  · split at h
    · split at h
      · cases h
      · injection h with h; omega
    · injection h with h; omega

theorem take_end {l : List UInt8} {top : Int} {t : List UInt8} {j : Nat} (h : W.take l top = .ok t j) : j ≤ l.length := by
  unfold W.take at h
  split at h
  · cases h
  · rename_i hr
    have hp := W.rd_pos _ _ _ _ _ hr
    split at h
    · split at h
      · injection h with h1 h2; omega
      · cases h
    · cases h

theorem drop_bs (x : ByteArray) (k : Nat) (h : k ≤ x.size) : (x.extract k x.size).data.toList = x.data.toList.drop k := by
  rw [extract_list x k x.size (x.size - k) (by omega), data_bs, List.take_of_length_le (by simp)]
theorem drop_size (x : ByteArray) (k : Nat) : (x.extract k x.size).size = x.size - k := by rw [ByteArray.size_extract]; omega

open Go.RowKit in
theorem below5 {w w1 w2 w3 w4 w5 : World} (h1 : Below w.heap.size w w1) (h2 : Below w1.heap.size w1 w2) (h3 : Below w2.heap.size w2 w3) (h4 : Below w3.heap.size w3 w4) (h5 : Below w4.heap.size w4 w5) : Below w.heap.size w w5 :=
  have k2 := Nat.le_trans h1.size h2.size
  have k3 := Nat.le_trans k2 h3.size
  (((h1.trans (h2.mono h1.size)).trans (h3.mono k2)).trans (h4.mono k3)).trans (h5.mono (Nat.le_trans k3 h4.size))

namespace wordFrom
open Go.RowKit Go.OpenShut

set_option maxRecDepth 100000 in
set_option maxHeartbeats 4000000 in
theorem part_bad_bad (a0 x : ByteArray) (a1 a2 : Int) (K : Nat) (e : Nat) (e' : Nat) (w : World)
    (hu0 : 0 ≤ a1) (hu1 : a1 ≤ 255) (hx : x.size ≤ 200) (hxe : a0.extract 0 (min (a0.size : Int) 200).toNat = x) (hxs : min (min (a0.size : Int) 200).toNat a0.size = x.size) (hK : a1 % ((x.size : Int) + 1) = (K : Int)) (hKl : K ≤ x.size)
    (HG : Hid (∀ w, Calls Try.prog 12 #[.string x, .int .i64 K] w fun y w' => y = getEnd K (.bad e) ∧ Below w.heap.size w w'))
    (HG0 : Hid (∀ w, Calls Try.prog 12 #[.string (x.extract K x.size), .int .i64 ((0 : Nat) : Int)] w fun y w' => y = getEnd 0 (.bad e) ∧ Below w.heap.size w w'))
    (HT : Hid (∀ w, Calls Try.prog 14 #[.string x, .int .i64 K, .int .i64 a2] w fun y w' => y = TakeEnd K (.bad e') ∧ Below w.heap.size w w'))
    (HT0 : Hid (∀ w, Calls Try.prog 14 #[.string (x.extract K x.size), .int .i64 ((0 : Nat) : Int), .int .i64 a2] w fun y w' => y = TakeEnd 0 (.bad e') ∧ Below w.heap.size w w'))
    (he : 2 ≤ e) (he' : 2 ≤ e') :
    Calls Try.prog 7 #[.string a0, .int .u8 a1, .int .i64 a2] w fun e w' => e = .returned (.bool true) ∧ Below w.heap.size w w' := by
  have n0 : ((0 : Int) == 0) = true := rfl
  have n0' : ((0 : Int) != 0) = false := rfl
  simp only [TakeEnd] at HT HT0
  have g1 : ((e : Int) != 0) = true := by rw [bne_iff_ne]; omega
  have g1' : ((e : Int) == 0) = false := beq_eq_false_iff_ne.2 (by omega)
  have g3 : ((e' : Int) != 0) = true := by rw [bne_iff_ne]; omega
  have g3' : ((e' : Int) == 0) = false := beq_eq_false_iff_ne.2 (by omega)
  go_enter Try.func7, Try.ntmps7
  simp only [List.append_eq, List.cons_append, List.nil_append]
  go_wp2_with fail
  refine (HG.out _).mono ?_
  rintro e w1 ⟨rfl, hb1⟩
  simp only [getEnd]
  go_wp2_with fail
  refine (HG0.out _).mono ?_
  rintro e w2 ⟨rfl, hb2⟩
  simp only [getEnd]
  go_wp2_with fail
  refine (HT.out _).mono ?_
  rintro e w3 ⟨rfl, hb3⟩
  go_wp2_with fail
  refine (HT0.out _).mono ?_
  rintro e w4 ⟨rfl, hb4⟩
  clear HG HG0 HT HT0
  go_wp2_with fail
  refine (fixed_any _).mono ?_
  rintro e w5 ⟨rfl, hb5⟩
  go_wp2_with fail
  go_ret
  exact ⟨rfl, below5 hb1 hb2 hb3 hb4 hb5⟩

set_option maxRecDepth 100000 in
set_option maxHeartbeats 4000000 in
theorem part_bad_ok (a0 x : ByteArray) (a1 a2 : Int) (K : Nat) (e : Nat) (t : List UInt8) (j : Nat) (w : World)
    (hu0 : 0 ≤ a1) (hu1 : a1 ≤ 255) (hx : x.size ≤ 200) (hxe : a0.extract 0 (min (a0.size : Int) 200).toNat = x) (hxs : min (min (a0.size : Int) 200).toNat a0.size = x.size) (hK : a1 % ((x.size : Int) + 1) = (K : Int)) (hKl : K ≤ x.size)
    (HG : Hid (∀ w, Calls Try.prog 12 #[.string x, .int .i64 K] w fun y w' => y = getEnd K (.bad e) ∧ Below w.heap.size w w'))
    (HG0 : Hid (∀ w, Calls Try.prog 12 #[.string (x.extract K x.size), .int .i64 ((0 : Nat) : Int)] w fun y w' => y = getEnd 0 (.bad e) ∧ Below w.heap.size w w'))
    (HT : Hid (∀ w, Calls Try.prog 14 #[.string x, .int .i64 K, .int .i64 a2] w fun y w' => y = TakeEnd K (.ok t j) ∧ Below w.heap.size w w'))
    (HT0 : Hid (∀ w, Calls Try.prog 14 #[.string (x.extract K x.size), .int .i64 ((0 : Nat) : Int), .int .i64 a2] w fun y w' => y = TakeEnd 0 (.ok t j) ∧ Below w.heap.size w w'))
    (he : 2 ≤ e) (hj : j ≤ 200) :
    Calls Try.prog 7 #[.string a0, .int .u8 a1, .int .i64 a2] w fun e w' => e = .returned (.bool true) ∧ Below w.heap.size w w' := by
  have n0 : ((0 : Int) == 0) = true := rfl
  have n0' : ((0 : Int) != 0) = false := rfl
  simp only [TakeEnd] at HT HT0
  have g1 : ((e : Int) != 0) = true := by rw [bne_iff_ne]; omega
  have g1' : ((e : Int) == 0) = false := beq_eq_false_iff_ne.2 (by omega)
  obtain ⟨T, hT⟩ : ∃ T, ByteArray.mk t.toArray = T := ⟨_, rfl⟩
  have g4 : ((K : Int) + (j : Int) == (j : Int) + (K : Int)) = true := by rw [beq_iff_eq]; omega
  simp only [hT] at HT HT0
  clear hT
  go_enter Try.func7, Try.ntmps7
  simp only [List.append_eq, List.cons_append, List.nil_append]
  go_wp2_with fail
  refine (HG.out _).mono ?_
  rintro e w1 ⟨rfl, hb1⟩
  simp only [getEnd]
  go_wp2_with fail
  refine (HG0.out _).mono ?_
  rintro e w2 ⟨rfl, hb2⟩
  simp only [getEnd]
  go_wp2_with fail
  refine (HT.out _).mono ?_
  rintro e w3 ⟨rfl, hb3⟩
  go_wp2_with fail
  refine (HT0.out _).mono ?_
  rintro e w4 ⟨rfl, hb4⟩
  clear HG HG0 HT HT0
  go_wp2_with fail
  refine (fixed_any _).mono ?_
  rintro e w5 ⟨rfl, hb5⟩
  go_wp2_with fail
  go_ret
  exact ⟨rfl, below5 hb1 hb2 hb3 hb4 hb5⟩

set_option maxRecDepth 100000 in
set_option maxHeartbeats 4000000 in
theorem part_ok_bad (a0 x : ByteArray) (a1 a2 : Int) (K : Nat) (n i : Nat) (e' : Nat) (w : World)
    (hu0 : 0 ≤ a1) (hu1 : a1 ≤ 255) (hx : x.size ≤ 200) (hxe : a0.extract 0 (min (a0.size : Int) 200).toNat = x) (hxs : min (min (a0.size : Int) 200).toNat a0.size = x.size) (hK : a1 % ((x.size : Int) + 1) = (K : Int)) (hKl : K ≤ x.size)
    (HG : Hid (∀ w, Calls Try.prog 12 #[.string x, .int .i64 K] w fun y w' => y = getEnd K (.ok n i) ∧ Below w.heap.size w w'))
    (HG0 : Hid (∀ w, Calls Try.prog 12 #[.string (x.extract K x.size), .int .i64 ((0 : Nat) : Int)] w fun y w' => y = getEnd 0 (.ok n i) ∧ Below w.heap.size w w'))
    (HT : Hid (∀ w, Calls Try.prog 14 #[.string x, .int .i64 K, .int .i64 a2] w fun y w' => y = TakeEnd K (.bad e') ∧ Below w.heap.size w w'))
    (HT0 : Hid (∀ w, Calls Try.prog 14 #[.string (x.extract K x.size), .int .i64 ((0 : Nat) : Int), .int .i64 a2] w fun y w' => y = TakeEnd 0 (.bad e') ∧ Below w.heap.size w w'))
    (hi : i ≤ 200) (_hn : n ≤ 2147483647) (he' : 2 ≤ e') :
    Calls Try.prog 7 #[.string a0, .int .u8 a1, .int .i64 a2] w fun e w' => e = .returned (.bool true) ∧ Below w.heap.size w w' := by
  have n0 : ((0 : Int) == 0) = true := rfl
  have n0' : ((0 : Int) != 0) = false := rfl
  simp only [TakeEnd] at HT HT0
  have g2 : ((K : Int) + (i : Int) == (i : Int) + (K : Int)) = true := by rw [beq_iff_eq]; omega
  have g3 : ((e' : Int) != 0) = true := by rw [bne_iff_ne]; omega
  have g3' : ((e' : Int) == 0) = false := beq_eq_false_iff_ne.2 (by omega)
  go_enter Try.func7, Try.ntmps7
  simp only [List.append_eq, List.cons_append, List.nil_append]
  go_wp2_with fail
  refine (HG.out _).mono ?_
  rintro e w1 ⟨rfl, hb1⟩
  simp only [getEnd]
  go_wp2_with fail
  refine (HG0.out _).mono ?_
  rintro e w2 ⟨rfl, hb2⟩
  simp only [getEnd]
  go_wp2_with fail
  refine (HT.out _).mono ?_
  rintro e w3 ⟨rfl, hb3⟩
  go_wp2_with fail
  refine (HT0.out _).mono ?_
  rintro e w4 ⟨rfl, hb4⟩
  clear HG HG0 HT HT0
  go_wp2_with fail
  refine (fixed_any _).mono ?_
  rintro e w5 ⟨rfl, hb5⟩
  go_wp2_with fail
  go_ret
  exact ⟨rfl, below5 hb1 hb2 hb3 hb4 hb5⟩

set_option maxRecDepth 100000 in
set_option maxHeartbeats 4000000 in
theorem part_ok_ok (a0 x : ByteArray) (a1 a2 : Int) (K : Nat) (n i : Nat) (t : List UInt8) (j : Nat) (w : World)
    (hu0 : 0 ≤ a1) (hu1 : a1 ≤ 255) (hx : x.size ≤ 200) (hxe : a0.extract 0 (min (a0.size : Int) 200).toNat = x) (hxs : min (min (a0.size : Int) 200).toNat a0.size = x.size) (hK : a1 % ((x.size : Int) + 1) = (K : Int)) (hKl : K ≤ x.size)
    (HG : Hid (∀ w, Calls Try.prog 12 #[.string x, .int .i64 K] w fun y w' => y = getEnd K (.ok n i) ∧ Below w.heap.size w w'))
    (HG0 : Hid (∀ w, Calls Try.prog 12 #[.string (x.extract K x.size), .int .i64 ((0 : Nat) : Int)] w fun y w' => y = getEnd 0 (.ok n i) ∧ Below w.heap.size w w'))
    (HT : Hid (∀ w, Calls Try.prog 14 #[.string x, .int .i64 K, .int .i64 a2] w fun y w' => y = TakeEnd K (.ok t j) ∧ Below w.heap.size w w'))
    (HT0 : Hid (∀ w, Calls Try.prog 14 #[.string (x.extract K x.size), .int .i64 ((0 : Nat) : Int), .int .i64 a2] w fun y w' => y = TakeEnd 0 (.ok t j) ∧ Below w.heap.size w w'))
    (hi : i ≤ 200) (_hn : n ≤ 2147483647) (hj : j ≤ 200) :
    Calls Try.prog 7 #[.string a0, .int .u8 a1, .int .i64 a2] w fun e w' => e = .returned (.bool true) ∧ Below w.heap.size w w' := by
  have n0 : ((0 : Int) == 0) = true := rfl
  have n0' : ((0 : Int) != 0) = false := rfl
  simp only [TakeEnd] at HT HT0
  have g2 : ((K : Int) + (i : Int) == (i : Int) + (K : Int)) = true := by rw [beq_iff_eq]; omega
  obtain ⟨T, hT⟩ : ∃ T, ByteArray.mk t.toArray = T := ⟨_, rfl⟩
  have g4 : ((K : Int) + (j : Int) == (j : Int) + (K : Int)) = true := by rw [beq_iff_eq]; omega
  simp only [hT] at HT HT0
  clear hT
  go_enter Try.func7, Try.ntmps7
  simp only [List.append_eq, List.cons_append, List.nil_append]
  go_wp2_with fail
  refine (HG.out _).mono ?_
  rintro e w1 ⟨rfl, hb1⟩
  simp only [getEnd]
  go_wp2_with fail
  refine (HG0.out _).mono ?_
  rintro e w2 ⟨rfl, hb2⟩
  simp only [getEnd]
  go_wp2_with fail
  refine (HT.out _).mono ?_
  rintro e w3 ⟨rfl, hb3⟩
  go_wp2_with fail
  refine (HT0.out _).mono ?_
  rintro e w4 ⟨rfl, hb4⟩
  clear HG HG0 HT HT0
  go_wp2_with fail
  refine (fixed_any _).mono ?_
  rintro e w5 ⟨rfl, hb5⟩
  go_wp2_with fail
  go_ret
  exact ⟨rfl, below5 hb1 hb2 hb3 hb4 hb5⟩

theorem walk (a0 : ByteArray) (a1 : Int) (w1 : (Lit.int .u8 a1).wf = true) (a2 : Int) (_ : (Lit.int .i64 a2).wf = true) (w : World) :
    Calls Try.prog 7 #[.string a0, .int .u8 a1, .int .i64 a2] w fun e w' => e = .returned (.bool true) ∧ Below w.heap.size w w' := by
  obtain ⟨hu0, hu1⟩ := bounds_u8 w1
  have hx := cut_size a0 200 (min (a0.size : Int) 200).toNat (by omega)
  obtain ⟨x, hxe⟩ : ∃ x, a0.extract 0 (min (a0.size : Int) 200).toNat = x := ⟨_, rfl⟩
  have hxs : min (min (a0.size : Int) 200).toNat a0.size = x.size := by rw [← hxe, ByteArray.size_extract]; omega
  rw [hxe] at hx
  obtain ⟨K, hK⟩ : ∃ K : Nat, a1 % ((x.size : Int) + 1) = (K : Int) := ⟨(a1 % ((x.size : Int) + 1)).toNat, by have := Int.emod_nonneg a1 (b := (x.size : Int) + 1) (by omega); omega⟩
  have hKl : K ≤ x.size := by have := Int.emod_lt_of_pos a1 (b := (x.size : Int) + 1) (by omega); omega
  have hg := fun w => get_any x K w (by omega) hKl
  have hg0 := fun w => get_any (x.extract K x.size) 0 w (by rw [drop_size]; omega) (Nat.zero_le _)
  have ht := fun w => take_any x K a2 w (by omega) hKl
  have ht0 := fun w => take_any (x.extract K x.size) 0 a2 w (by rw [drop_size]; omega) (Nat.zero_le _)
  rw [List.drop_zero, drop_bs x K hKl] at hg0 ht0
  have hll : (x.data.toList.drop K).length ≤ 200 := by rw [List.length_drop, size_data]; omega
  generalize x.data.toList.drop K = l at hg hg0 ht ht0 hll
  generalize hr : W.rd l 0 0 = r at hg hg0
  generalize hr' : W.take l a2 = t at ht ht0
  cases r with
  | bad e =>
    have he := errno_pos _ _ _ _ hr
    cases t with
    | bad e' => exact part_bad_bad a0 x a1 a2 K e e' w hu0 hu1 hx hxe hxs hK hKl hg hg0 ht ht0 he.1 (take_err hr').1
    | ok t j => exact part_bad_ok a0 x a1 a2 K e t j w hu0 hu1 hx hxe hxs hK hKl hg hg0 ht ht0 he.1 (Nat.le_trans (take_end hr') hll)
  | ok n i =>
    have hp := W.rd_pos _ _ _ _ _ hr
    cases t with
    | bad e' => exact part_ok_bad a0 x a1 a2 K n i e' w hu0 hu1 hx hxe hxs hK hKl hg hg0 ht ht0 (by omega) hp.2.2 (take_err hr').1
    | ok t j => exact part_ok_ok a0 x a1 a2 K n i t j w hu0 hu1 hx hxe hxs hK hKl hg hg0 ht ht0 (by omega) hp.2.2 (Nat.le_trans (take_end hr') hll)
end wordFrom
end Go.Proofs.Ytlgacmhkkepjfaa
