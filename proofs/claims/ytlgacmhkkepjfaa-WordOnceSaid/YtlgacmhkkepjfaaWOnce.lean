/- WordOnce: the walk. -/
import Derived.Test.YtlgacmhkkepjfaaWTells
import Derived.Test.YtlgacmhkkepjfaaSeq
namespace Go.Proofs.Ytlgacmhkkepjfaa
open Go.RowKit

theorem once_get {x : ByteArray} {K n i : Nat} (hr : W.rd (x.data.toList.drop K) 0 0 = .ok n i) : (ByteArray.mk (W.put n).toArray).toList = (x.extract K (K + i)).toList := by
  rw [ByteArray.toList_mk, extract_list x K (K + i) i rfl, ByteArray.toList_mk]
  exact W.rd_once hr

theorem once_all {x : ByteArray} {l : List Nat} (h : W.all x.data.toList = .ok l) : ByteArray.mk (W.puts (l.map (fun (n : Nat) => (n : Int)))).toArray = x := by
  rw [W.all_once _ _ l (Nat.le_refl _) h, mk_data]

theorem rd_err : ∀ (l : List UInt8) (i n e : Nat), W.rd l i n = .bad e → 1 ≤ e := by
  intro l
  induction l with
  | nil => intro i n e h; simp only [W.rd] at h; injection h with h; omega
  | cons c t ih =>
    intro i n e h
    simp only [W.rd] at h
    split at h
    · split at h
      · split at h
        · cases h
        · injection h with h; omega
      · exact ih _ _ _ h
    · injection h with h; omega

theorem all_err : ∀ (k : Nat) (l : List UInt8) (e : Nat), l.length ≤ k → W.all l = .bad e → 1 ≤ e := by
  intro k
  induction k with
  | zero =>
    intro l e hl h
    have : l = [] := List.eq_nil_of_length_eq_zero (by omega)
    subst this; rw [W.all_nil] at h; cases h
  | succ k ih =>
    intro l e hl h
    cases hr : W.rd l 0 0 with
    | bad e' =>
      by_cases hn : l = []
      · subst hn; rw [W.all_nil] at h; cases h
      · rw [W.all_bad hn hr] at h; injection h with h; subst h; exact rd_err _ _ _ _ hr
    | ok n i =>
      have hp := W.rd_pos _ _ _ _ _ hr
      rw [W.all_ok hr] at h
      cases hd : W.all (l.drop i) with
      | bad e' => rw [hd] at h; simp only [W.Alls.pre] at h; injection h with h; subst h; exact ih (l.drop i) _ (by simp; omega) hd
      | ok r' => rw [hd] at h; cases h

namespace wordOnce
set_option maxRecDepth 100000 in
set_option maxHeartbeats 4000000 in
theorem part_bad_bad (a0 x : ByteArray) (a1 : Int) (e : Int) (f : Int) (w : World)
    (hx : x.size ≤ 200) (hxe : a0.extract 0 (min (a0.size : Int) 200).toNat = x) (hxs : min (min (a0.size : Int) 200).toNat a0.size = x.size)
    (HG : Hid (∀ w, Calls Try.prog 12 #[.string x, .int .i64 a1] w fun y w' => y = .returned (.tuple #[.int .i64 0, .int .i64 0, .int .i64 e]) ∧ Below w.heap.size w w'))
    (HL : Hid (∀ w, Calls Try.prog 17 #[.string x] w fun y w' => y = .returned (.tuple #[.slice none 0 0, .int .i64 f]) ∧ Below w.heap.size w w')) (hf : 1 ≤ f) (he : 1 ≤ e) :
    Calls Try.prog 9 #[.string a0, .int .i64 a1] w fun e w' => e = .returned (.bool true) ∧ Below w.heap.size w w' := by
  have n0 : ((0 : Int) == 0) = true := rfl
  have n0' : ((0 : Int) != 0) = false := rfl
  have g1 : (e == 0) = false := beq_eq_false_iff_ne.2 (by omega)
  have g2 : (f == 0) = false := beq_eq_false_iff_ne.2 (by omega)
  have g2' : (f != 0) = true := by rw [bne_iff_ne]; omega
  go_enter Try.func9, Try.ntmps9
  go_wp2_with fail
  refine (HG.out _).mono ?_
  rintro y w1 ⟨rfl, hb1⟩
  replace hb1 := hb1.drew
  go_wp2_with fail
  refine wp_region_any (by kernel_rfl) ?_
  refine wpAny_plan 0 [0,1,2,3,4,5,6,7,8,9,10,11,12,13,14,15,16,17,19,20,21] 3932159 5 (by kernel_rfl) (by kernel_rfl) (fun _ _ _ _ _ h => h) (by kernel_rfl) (of_decide_eq_true (by kernel_rfl)) (by kernel_rfl) (by kernel_rfl) (of_decide_eq_true (by kernel_rfl)) ?_ (fun _ _ h => h)
  simp only [List.map_cons, List.map_nil, List.getD_cons_succ, List.getD_cons_zero]
  go_wp2_with fail
  change wpAny _ _ _ _ _ _ _ _
  refine wpAny_take (i := 22) (v := undef) rfl (by kernel_rfl) (by kernel_rfl) (by kernel_rfl) (fun _ _ _ h => h) (Or.inr ⟨by rfl, rfl⟩) ?_
  refine wpAny_idle (i := 18) (by kernel_rfl) rfl (by rfl) ?_
  refine wpAny_idle (i := 23) (by kernel_rfl) rfl (by rfl) ?_
  refine wpAny_idle (i := 24) (by kernel_rfl) rfl (by rfl) ?_
  refine wpAny_planEnd 33554431 [25] (by kernel_rfl) (by kernel_rfl) (fun _ _ _ _ _ h => h) (by kernel_rfl) (of_decide_eq_true (by kernel_rfl)) (of_decide_eq_true (by kernel_rfl)) (by kernel_rfl) ?_
  simp only [List.map_cons, List.map_nil, List.getD_cons_succ, List.getD_cons_zero]
  go_wp2_with fail
  refine (HL.out _).mono ?_
  rintro y w3 ⟨rfl, hb3⟩
  replace hb1 := hb1.trans (hb3.mono hb1.size)
  clear hb3
  go_wp2_with fail
  refine (fixed_any _).mono ?_
  rintro y w3 ⟨rfl, hb3⟩
  replace hb1 := hb1.trans (hb3.mono hb1.size)
  clear hb3
  go_wp2_with fail
  go_ret
  exact ⟨rfl, hb1⟩

set_option maxRecDepth 100000 in
set_option maxHeartbeats 4000000 in
theorem part_bad_ok (a0 x : ByteArray) (a1 : Int) (e : Int) (l : List Nat) (w : World)
    (hx : x.size ≤ 200) (hxe : a0.extract 0 (min (a0.size : Int) 200).toNat = x) (hxs : min (min (a0.size : Int) 200).toNat a0.size = x.size)
    (HG : Hid (∀ w, Calls Try.prog 12 #[.string x, .int .i64 a1] w fun y w' => y = .returned (.tuple #[.int .i64 0, .int .i64 0, .int .i64 e]) ∧ Below w.heap.size w w'))
    (HL : Hid (∀ w, Calls Try.prog 17 #[.string x] w fun y w' => (∃ v, y = .returned (.tuple #[v, .int .i64 0]) ∧ IsInts w' w'.heap.size v (l.map (fun (n : Nat) => (n : Int)))) ∧ Below w.heap.size w w')) (hll : l.length ≤ 200) (HQ : Hid (ByteArray.mk (W.puts (l.map (fun (n : Nat) => (n : Int)))).toArray = x)) (he : 1 ≤ e) :
    Calls Try.prog 9 #[.string a0, .int .i64 a1] w fun e w' => e = .returned (.bool true) ∧ Below w.heap.size w w' := by
  have n0 : ((0 : Int) == 0) = true := rfl
  have n0' : ((0 : Int) != 0) = false := rfl
  have g1 : (e == 0) = false := beq_eq_false_iff_ne.2 (by omega)
  go_enter Try.func9, Try.ntmps9
  go_wp2_with fail
  refine (HG.out _).mono ?_
  rintro y w1 ⟨rfl, hb1⟩
  replace hb1 := hb1.drew
  go_wp2_with fail
  refine wp_region_any (by kernel_rfl) ?_
  refine wpAny_plan 0 [0,1,2,3,4,5,6,7,8,9,10,11,12,13,14,15,16,17,19,20,21] 3932159 5 (by kernel_rfl) (by kernel_rfl) (fun _ _ _ _ _ h => h) (by kernel_rfl) (of_decide_eq_true (by kernel_rfl)) (by kernel_rfl) (by kernel_rfl) (of_decide_eq_true (by kernel_rfl)) ?_ (fun _ _ h => h)
  simp only [List.map_cons, List.map_nil, List.getD_cons_succ, List.getD_cons_zero]
  go_wp2_with fail
  change wpAny _ _ _ _ _ _ _ _
  refine wpAny_take (i := 22) (v := undef) rfl (by kernel_rfl) (by kernel_rfl) (by kernel_rfl) (fun _ _ _ h => h) (Or.inr ⟨by rfl, rfl⟩) ?_
  refine wpAny_idle (i := 18) (by kernel_rfl) rfl (by rfl) ?_
  refine wpAny_idle (i := 23) (by kernel_rfl) rfl (by rfl) ?_
  refine wpAny_idle (i := 24) (by kernel_rfl) rfl (by rfl) ?_
  refine wpAny_planEnd 33554431 [25] (by kernel_rfl) (by kernel_rfl) (fun _ _ _ _ _ h => h) (by kernel_rfl) (of_decide_eq_true (by kernel_rfl)) (of_decide_eq_true (by kernel_rfl)) (by kernel_rfl) ?_
  simp only [List.map_cons, List.map_nil, List.getD_cons_succ, List.getD_cons_zero]
  go_wp2_with fail
  refine (HL.out _).mono ?_
  rintro y w3 ⟨⟨v, rfl, hv⟩, hb3⟩
  replace hb1 := hb1.trans (hb3.mono hb1.size)
  clear hb3
  go_wp2_with fail
  refine (puts_q HQ.out hv (by simp; omega)).mono ?_
  rintro y w3 ⟨rfl, hb3⟩
  replace hb1 := hb1.trans (hb3.mono hb1.size)
  clear hb3
  have b6 : (x.toList == x.toList) = true := by simp
  go_wp2_with fail
  refine (fixed_any _).mono ?_
  rintro y w3 ⟨rfl, hb3⟩
  replace hb1 := hb1.trans (hb3.mono hb1.size)
  clear hb3
  go_wp2_with fail
  go_ret
  exact ⟨rfl, hb1⟩

set_option maxRecDepth 100000 in
set_option maxHeartbeats 4000000 in
theorem part_ok_bad (a0 x : ByteArray) (K n i : Nat) (f : Int) (w : World)
    (hx : x.size ≤ 200) (hxe : a0.extract 0 (min (a0.size : Int) 200).toNat = x) (hxs : min (min (a0.size : Int) 200).toNat a0.size = x.size)
    (HG : Hid (∀ w, Calls Try.prog 12 #[.string x, .int .i64 (K : Int)] w fun y w' => y = .returned (.tuple #[.int .i64 n, .int .i64 ((K : Int) + (i : Int)), .int .i64 0]) ∧ Below w.heap.size w w'))
    (HL : Hid (∀ w, Calls Try.prog 17 #[.string x] w fun y w' => y = .returned (.tuple #[.slice none 0 0, .int .i64 f]) ∧ Below w.heap.size w w')) (hf : 1 ≤ f) (hn : n ≤ 2147483647) (hi0 : 0 < i) (hKi : K + i ≤ x.size) (HP : Hid ((ByteArray.mk (W.put n).toArray).toList = (x.extract K (K + i)).toList)) :
    Calls Try.prog 9 #[.string a0, .int .i64 (K : Int)] w fun e w' => e = .returned (.bool true) ∧ Below w.heap.size w w' := by
  have n0 : ((0 : Int) == 0) = true := rfl
  have n0' : ((0 : Int) != 0) = false := rfl
  have g2 : (f == 0) = false := beq_eq_false_iff_ne.2 (by omega)
  have g2' : (f != 0) = true := by rw [bne_iff_ne]; omega
  have b1 : decide ((K : Int) < 0) = false := decide_eq_false (by omega)
  have b2 : decide ((K : Int) + i ≤ K) = false := decide_eq_false (by omega)
  have b3 : decide ((x.size : Int) < (K : Int) + i) = false := decide_eq_false (by omega)
  go_enter Try.func9, Try.ntmps9
  go_wp2_with fail
  refine (HG.out _).mono ?_
  rintro y w1 ⟨rfl, hb1⟩
  replace hb1 := hb1.drew
  go_wp2_with fail
  refine wp_region_any (by kernel_rfl) ?_
  refine wpAny_plan 0 [0,1,2,3,4,5,6,7,8,9,10,11,12,13,14,15,16,17,19,20,21] 3932159 5 (by kernel_rfl) (by kernel_rfl) (fun _ _ _ _ _ h => h) (by kernel_rfl) (of_decide_eq_true (by kernel_rfl)) (by kernel_rfl) (by kernel_rfl) (of_decide_eq_true (by kernel_rfl)) ?_ (fun _ _ h => h)
  simp only [List.map_cons, List.map_nil, List.getD_cons_succ, List.getD_cons_zero]
  go_wp2_with fail
  change wpAny _ _ _ _ _ _ _ _
  refine wpAny_take (i := 22) (v := .string (x.extract K (K + i))) rfl (by kernel_rfl) (by kernel_rfl) (by kernel_rfl) (fun _ _ _ h => h) (Or.inl ⟨by rfl, by intro w; go_simp; rw [if_pos ⟨by omega, by omega⟩, if_pos (by omega), show ((K : Int) + (i : Int)).toNat = K + i from by omega]⟩) ?_
  refine wpAny_planEnd 8126463 [18,23,24,25] (by kernel_rfl) (by kernel_rfl) (fun _ _ _ _ _ h => h) (by kernel_rfl) (of_decide_eq_true (by kernel_rfl)) (of_decide_eq_true (by kernel_rfl)) (by kernel_rfl) ?_
  simp only [List.map_cons, List.map_nil, List.getD_cons_succ, List.getD_cons_zero]
  go_wp2_with fail
  refine (put_any _ _).mono ?_
  rintro y w2 ⟨rfl, hb2⟩
  replace hb1 := hb1.trans (hb2.mono hb1.size)
  clear hb2
  have b4 := HP.out
  have b5 : ((ByteArray.mk (W.put n).toArray).toList == (x.extract K (K + i)).toList) = true := by rw [b4]; simp
  have b7 : ((ByteArray.mk (W.put n).toArray).toList != (x.extract K (K + i)).toList) = false := by rw [b4]; simp
  have b8 : (!((ByteArray.mk (W.put n).toArray).toList == (x.extract K (K + i)).toList)) = false := by rw [b4]; simp
  have b9 : (W.put n == (x.extract K (K + i)).toList) = true := by rw [← b4, ByteArray.toList_mk]; simp
  clear b4
  go_wp2_with fail
  refine (HL.out _).mono ?_
  rintro y w3 ⟨rfl, hb3⟩
  replace hb1 := hb1.trans (hb3.mono hb1.size)
  clear hb3
  go_wp2_with fail
  refine (fixed_any _).mono ?_
  rintro y w3 ⟨rfl, hb3⟩
  replace hb1 := hb1.trans (hb3.mono hb1.size)
  clear hb3
  go_wp2_with fail
  go_ret
  exact ⟨rfl, hb1⟩

set_option maxRecDepth 100000 in
set_option maxHeartbeats 4000000 in
theorem part_ok_ok (a0 x : ByteArray) (K n i : Nat) (l : List Nat) (w : World)
    (hx : x.size ≤ 200) (hxe : a0.extract 0 (min (a0.size : Int) 200).toNat = x) (hxs : min (min (a0.size : Int) 200).toNat a0.size = x.size)
    (HG : Hid (∀ w, Calls Try.prog 12 #[.string x, .int .i64 (K : Int)] w fun y w' => y = .returned (.tuple #[.int .i64 n, .int .i64 ((K : Int) + (i : Int)), .int .i64 0]) ∧ Below w.heap.size w w'))
    (HL : Hid (∀ w, Calls Try.prog 17 #[.string x] w fun y w' => (∃ v, y = .returned (.tuple #[v, .int .i64 0]) ∧ IsInts w' w'.heap.size v (l.map (fun (n : Nat) => (n : Int)))) ∧ Below w.heap.size w w')) (hll : l.length ≤ 200) (HQ : Hid (ByteArray.mk (W.puts (l.map (fun (n : Nat) => (n : Int)))).toArray = x)) (hn : n ≤ 2147483647) (hi0 : 0 < i) (hKi : K + i ≤ x.size) (HP : Hid ((ByteArray.mk (W.put n).toArray).toList = (x.extract K (K + i)).toList)) :
    Calls Try.prog 9 #[.string a0, .int .i64 (K : Int)] w fun e w' => e = .returned (.bool true) ∧ Below w.heap.size w w' := by
  have n0 : ((0 : Int) == 0) = true := rfl
  have n0' : ((0 : Int) != 0) = false := rfl
  have b1 : decide ((K : Int) < 0) = false := decide_eq_false (by omega)
  have b2 : decide ((K : Int) + i ≤ K) = false := decide_eq_false (by omega)
  have b3 : decide ((x.size : Int) < (K : Int) + i) = false := decide_eq_false (by omega)
  go_enter Try.func9, Try.ntmps9
  go_wp2_with fail
  refine (HG.out _).mono ?_
  rintro y w1 ⟨rfl, hb1⟩
  replace hb1 := hb1.drew
  go_wp2_with fail
  refine wp_region_any (by kernel_rfl) ?_
  refine wpAny_plan 0 [0,1,2,3,4,5,6,7,8,9,10,11,12,13,14,15,16,17,19,20,21] 3932159 5 (by kernel_rfl) (by kernel_rfl) (fun _ _ _ _ _ h => h) (by kernel_rfl) (of_decide_eq_true (by kernel_rfl)) (by kernel_rfl) (by kernel_rfl) (of_decide_eq_true (by kernel_rfl)) ?_ (fun _ _ h => h)
  simp only [List.map_cons, List.map_nil, List.getD_cons_succ, List.getD_cons_zero]
  go_wp2_with fail
  change wpAny _ _ _ _ _ _ _ _
  refine wpAny_take (i := 22) (v := .string (x.extract K (K + i))) rfl (by kernel_rfl) (by kernel_rfl) (by kernel_rfl) (fun _ _ _ h => h) (Or.inl ⟨by rfl, by intro w; go_simp; rw [if_pos ⟨by omega, by omega⟩, if_pos (by omega), show ((K : Int) + (i : Int)).toNat = K + i from by omega]⟩) ?_
  refine wpAny_planEnd 8126463 [18,23,24,25] (by kernel_rfl) (by kernel_rfl) (fun _ _ _ _ _ h => h) (by kernel_rfl) (of_decide_eq_true (by kernel_rfl)) (of_decide_eq_true (by kernel_rfl)) (by kernel_rfl) ?_
  simp only [List.map_cons, List.map_nil, List.getD_cons_succ, List.getD_cons_zero]
  go_wp2_with fail
  refine (put_any _ _).mono ?_
  rintro y w2 ⟨rfl, hb2⟩
  replace hb1 := hb1.trans (hb2.mono hb1.size)
  clear hb2
  have b4 := HP.out
  have b5 : ((ByteArray.mk (W.put n).toArray).toList == (x.extract K (K + i)).toList) = true := by rw [b4]; simp
  have b7 : ((ByteArray.mk (W.put n).toArray).toList != (x.extract K (K + i)).toList) = false := by rw [b4]; simp
  have b8 : (!((ByteArray.mk (W.put n).toArray).toList == (x.extract K (K + i)).toList)) = false := by rw [b4]; simp
  have b9 : (W.put n == (x.extract K (K + i)).toList) = true := by rw [← b4, ByteArray.toList_mk]; simp
  clear b4
  go_wp2_with fail
  refine (HL.out _).mono ?_
  rintro y w3 ⟨⟨v, rfl, hv⟩, hb3⟩
  replace hb1 := hb1.trans (hb3.mono hb1.size)
  clear hb3
  go_wp2_with fail
  refine (puts_q HQ.out hv (by simp; omega)).mono ?_
  rintro y w3 ⟨rfl, hb3⟩
  replace hb1 := hb1.trans (hb3.mono hb1.size)
  clear hb3
  have b6 : (x.toList == x.toList) = true := by simp
  go_wp2_with fail
  refine (fixed_any _).mono ?_
  rintro y w3 ⟨rfl, hb3⟩
  replace hb1 := hb1.trans (hb3.mono hb1.size)
  clear hb3
  go_wp2_with fail
  go_ret
  exact ⟨rfl, hb1⟩

set_option maxRecDepth 100000 in
theorem walk (a0 : ByteArray) (a1 : Int) (_ : (Lit.int .i64 a1).wf = true) (w : World) :
    Calls Try.prog 9 #[.string a0, .int .i64 a1] w fun e w' => e = .returned (.bool true) ∧ Below w.heap.size w w' := by
  have hx := cut_size a0 200 (min (a0.size : Int) 200).toNat (by omega)
  obtain ⟨x, hxe⟩ : ∃ x, a0.extract 0 (min (a0.size : Int) 200).toNat = x := ⟨_, rfl⟩
  rw [hxe] at hx
  have hxs : min (min (a0.size : Int) 200).toNat a0.size = x.size := by rw [← hxe, ByteArray.size_extract]; omega
  by_cases hk : 0 ≤ a1 ∧ a1 ≤ x.size
  · obtain ⟨K, rfl⟩ := Int.eq_ofNat_of_zero_le hk.1
    have hg := fun w => get_any x K w (by omega) (by omega)
    cases hr : W.rd (x.data.toList.drop K) 0 0 with
    | bad e =>
      rw [hr] at hg
      have he : (1 : Int) ≤ e := by have := rd_err _ _ _ _ hr; omega
      cases ha : W.all x.data.toList with
      | bad f => exact part_bad_bad a0 x K e f w hx hxe hxs (Lib.hid hg) (Lib.hid (fun w => (all_any x w (by omega)).mono (by rw [ha]; rintro y w' ⟨rfl, hb⟩; exact ⟨rfl, hb⟩))) (by have := all_err _ _ _ (Nat.le_refl _) ha; omega) he
      | ok l =>
        have hl := all_count _ _ _ (Nat.le_refl _) ha
        rw [size_data] at hl
        exact part_bad_ok a0 x K e l w hx hxe hxs (Lib.hid hg) (Lib.hid (fun w => (all_any x w (by omega)).mono (by rw [ha]; rintro y w' ⟨⟨v, rfl, hown⟩, hb⟩; exact ⟨⟨v, rfl, isInts_of_own hown⟩, hb⟩))) (by omega) (Lib.hid (once_all ha)) he
    | ok n i =>
      rw [hr] at hg
      have hp := W.rd_pos _ _ _ _ _ hr
      have hq : K + i ≤ x.size := by have := hp.2.1; rw [List.length_drop, size_data] at this; omega
      cases ha : W.all x.data.toList with
      | bad f => exact part_ok_bad a0 x K n i f w hx hxe hxs (Lib.hid hg) (Lib.hid (fun w => (all_any x w (by omega)).mono (by rw [ha]; rintro y w' ⟨rfl, hb⟩; exact ⟨rfl, hb⟩))) (by have := all_err _ _ _ (Nat.le_refl _) ha; omega) hp.2.2 hp.1 hq (Lib.hid (once_get hr))
      | ok l =>
        have hl := all_count _ _ _ (Nat.le_refl _) ha
        rw [size_data] at hl
        exact part_ok_ok a0 x K n i l w hx hxe hxs (Lib.hid hg) (Lib.hid (fun w => (all_any x w (by omega)).mono (by rw [ha]; rintro y w' ⟨⟨v, rfl, hown⟩, hb⟩; exact ⟨⟨v, rfl, isInts_of_own hown⟩, hb⟩))) (by omega) (Lib.hid (once_all ha)) hp.2.2 hp.1 hq (Lib.hid (once_get hr))
  · have hg := fun w => get_bad x a1 w hk
    cases ha : W.all x.data.toList with
    | bad f => exact part_bad_bad a0 x a1 1 f w hx hxe hxs (Lib.hid hg) (Lib.hid (fun w => (all_any x w (by omega)).mono (by rw [ha]; rintro y w' ⟨rfl, hb⟩; exact ⟨rfl, hb⟩))) (by have := all_err _ _ _ (Nat.le_refl _) ha; omega) (by omega)
    | ok l =>
      have hl := all_count _ _ _ (Nat.le_refl _) ha
      rw [size_data] at hl
      exact part_bad_ok a0 x a1 1 l w hx hxe hxs (Lib.hid hg) (Lib.hid (fun w => (all_any x w (by omega)).mono (by rw [ha]; rintro y w' ⟨⟨v, rfl, hown⟩, hb⟩; exact ⟨⟨v, rfl, isInts_of_own hown⟩, hb⟩))) (by omega) (Lib.hid (once_all ha)) (by omega)
end wordOnce
end Go.Proofs.Ytlgacmhkkepjfaa
