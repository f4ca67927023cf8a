/- WordTells: the walk. -/
import Derived.Test.YtlgacmhkkepjfaaWFrom
import Derived.Test.YtlgacmhkkepjfaaSeq
namespace Go.Proofs.Ytlgacmhkkepjfaa
open Go.RowKit

theorem ints_cut {w : World} {B : Nat} {A : Option Addr} {xs : List Int} {c k : Nat} (hn : xs.length ≤ c) (hm : c ≤ maxLen)
    (hc : xs ≠ [] → ∃ g o, A = some ⟨g, o, none⟩ ∧ g < B ∧ ∀ k, k < xs.length → w.cell? ⟨g, o + k, none⟩ = some (.int .i64 (xs.getD k 0))) :
    IsInts w B (.slice A (min (xs.length : Int) (k : Int)).toNat c) (xs.take k) := by
  refine ⟨A, c, by congr 1; simp; omega, by simp; omega, hm, fun hne => ?_⟩
  obtain ⟨g, o, rfl, hg, hk⟩ := hc (by rintro rfl; simp at hne)
  refine ⟨g, o, rfl, hg, fun j hj => ?_⟩
  have hj2 : j < k ∧ j < xs.length := by simp at hj; omega
  rw [hk j hj2.2]
  simp [List.getD, hj2.1]

/-- Get at any place: the program's and the document's. -/
theorem get_int (s : ByteArray) (at_ : Int) (hs : s.size ≤ 1000000000) : ∃ a b c : Int,
    (∀ w, Calls Try.prog 12 #[.string s, .int .i64 at_] w fun x w' => x = .returned (.tuple #[.int .i64 a, .int .i64 b, .int .i64 c]) ∧ Below w.heap.size w w') ∧
    (∀ w, Calls Try.prog 16 #[.string s, .int .i64 at_] w fun x w' => x = .returned (.tuple #[.int .i64 a, .int .i64 b, .int .i64 c]) ∧ w = w') := by
  by_cases h : 0 ≤ at_ ∧ at_ ≤ s.size
  · obtain ⟨k, rfl⟩ := Int.eq_ofNat_of_zero_le h.1
    have h1 := fun w => get_any s k w hs (by omega)
    have h2 := fun w => rget_any s k w hs (by omega)
    cases hr : W.rd (s.data.toList.drop k) 0 0 with
    | bad e => rw [hr] at h1 h2; exact ⟨_, _, _, h1, h2⟩
    | ok n i => rw [hr] at h1 h2; exact ⟨_, _, _, h1, h2⟩
  · exact ⟨0, 0, 1, fun w => get_bad s at_ w h, fun w => rget_bad s at_ w h⟩

theorem take_int (s : ByteArray) (at_ top : Int) (hs : s.size ≤ 1000000000) : ∃ (t : ByteArray) (b c : Int),
    (∀ w, Calls Try.prog 14 #[.string s, .int .i64 at_, .int .i64 top] w fun x w' => x = .returned (.tuple #[.string t, .int .i64 b, .int .i64 c]) ∧ Below w.heap.size w w') ∧
    (∀ w, Calls Try.prog 19 #[.string s, .int .i64 at_, .int .i64 top] w fun x w' => x = .returned (.tuple #[.string t, .int .i64 b, .int .i64 c]) ∧ w = w') := by
  by_cases h : 0 ≤ at_ ∧ at_ ≤ s.size
  · obtain ⟨k, rfl⟩ := Int.eq_ofNat_of_zero_le h.1
    have h1 := fun w => take_any s k top w hs (by omega)
    have h2 := fun w => rtake_any s k top w hs (by omega)
    cases hr : W.take (s.data.toList.drop k) top with
    | bad e => rw [hr] at h1 h2; exact ⟨_, _, _, h1, h2⟩
    | ok n i => rw [hr] at h1 h2; exact ⟨_, _, _, h1, h2⟩
  · exact ⟨⟨#[]⟩, 0, 1, fun w => take_nowhere s at_ top w h, fun w => rtake_nowhere s at_ top w h⟩

theorem all_count : ∀ (k : Nat) (l : List UInt8) (r : List Nat), l.length ≤ k → W.all l = .ok r → r.length ≤ l.length := by
  intro k
  induction k with
  | zero =>
    intro l r hl h
    have : l = [] := List.eq_nil_of_length_eq_zero (by omega)
    subst this; rw [W.all_nil] at h; injection h with h; subst h; simp
  | succ k ih =>
    intro l r hl h
    cases hr : W.rd l 0 0 with
    | bad e =>
      by_cases hn : l = []
      · subst hn; rw [W.all_nil] at h; injection h with h; subst h; simp
      · rw [W.all_bad hn hr] at h; cases h
    | ok n i =>
      have hp := W.rd_pos _ _ _ _ _ hr
      rw [W.all_ok hr] at h
      cases hd : W.all (l.drop i) with
      | bad e => rw [hd] at h; cases h
      | ok r' =>
        rw [hd] at h; simp only [W.Alls.pre] at h; injection h with h; subst h
        have := ih (l.drop i) r' (by simp; omega) hd
        simp at *; omega

theorem isInts_none (w : World) (B : Nat) : IsInts w B (.slice none 0 0) [] := ⟨none, 0, rfl, by simp, by unfold maxLen; omega, fun h => absurd rfl h⟩

theorem all_both (s : ByteArray) (hs : s.size ≤ 1000000) : ∃ (zs : List Int) (e : Int), zs.length ≤ 1000000 ∧
    (∀ w, Calls Try.prog 17 #[.string s] w fun x w' => (∃ v, x = .returned (.tuple #[v, .int .i64 e]) ∧ IsInts w' w'.heap.size v zs) ∧ Below w.heap.size w w') ∧
    (∀ w, Calls Try.prog 18 #[.string s] w fun x w' => (∃ v, x = .returned (.tuple #[v, .int .i64 e]) ∧ IsInts w' w'.heap.size v zs) ∧ Below w.heap.size w w') := by
  cases hr : W.all s.data.toList with
  | bad e =>
    refine ⟨[], e, by simp, fun w => (all_any s w (by omega)).mono ?_, fun w => (rall_any s w (by omega)).mono ?_⟩
    all_goals
      rw [hr]
      rintro x w' ⟨rfl, hb⟩
      exact ⟨⟨_, rfl, isInts_none _ _⟩, hb⟩
  | ok l =>
    have hl := all_count _ _ _ (Nat.le_refl _) hr
    rw [size_data] at hl
    refine ⟨l.map (fun (n : Nat) => (n : Int)), 0, by simp; omega, fun w => (all_any s w (by omega)).mono ?_, fun w => (rall_any s w (by omega)).mono ?_⟩
    all_goals
      rw [hr]
      rintro x w' ⟨⟨v, rfl, hown⟩, hb⟩
      exact ⟨⟨v, rfl, isInts_of_own hown⟩, hb⟩

theorem puts_q {v : Value} {xs : List Int} {w : World} {Q : ByteArray} (hQ : ByteArray.mk (W.puts xs).toArray = Q) (h : IsInts w w.heap.size v xs) (hs : xs.length ≤ 1000000) : Calls Try.prog 21 #[v] w
    fun x w' => x = .returned (.string Q) ∧ Below w.heap.size w w' := by subst hQ; exact puts_any v xs w h hs
theorem rputs_q {v : Value} {xs : List Int} {w : World} {Q : ByteArray} (hQ : ByteArray.mk (W.puts xs).toArray = Q) (h : IsInts w w.heap.size v xs) (hs : xs.length ≤ 1000000) : Calls Try.prog 22 #[v] w
    fun x w' => x = .returned (.string Q) ∧ Below w.heap.size w w' := by subst hQ; exact rputs_any v xs w h hs

namespace wordTells

set_option maxRecDepth 100000 in
set_option maxHeartbeats 4000000 in
theorem walk (v0 : Value) (x0 : List Int) (w : World) (hx0 : IsInts w w.heap.size v0 x0) (a1 : ByteArray) (x2 y2 : Int) :
    Calls Try.prog 8 #[v0, .string a1, .agg #[.int .i64 x2, .int .i64 y2]] w fun e w' => e = .returned (.bool true) ∧ Below w.heap.size w w' := by
  obtain ⟨A, c, rfl, hn, hm, hc⟩ := hx0
  have hV := ints_cut (k := 40) hn hm hc
  have hVl : (x0.take 40).length ≤ 40 := by simp; omega
  generalize hxs : x0.take 40 = xs at hV hVl
  clear hxs hc
  have HV := Lib.hid hV; clear hV
  have hn' : (x0.length : Int) ≤ c := by omega
  unfold maxLen at hm
  have hx := cut_size a1 200 (min (a1.size : Int) 200).toNat (by omega)
  obtain ⟨s, hse⟩ : ∃ s, a1.extract 0 (min (a1.size : Int) 200).toNat = s := ⟨_, rfl⟩
  rw [hse] at hx
  obtain ⟨ga, gb, gc, hg, hg'⟩ := get_int s x2 (by omega)
  obtain ⟨ta, tb, tc, ht, ht'⟩ := take_int s x2 y2 (by omega)
  obtain ⟨zs, ze, hzl, hz, hz'⟩ := all_both s (by omega)
  have HG := Lib.hid hg; clear hg
  have HG' := Lib.hid hg'; clear hg'
  have HT := Lib.hid ht; clear ht
  have HT' := Lib.hid ht'; clear ht'
  have HZ := Lib.hid hz; clear hz
  have HZ' := Lib.hid hz'; clear hz'
  obtain ⟨P, hP, hP'⟩ : ∃ P, (∀ w, Calls Try.prog 11 #[.int .i64 x2] w fun x w' => x = .returned (.string P) ∧ Below w.heap.size w w') ∧ (∀ w, Calls Try.prog 20 #[.int .i64 x2] w fun x w' => x = .returned (.string P) ∧ Below w.heap.size w w') := ⟨_, put_any x2, rput_any x2⟩
  obtain ⟨T, hT, hT'⟩ : ∃ T, (∀ w, Calls Try.prog 15 #[.string s] w fun x w' => x = .returned (.string T) ∧ Below w.heap.size w w') ∧ (∀ w, Calls Try.prog 23 #[.string s] w fun x w' => x = .returned (.string T) ∧ Below w.heap.size w w') := ⟨_, fun w => text_any s w (by omega), fun w => rtext_any s w (by omega)⟩
  obtain ⟨Q, hQ⟩ : ∃ Q, ByteArray.mk (W.puts xs).toArray = Q := ⟨_, rfl⟩
  have HP := Lib.hid hP; clear hP
  have HP' := Lib.hid hP'; clear hP'
  have HTT := Lib.hid hT; clear hT
  have HTT' := Lib.hid hT'; clear hT'
  have HQ := Lib.hid hQ; clear hQ
  have n1 : (ta.toList == ta.toList) = true := by simp
  have n2 : (P.toList == P.toList) = true := by simp
  have n3 : (Q.toList == Q.toList) = true := by simp
  have n4 : (T.toList == T.toList) = true := by simp
  go_enter Try.func8, Try.ntmps8
  simp only [List.append_eq, List.cons_append, List.nil_append]
  go_wp2_with fail
  refine (HG.out _).mono ?_
  rintro e w1 ⟨rfl, hb1⟩
  have bb1 : Below (w.heap.size + 1) (w.alloc (.cells #[.int .i64 x2, .int .i64 y2] 35)) w1 := hb1.mono (by simp)
  have k0 : w1.cell? ⟨w.heap.size, 0, none⟩ = some (.int .i64 x2) := (bb1.cell (by simp)).trans (by simp [go_sem])
  have k1 : w1.cell? ⟨w.heap.size, 1, none⟩ = some (.int .i64 y2) := (bb1.cell (by simp)).trans (by simp [go_sem])
  clear hse
  go_wp2_with fail
  clear k0 k1
  refine (HG'.out _).mono ?_
  rintro e w2 ⟨rfl, rfl⟩
  have k0 : w1.cell? ⟨w.heap.size, 0, none⟩ = some (.int .i64 x2) := (bb1.cell (by simp)).trans (by simp [go_sem])
  have k1 : w1.cell? ⟨w.heap.size, 1, none⟩ = some (.int .i64 y2) := (bb1.cell (by simp)).trans (by simp [go_sem])
  go_wp2_with fail
  clear k0 k1
  refine (HZ.out _).mono ?_
  rintro e w2 ⟨⟨v2, rfl, i2⟩, hb2⟩
  have bb2 := bb1.trans (hb2.mono (by have := bb1.size; simpa using this)); clear bb1
  have k0 : w2.cell? ⟨w.heap.size, 0, none⟩ = some (.int .i64 x2) := (bb2.cell (by simp)).trans (by simp [go_sem])
  have k1 : w2.cell? ⟨w.heap.size, 1, none⟩ = some (.int .i64 y2) := (bb2.cell (by simp)).trans (by simp [go_sem])
  have I2 := Lib.hid i2; clear i2
  go_wp2_with fail
  clear k0 k1
  refine (HZ'.out _).mono ?_
  rintro e w3 ⟨⟨v3, rfl, i3⟩, hb3⟩
  have bb3 := bb2.trans (hb3.mono (by have := bb2.size; simpa using this)); clear bb2
  have k0 : w3.cell? ⟨w.heap.size, 0, none⟩ = some (.int .i64 x2) := (bb3.cell (by simp)).trans (by simp [go_sem])
  have k1 : w3.cell? ⟨w.heap.size, 1, none⟩ = some (.int .i64 y2) := (bb3.cell (by simp)).trans (by simp [go_sem])
  have cc := (Below.refl w2.heap.size w2).trans hb3
  have dd := Below.refl w3.heap.size w3
  have I3 := Lib.hid i3; clear i3
  go_wp2_with fail
  refine (HT.out _).mono ?_
  rintro e w4 ⟨rfl, hb4⟩
  have bb4 := bb3.trans (hb4.mono (by have := bb3.size; simpa using this)); clear bb3
  have k0 : w4.cell? ⟨w.heap.size, 0, none⟩ = some (.int .i64 x2) := (bb4.cell (by simp)).trans (by simp [go_sem])
  have k1 : w4.cell? ⟨w.heap.size, 1, none⟩ = some (.int .i64 y2) := (bb4.cell (by simp)).trans (by simp [go_sem])
  replace cc := cc.trans (hb4.mono cc.size)
  replace dd := dd.trans (hb4.mono dd.size)
  go_wp2_with fail
  refine (HT'.out _).mono ?_
  rintro e w5 ⟨rfl, rfl⟩
  go_wp2_with fail
  clear k0 k1
  have bb := bb4.drew; clear bb4
  replace cc := cc.drew
  replace dd := dd.drew
  have hV1 : ∀ W, Below (w.heap.size + 1) (w.alloc (.cells #[.int .i64 x2, .int .i64 y2] 35)) W → IsInts W W.heap.size (.slice A (min (x0.length : Int) ((40 : Nat) : Int)).toNat c) xs := fun W hb =>
    (HV.out.keep (((Below.refl _ _).alloc (Nat.le_refl _) _).trans (hb.mono (by simp)))).up (by have := hb.size; simp at this; omega)
  have HV1 := Lib.hid hV1; clear hV1
  have hK0 : ∀ W, Below (w.heap.size + 1) (w.alloc (.cells #[.int .i64 x2, .int .i64 y2] 35)) W → W.cell? ⟨w.heap.size, 0, none⟩ = some (.int .i64 x2) := fun W hb => (hb.cell (by simp)).trans (by simp [go_sem])
  have HK0 := Lib.hid hK0; clear hK0
  have k0 := HK0.out _ bb
  refine wp_region_any (by kernel_rfl) ?_
  change wpAny _ _ _ _ _ _ _ (World.drew _)
  refine wpAny_take (i := 0) (v := .pointer (some ⟨w.heap.size, 0, none⟩)) rfl (by kernel_rfl) (by kernel_rfl) (by kernel_rfl) (fun _ _ _ h => h) (Or.inl ⟨by rfl, by intro w; go_simp⟩) ?_
  refine wpAny_take (i := 3) (v := .pointer (some ⟨w.heap.size, 0, none⟩)) rfl (by kernel_rfl) (by kernel_rfl) (by kernel_rfl) (fun _ _ _ h => h) (Or.inl ⟨by rfl, by intro w; go_simp⟩) ?_
  refine wpAny_ready (rs := [1, 4]) (by kernel_rfl) (by simp) ?_
  refine AllReady.cons rfl (fun K hK => ?_) (AllReady.cons rfl (fun K hK => ?_) AllReady.nil)
  · go_simp
    refine hK _ _ ?_
    clear hK K
    refine wpAny_ready (rs := [2, 4]) (by kernel_rfl) (by simp) ?_
    refine AllReady.cons rfl (fun K hK => ?_) (AllReady.cons rfl (fun K hK => ?_) AllReady.nil)
    · go_simp
      refine (HP.out _).mono ?_
      rintro e w' ⟨rfl, hb⟩
      replace bb := bb.trans (hb.mono (by have := bb.size; simpa using this)); replace cc := cc.trans (hb.mono cc.size); replace dd := dd.trans (hb.mono dd.size)
      have k0 := HK0.out _ bb
      clear hb
      refine hK _ _ ?_
      clear hK K
      refine wpAny_ready (rs := [4]) (by kernel_rfl) (by simp) ?_
      refine AllReady.cons rfl (fun K hK => ?_) AllReady.nil
      go_simp
      refine hK _ _ ?_
      clear hK K
      refine wpAny_swaps 5 31 [4, 11] (by kernel_rfl) (by kernel_rfl) (fun _ _ _ _ _ h => h) (by kernel_rfl) (by kernel_rfl) (of_decide_eq_true (by kernel_rfl)) (by kernel_rfl) ?_
      simp only [swaps, swapAt, List.drop_succ_cons, List.drop_zero]
      go_wp2_with fail
      refine (HP'.out _).mono ?_
      rintro e w' ⟨rfl, hb⟩
      replace bb := bb.trans (hb.mono (by have := bb.size; simpa using this)); replace cc := cc.trans (hb.mono cc.size); replace dd := dd.trans (hb.mono dd.size)
      clear hb
      go_wp2_with fail
      refine (puts_q HQ.out (HV1.out _ bb) (by omega)).mono ?_
      rintro e w' ⟨rfl, hb⟩
      replace bb := bb.trans (hb.mono (by have := bb.size; simpa using this)); replace cc := cc.trans (hb.mono cc.size); replace dd := dd.trans (hb.mono dd.size)
      clear hb
      go_wp2_with fail
      refine (rputs_q HQ.out (HV1.out _ bb) (by omega)).mono ?_
      rintro e w' ⟨rfl, hb⟩
      replace bb := bb.trans (hb.mono (by have := bb.size; simpa using this)); replace cc := cc.trans (hb.mono cc.size); replace dd := dd.trans (hb.mono dd.size)
      clear hb
      go_wp2_with fail
      refine (HTT.out _).mono ?_
      rintro e w' ⟨rfl, hb⟩
      replace bb := bb.trans (hb.mono (by have := bb.size; simpa using this)); replace cc := cc.trans (hb.mono cc.size); replace dd := dd.trans (hb.mono dd.size)
      clear hb
      go_wp2_with fail
      refine (HTT'.out _).mono ?_
      rintro e w' ⟨rfl, hb⟩
      replace bb := bb.trans (hb.mono (by have := bb.size; simpa using this)); replace cc := cc.trans (hb.mono cc.size); replace dd := dd.trans (hb.mono dd.size)
      clear hb
      go_wp2_with fail
      refine (ints_any _ _ zs zs _ ((I2.out.keep cc).up cc.size) ((I3.out.keep dd).up dd.size) hzl hzl).mono ?_
      rintro e w' ⟨rfl, hb⟩
      replace bb := bb.trans (hb.mono (by have := bb.size; simpa using this))
      clear hb cc dd
      have n5 : decide (zs = zs) = true := by simp
      go_wp2_with fail
      refine (fixed_any _).mono ?_
      rintro e w' ⟨rfl, hb⟩
      replace bb := bb.trans (hb.mono (by have := bb.size; simpa using this))
      go_wp2_with fail
      go_ret
      exact ⟨rfl, ((Below.refl _ _).alloc (Nat.le_refl _) _).trans (bb.mono (by omega))⟩
    · go_simp
      refine hK _ _ ?_
      clear hK K
      refine wpAny_ready (rs := [2]) (by kernel_rfl) (by simp) ?_
      refine AllReady.cons rfl (fun K hK => ?_) AllReady.nil
      go_simp
      refine (HP.out _).mono ?_
      rintro e w' ⟨rfl, hb⟩
      replace bb := bb.trans (hb.mono (by have := bb.size; simpa using this)); replace cc := cc.trans (hb.mono cc.size); replace dd := dd.trans (hb.mono dd.size)
      have k0 := HK0.out _ bb
      clear hb
      refine hK _ _ ?_
      clear hK K
      refine wpAny_swaps 5 31 [4, 11] (by kernel_rfl) (by kernel_rfl) (fun _ _ _ _ _ h => h) (by kernel_rfl) (by kernel_rfl) (of_decide_eq_true (by kernel_rfl)) (by kernel_rfl) ?_
      simp only [swaps, swapAt, List.drop_succ_cons, List.drop_zero]
      go_wp2_with fail
      refine (HP'.out _).mono ?_
      rintro e w' ⟨rfl, hb⟩
      replace bb := bb.trans (hb.mono (by have := bb.size; simpa using this)); replace cc := cc.trans (hb.mono cc.size); replace dd := dd.trans (hb.mono dd.size)
      clear hb
      go_wp2_with fail
      refine (puts_q HQ.out (HV1.out _ bb) (by omega)).mono ?_
      rintro e w' ⟨rfl, hb⟩
      replace bb := bb.trans (hb.mono (by have := bb.size; simpa using this)); replace cc := cc.trans (hb.mono cc.size); replace dd := dd.trans (hb.mono dd.size)
      clear hb
      go_wp2_with fail
      refine (rputs_q HQ.out (HV1.out _ bb) (by omega)).mono ?_
      rintro e w' ⟨rfl, hb⟩
      replace bb := bb.trans (hb.mono (by have := bb.size; simpa using this)); replace cc := cc.trans (hb.mono cc.size); replace dd := dd.trans (hb.mono dd.size)
      clear hb
      go_wp2_with fail
      refine (HTT.out _).mono ?_
      rintro e w' ⟨rfl, hb⟩
      replace bb := bb.trans (hb.mono (by have := bb.size; simpa using this)); replace cc := cc.trans (hb.mono cc.size); replace dd := dd.trans (hb.mono dd.size)
      clear hb
      go_wp2_with fail
      refine (HTT'.out _).mono ?_
      rintro e w' ⟨rfl, hb⟩
      replace bb := bb.trans (hb.mono (by have := bb.size; simpa using this)); replace cc := cc.trans (hb.mono cc.size); replace dd := dd.trans (hb.mono dd.size)
      clear hb
      go_wp2_with fail
      refine (ints_any _ _ zs zs _ ((I2.out.keep cc).up cc.size) ((I3.out.keep dd).up dd.size) hzl hzl).mono ?_
      rintro e w' ⟨rfl, hb⟩
      replace bb := bb.trans (hb.mono (by have := bb.size; simpa using this))
      clear hb cc dd
      have n5 : decide (zs = zs) = true := by simp
      go_wp2_with fail
      refine (fixed_any _).mono ?_
      rintro e w' ⟨rfl, hb⟩
      replace bb := bb.trans (hb.mono (by have := bb.size; simpa using this))
      go_wp2_with fail
      go_ret
      exact ⟨rfl, ((Below.refl _ _).alloc (Nat.le_refl _) _).trans (bb.mono (by omega))⟩
  · go_simp
    refine hK _ _ ?_
    clear hK K
    refine wpAny_ready (rs := [1]) (by kernel_rfl) (by simp) ?_
    refine AllReady.cons rfl (fun K hK => ?_) AllReady.nil
    go_simp
    refine hK _ _ ?_
    clear hK K
    refine wpAny_ready (rs := [2]) (by kernel_rfl) (by simp) ?_
    refine AllReady.cons rfl (fun K hK => ?_) AllReady.nil
    go_simp
    refine (HP.out _).mono ?_
    rintro e w' ⟨rfl, hb⟩
    replace bb := bb.trans (hb.mono (by have := bb.size; simpa using this)); replace cc := cc.trans (hb.mono cc.size); replace dd := dd.trans (hb.mono dd.size)
    have k0 := HK0.out _ bb
    clear hb
    refine hK _ _ ?_
    clear hK K
    refine wpAny_swaps 5 31 [4, 11] (by kernel_rfl) (by kernel_rfl) (fun _ _ _ _ _ h => h) (by kernel_rfl) (by kernel_rfl) (of_decide_eq_true (by kernel_rfl)) (by kernel_rfl) ?_
    simp only [swaps, swapAt, List.drop_succ_cons, List.drop_zero]
    go_wp2_with fail
    refine (HP'.out _).mono ?_
    rintro e w' ⟨rfl, hb⟩
    replace bb := bb.trans (hb.mono (by have := bb.size; simpa using this)); replace cc := cc.trans (hb.mono cc.size); replace dd := dd.trans (hb.mono dd.size)
    clear hb
    go_wp2_with fail
    refine (puts_q HQ.out (HV1.out _ bb) (by omega)).mono ?_
    rintro e w' ⟨rfl, hb⟩
    replace bb := bb.trans (hb.mono (by have := bb.size; simpa using this)); replace cc := cc.trans (hb.mono cc.size); replace dd := dd.trans (hb.mono dd.size)
    clear hb
    go_wp2_with fail
    refine (rputs_q HQ.out (HV1.out _ bb) (by omega)).mono ?_
    rintro e w' ⟨rfl, hb⟩
    replace bb := bb.trans (hb.mono (by have := bb.size; simpa using this)); replace cc := cc.trans (hb.mono cc.size); replace dd := dd.trans (hb.mono dd.size)
    clear hb
    go_wp2_with fail
    refine (HTT.out _).mono ?_
    rintro e w' ⟨rfl, hb⟩
    replace bb := bb.trans (hb.mono (by have := bb.size; simpa using this)); replace cc := cc.trans (hb.mono cc.size); replace dd := dd.trans (hb.mono dd.size)
    clear hb
    go_wp2_with fail
    refine (HTT'.out _).mono ?_
    rintro e w' ⟨rfl, hb⟩
    replace bb := bb.trans (hb.mono (by have := bb.size; simpa using this)); replace cc := cc.trans (hb.mono cc.size); replace dd := dd.trans (hb.mono dd.size)
    clear hb
    go_wp2_with fail
    refine (ints_any _ _ zs zs _ ((I2.out.keep cc).up cc.size) ((I3.out.keep dd).up dd.size) hzl hzl).mono ?_
    rintro e w' ⟨rfl, hb⟩
    replace bb := bb.trans (hb.mono (by have := bb.size; simpa using this))
    clear hb cc dd
    have n5 : decide (zs = zs) = true := by simp
    go_wp2_with fail
    refine (fixed_any _).mono ?_
    rintro e w' ⟨rfl, hb⟩
    replace bb := bb.trans (hb.mono (by have := bb.size; simpa using this))
    go_wp2_with fail
    go_ret
    exact ⟨rfl, ((Below.refl _ _).alloc (Nat.le_refl _) _).trans (bb.mono (by omega))⟩
end wordTells
end Go.Proofs.Ytlgacmhkkepjfaa
