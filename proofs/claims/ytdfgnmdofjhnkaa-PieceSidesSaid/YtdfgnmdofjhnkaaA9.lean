/- The document's functions of layer 1: All, Take; a place that is none. -/
import Derived.Test.YtdfgnmdofjhnkaaA8
namespace Go.Proofs.Ytdfgnmdofjhnkaa
open Go.RowKit

theorem rget_bad (s : ByteArray) (at_ : Int) (w : World) (h : ¬ (0 ≤ at_ ∧ at_ ≤ s.size)) : Calls Try.prog 42 #[.string s, .int .i64 at_] w
    fun x w' => x = .returned (.tuple #[.int .i64 0, .int .i64 0, .int .i64 1]) ∧ w = w' := by
  by_cases h0 : 0 ≤ at_
  · have h1 : (s.size : Int) < at_ := by omega
    clear h
    go_enter Try.func42, Try.ntmps42
    go_wp2_with fail
    exact bodyPost_ret (results_tmp3 rfl _ _ _) rfl ⟨rfl, rfl⟩
  · have h1 : at_ < 0 := by omega
    clear h h0
    go_enter Try.func42, Try.ntmps42
    go_wp2_with fail
    exact bodyPost_ret (results_tmp3 rfl _ _ _) rfl ⟨rfl, rfl⟩

def RAllRel (l : List UInt8) (w : World) (k : Nat) (v b : Value) (wr : World) : Prop :=
  ∃ (at_ : Nat) (acc : List Nat), v = .int .i64 at_ ∧ at_ ≤ l.length ∧ k = l.length - at_ ∧ acc.length ≤ at_ ∧
    wr.ownsRow w.heap.size 3 1 b acc.length (i64s acc) ∧ W.all l = (W.all (l.drop at_)).pre acc ∧ Below w.heap.size w wr

theorem rall_start (l : List UInt8) (w : World) : RAllRel l w l.length (.int .i64 0) (.slice (some ⟨w.heap.size, 0, none⟩) 0 0) (w.alloc (.cells #[] 3)) :=
  ⟨0, [], rfl, by omega, by omega, by simp, ⟨by simp, .inr ⟨w.heap.size, 0, _, rfl, Nat.le_refl _, heap_alloc_new _ _, Nat.le_refl _, by unfold maxLen; omega, rfl, rfl⟩⟩, by simp [W.Alls.pre_nil], (Below.refl _ _).alloc (Nat.le_refl _) _⟩

theorem errno_pos : ∀ (l : List UInt8) (i n e : Nat), W.rd l i n = .bad e → 2 ≤ e ∧ e ≤ 5 := by
  intro l
  induction l with
  | nil => intro i n e h; simp [W.rd] at h; omega
  | cons c t ih =>
    intro i n e h
    simp only [W.rd] at h
    split at h
    · split at h
      · split at h
        · cases h
        · injection h; omega
      · exact ih _ _ _ h
    · injection h; omega

set_option maxRecDepth 100000 in
set_option maxHeartbeats 400000 in
theorem rall_any (s : ByteArray) (w : World) (hs : s.size ≤ 1000000000) : Calls Try.prog 27 #[.string s] w
    fun x w' => AllEnd w.heap.size (W.all s.data.toList) x w' ∧ Below w.heap.size w w' := by
  generalize hl : s.data.toList = l
  have hsz : s.size = l.length := by rw [← hl]; simp
  have HL := Lib.hid hl; clear hl
  have HS := Lib.hid hsz; clear hsz
  go_enter Try.func27, Try.ntmps27
  go_wp2_with fail
  go_loopg [5, 4] l.length (fun k v b wr => RAllRel l w k v b wr)
  case atStart => exact rall_start l w
  case round =>
    obtain ⟨at_, acc, rfl, ha, hk, hacc, hown, hr, hb⟩ := hrel
    have HR := Lib.hid hr; clear hr
    have HK := Lib.hid hk; clear hk
    have hs1 := hb.size
    by_cases hend : at_ < s.size
    · have hrd := fun w => rget_any s at_ w hs (by omega)
      rw [HL.out] at hrd
      generalize hg : W.rd (l.drop at_) 0 0 = g at hrd
      have HG := Lib.hid hg; clear hg
      have HRD := Lib.hid hrd; clear hrd
      cases g with
      | bad e =>
        have he := errno_pos _ _ _ _ HG.out
        have e0 : ((e : Int) != 0) = true := by rw [bne_iff_ne]; omega
        go_wp2_with fail
        refine (HRD.out _).mono ?_
        rintro y w1 ⟨rfl, rfl⟩
        simp only [getEnd]
        go_wp2_with fail
        go_ret2
        refine ⟨?_, hb⟩
        rw [HR.out, W.all_bad (by intro h; have := congrArg List.length h; have := HS.out; simp at *; omega) HG.out]
        rfl
      | ok n i =>
        have hp := W.rd_pos _ _ _ _ _ HG.out
        have hp2 : i + at_ ≤ l.length := by have := hp.2.1; simp at this; omega
        have hab : acc.length + 1 ≤ 1000000000 := by have := HS.out; omega
        have e0 : ((0 : Int) != 0) = false := rfl
        go_wp2_with fail
        refine (HRD.out _).mono ?_
        rintro y w1 ⟨rfl, rfl⟩
        simp only [getEnd]
        go_wp2_with (at_builtin; refine wpList_append1 rfl _ _ 22 rfl w.heap.size 3 Try.infoInt Try.underlying22 rfl _ _ _ rfl hown (.int .i64 (n : Int)) rfl rfl (by omega) (by omega) (by omega) ?_; intro v2 w2 hown2 hg2 hb2)
        go_roundg (l.length - (at_ + i))
        case rel =>
          refine ⟨at_ + i, acc ++ [n], by simp, by omega, rfl, by simp; omega, by rw [← i64s_snoc]; simpa using hown2, ?_, hb.trans hb2⟩
          rw [HR.out, W.all_ok HG.out, W.Alls.pre_pre, List.drop_drop]
        case measure => have := HK.out; omega
    · go_wp2_with fail
      go_ret2
      refine ⟨?_, hb⟩
      have e : l.drop at_ = [] := List.drop_eq_nil_of_le (by have := HS.out; omega)
      rw [HR.out, e]
      exact ⟨_, rfl, by simpa using hown⟩

set_option maxHeartbeats 400000 in
theorem rtake_nowhere (s : ByteArray) (at_ top : Int) (w : World) (h : ¬ (0 ≤ at_ ∧ at_ ≤ s.size)) : Calls Try.prog 99 #[.string s, .int .i64 at_, .int .i64 top] w
    fun x w' => x = .returned (.tuple #[.string ⟨#[]⟩, .int .i64 0, .int .i64 1]) ∧ w = w' := by
  go_enter Try.func99, Try.ntmps99
  go_wp2_with fail
  refine (rget_bad s at_ _ h).mono ?_
  rintro e w1 ⟨rfl, rfl⟩
  go_wp2_with fail
  exact bodyPost_ret (results_tmp3 rfl _ _ _) rfl ⟨rfl, rfl⟩

set_option maxHeartbeats 400000 in
theorem rtake_any (s : ByteArray) (at_ : Nat) (top : Int) (w : World) (hs : s.size ≤ 1000000000) (h : at_ ≤ s.size) : Calls Try.prog 99 #[.string s, .int .i64 at_, .int .i64 top] w
    fun x w' => x = TakeEnd at_ (W.take (s.data.toList.drop at_) top) ∧ w = w' := by
  have hr := fun w => rget_any s at_ w hs h
  obtain ⟨l, hl⟩ : ∃ l, l = s.data.toList.drop at_ := ⟨_, rfl⟩
  rw [← hl] at hr ⊢
  have hsz : s.size = at_ + l.length := by rw [hl]; simp; omega
  have HS := Lib.hid hsz; clear hsz
  have HL := Lib.hid hl; clear hl
  generalize hg : W.rd l 0 0 = r at hr
  have HG := Lib.hid hg; clear hg
  have HR := Lib.hid hr; clear hr
  cases r with
  | bad e =>
    have he := errno_pos _ _ _ _ HG.out
    have e0 : ((e : Int) != 0) = true := by rw [bne_iff_ne]; omega
    go_enter Try.func99, Try.ntmps99
    go_wp2_with fail
    refine (HR.out _).mono ?_
    rintro y w1 ⟨rfl, rfl⟩
    simp only [getEnd]
    go_wp2_with fail
    refine bodyPost_ret (results_tmp3 rfl _ _ _) rfl ⟨?_, rfl⟩
    rw [W.take_bad HG.out]; rfl
  | ok n i =>
    have hp := W.rd_pos _ _ _ _ _ HG.out
    have hp2 : at_ + i ≤ s.size := by have := HS.out; omega
    have hp3 := hp.2.2
    have e0 : ((0 : Int) != 0) = false := rfl
    by_cases c0 : 0 < n
    · by_cases c1 : (n : Int) ≤ top
      · by_cases c2 : n ≤ l.length - i
        · have c2' : ¬ (s.size : Int) - ((at_ : Int) + (i : Int)) < (n : Int) := by have := HS.out; omega
          go_enter Try.func99, Try.ntmps99
          go_wp2_with fail
          refine (HR.out _).mono ?_
          rintro y w1 ⟨rfl, rfl⟩
          simp only [getEnd]
          go_wp2_with fail
          refine bodyPost_ret (results_tmp3 rfl _ _ _) rfl ⟨?_, rfl⟩
          rw [W.take_ok HG.out (by omega) c2]
          have e1 := extract_list s (at_ + i) (at_ + i + n) n rfl
          rw [← List.drop_drop, ← HL.out] at e1
          simp [TakeEnd, ← e1, Int.natCast_add, Int.add_assoc]
        · have c2' : (s.size : Int) - ((at_ : Int) + (i : Int)) < (n : Int) := by have := HS.out; omega
          go_enter Try.func99, Try.ntmps99
          go_wp2_with fail
          refine (HR.out _).mono ?_
          rintro y w1 ⟨rfl, rfl⟩
          simp only [getEnd]
          go_wp2_with fail
          refine bodyPost_ret (results_tmp3 rfl _ _ _) rfl ⟨?_, rfl⟩
          rw [W.take_short HG.out (by omega) c2]; rfl
      · have c1' : top < (n : Int) := by omega
        go_enter Try.func99, Try.ntmps99
        go_wp2_with fail
        refine (HR.out _).mono ?_
        rintro y w1 ⟨rfl, rfl⟩
        simp only [getEnd]
        go_wp2_with fail
        refine bodyPost_ret (results_tmp3 rfl _ _ _) rfl ⟨?_, rfl⟩
        rw [W.take_big HG.out (by omega)]; rfl
    · have c0' : n ≤ 0 := by omega
      go_enter Try.func99, Try.ntmps99
      go_wp2_with fail
      refine (HR.out _).mono ?_
      rintro y w1 ⟨rfl, rfl⟩
      simp only [getEnd]
      go_wp2_with fail
      refine bodyPost_ret (results_tmp3 rfl _ _ _) rfl ⟨?_, rfl⟩
      rw [W.take_ok HG.out (by omega) (by omega)]
      have e1 := extract_list s (at_ + i) (at_ + i + n) n rfl
      rw [← List.drop_drop, ← HL.out] at e1
      simp [TakeEnd, ← e1, Int.natCast_add, Int.add_assoc]
end Go.Proofs.Ytdfgnmdofjhnkaa
