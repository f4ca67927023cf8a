/- WordTexts: the walk. -/
import Derived.Test.YtlgacmhkkepjfaaWBack
namespace Go.Proofs.Ytlgacmhkkepjfaa

theorem mk_data (x : ByteArray) : ByteArray.mk x.data.toList.toArray = x := by cases x; simp

namespace wordTexts
open Go.RowKit

theorem took (x y : ByteArray) (most : Int) (h : (x.size : Int) ≤ max most 0) (hx : x.size ≤ 2147483647) : TakeEnd 0 (W.take ((ByteArray.mk (W.text x.data.toList).toArray ++ y).data.toList.drop 0) most) = .returned (.tuple #[.string x, .int .i64 ((W.text x.data.toList).length : Nat), .int .i64 0]) := by
  rw [data_app, data_bs, List.drop_zero, W.text, List.append_assoc]
  have hc : W.cl ((x.data.toList.length : Nat) : Int) = x.size := by rw [size_data]; unfold W.cl; omega
  have hr := W.rd_put (x.data.toList.length : Nat) (x.data.toList ++ y.data.toList)
  rw [hc] at hr
  rw [W.take_ok hr h (by simp), List.drop_left, ← size_data x, List.take_left]
  simp only [TakeEnd, mk_data, List.length_append]
  simp

theorem big (x y : ByteArray) (most : Int) (h : ¬ (x.size : Int) ≤ max most 0) (hx : x.size ≤ 2147483647) : TakeEnd 0 (W.take ((ByteArray.mk (W.text x.data.toList).toArray ++ y).data.toList.drop 0) most) = .returned (.tuple #[.string ⟨#[]⟩, .int .i64 0, .int .i64 2]) := by
  rw [data_app, data_bs, List.drop_zero, W.text, List.append_assoc]
  have hc : W.cl ((x.data.toList.length : Nat) : Int) = x.size := by rw [size_data]; unfold W.cl; omega
  have hr := W.rd_put (x.data.toList.length : Nat) (x.data.toList ++ y.data.toList)
  rw [hc] at hr
  rw [W.take_big hr h]
  rfl

set_option maxRecDepth 100000 in
set_option maxHeartbeats 1000000 in
theorem walk (a0 : ByteArray) (a1 : ByteArray) (a2 : Int) (_ : (Lit.int .i64 a2).wf = true) (w : World) :
    Calls Try.prog 4 #[.string a0, .string a1, .int .i64 a2] w fun e w' => e = .returned (.bool true) ∧ Below w.heap.size w w' := by
  go_enter Try.func4, Try.ntmps4
  go_wp2_with fail
  have hx := cut_size a0 300 (min (a0.size : Int) 300).toNat (by omega)
  have hy := cut_size a1 60 (min (a1.size : Int) 60).toNat (by omega)
  generalize a0.extract 0 (min (a0.size : Int) 300).toNat = x at hx ⊢
  generalize a1.extract 0 (min (a1.size : Int) 60).toNat = y at hy ⊢
  refine (text_any x _ (by omega)).mono ?_
  rintro e w1 ⟨rfl, hb1⟩
  have htl : (ByteArray.mk (W.text x.data.toList).toArray).size ≤ 400 := by rw [size_bs, W.text, List.length_append, size_data]; have := (W.put_len (x.data.toList.length : Nat)).1; simp only [size_data] at this; omega
  obtain ⟨T, hT⟩ : ∃ T, T = ByteArray.mk (W.text x.data.toList).toArray := ⟨_, rfl⟩
  rw [← hT] at htl ⊢
  have HT := Lib.hid hT; clear hT
  have n0 : ((0 : Int) == 0) = true := rfl
  have n2 : ((2 : Int) == 2) = true := rfl
  by_cases hm : (x.size : Int) ≤ max a2 0
  · go_wp2_with fail
    have ht := take_any (T ++ y) 0 a2 w1 (by simp [ByteArray.size_append]; omega) (Nat.zero_le _)
    rw [HT.out, took x y a2 hm (by omega), ← HT.out] at ht
    have HTT := Lib.hid ht; clear ht
    refine HTT.out.mono ?_
    rintro e w2 ⟨rfl, hb2⟩
    have hm' : (x.size : Int) ≤ max 0 a2 := by omega
    have q1 : (x.toList == x.toList) = true := by simp
    go_wp2_with fail
    refine (text_any x _ (by omega)).mono ?_
    rintro e w3 ⟨rfl, hb3⟩
    go_wp2_with fail
    refine (fixed_any _).mono ?_
    rintro e w4 ⟨rfl, hb4⟩
    go_wp2_with fail
    go_ret
    exact ⟨rfl, ((hb1.trans (hb2.mono hb1.size)).trans (hb3.mono (Nat.le_trans hb1.size hb2.size))).trans (hb4.mono (Nat.le_trans (Nat.le_trans hb1.size hb2.size) hb3.size))⟩
  · go_wp2_with fail
    have ht := take_any (T ++ y) 0 a2 w1 (by simp [ByteArray.size_append]; omega) (Nat.zero_le _)
    rw [HT.out, big x y a2 (by omega) (by omega), ← HT.out] at ht
    have HTT := Lib.hid ht; clear ht
    refine HTT.out.mono ?_
    rintro e w2 ⟨rfl, hb2⟩
    have hm' : max 0 a2 < (x.size : Int) := by omega
    clear hm
    go_wp2_with fail
    refine (fixed_any _).mono ?_
    rintro e w4 ⟨rfl, hb4⟩
    go_wp2_with fail
    go_ret
    exact ⟨rfl, (hb1.trans (hb2.mono hb1.size)).trans (hb4.mono (Nat.le_trans hb1.size hb2.size))⟩
end wordTexts
end Go.Proofs.Ytlgacmhkkepjfaa
