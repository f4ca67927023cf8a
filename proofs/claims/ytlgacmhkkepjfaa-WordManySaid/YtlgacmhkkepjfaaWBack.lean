/- WordBack: the walk. -/
import Derived.Test.YtlgacmhkkepjfaaB0
import Derived.Test.YtlgacmhkkepjfaaWLaw3
namespace Go.Proofs.Ytlgacmhkkepjfaa

theorem cut_size (s : ByteArray) (n : Nat) (k : Nat) (h : k ≤ n) : (s.extract 0 k).size ≤ n := by
  rw [ByteArray.size_extract]; omega
theorem size_bs (l : List UInt8) : (ByteArray.mk l.toArray).size = l.length := by simp [ByteArray.size]
theorem data_bs (l : List UInt8) : (ByteArray.mk l.toArray).data.toList = l := by simp
theorem data_app (a b : ByteArray) : (a ++ b).data.toList = a.data.toList ++ b.data.toList := by simp [ByteArray.data_append]
theorem size_data (a : ByteArray) : a.data.toList.length = a.size := by simp

namespace wordBack
open Go.RowKit

theorem got (x y : ByteArray) (n : Int) : getEnd x.size (W.rd (((x ++ ⟨(W.put n).toArray⟩) ++ y).data.toList.drop x.size) 0 0) = .returned (.tuple #[.int .i64 (W.cl n), .int .i64 ((x.size : Int) + ((W.put n).length : Int)), .int .i64 0]) := by
  rw [data_app, data_app, data_bs, List.append_assoc, ← size_data x, List.drop_left, W.rd_put]
  rfl

theorem cut (x : ByteArray) (n : Int) (p : ByteArray) (hp : p.data.toList = (W.put n).take ((W.put n).length - 1)) : getEnd x.size (W.rd ((x ++ p).data.toList.drop x.size) 0 0) = .returned (.tuple #[.int .i64 0, .int .i64 0, .int .i64 5]) := by
  have := (W.put_len n).2
  rw [data_app, hp, ← size_data x, List.drop_left, W.rd_put_cut n _ (by omega)]
  rfl

set_option maxRecDepth 100000 in
set_option maxHeartbeats 1000000 in
theorem walk (a0 : Int) (_ : (Lit.int .i64 a0).wf = true) (a1 : ByteArray) (a2 : ByteArray) (w : World) :
    Calls Try.prog 3 #[.int .i64 a0, .string a1, .string a2] w fun e w' => e = .returned (.bool true) ∧ Below w.heap.size w w' := by
  go_enter Try.func3, Try.ntmps3
  go_wp2_with fail
  have hx := cut_size a1 60 (min (a1.size : Int) 60).toNat (by omega)
  have hy := cut_size a2 60 (min (a2.size : Int) 60).toNat (by omega)
  generalize a1.extract 0 (min (a1.size : Int) 60).toNat = x at hx ⊢
  generalize a2.extract 0 (min (a2.size : Int) 60).toNat = y at hy ⊢
  refine (put_any _ _).mono ?_
  rintro e w1 ⟨rfl, hb1⟩
  have hl := W.put_len a0
  obtain ⟨P, hP⟩ : ∃ P, P = ByteArray.mk (W.put a0).toArray := ⟨_, rfl⟩
  rw [← hP]
  have hs : P.size = (W.put a0).length := by rw [hP]; exact size_bs _
  have h1 : 1 ≤ P.size := by omega
  have h5 : P.size ≤ 5 := by omega
  have HP := Lib.hid hP; clear hP
  have HS := Lib.hid hs; clear hs
  have HL := Lib.hid hl; clear hl
  go_wp2_with fail
  have hsz : ((x ++ P) ++ y).size ≤ 1000000000 := by simp [ByteArray.size_append]; omega
  refine (get_any ((x ++ P) ++ y) x.size _ hsz (by simp [ByteArray.size_append]; omega)).mono ?_
  rintro e w2 ⟨rfl, hb2⟩
  have hg := got x y a0
  rw [← HP.out, ← HS.out] at hg
  rw [hg]; clear hg hsz
  go_wp2_with fail
  have hq := cut x a0 (P.extract 0 (P.size - 1)) (by rw [extract_list P 0 (P.size - 1) (P.size - 1) (by omega), data_bs, HS.out, HP.out, data_bs]; rfl)
  have hqs := cut_size P 5 (P.size - 1) (by omega)
  generalize P.extract 0 (P.size - 1) = q at hq hqs ⊢
  have HQ := Lib.hid hq; clear hq
  refine (get_any (x ++ q) x.size _ (by simp [ByteArray.size_append]; omega) (by simp [ByteArray.size_append])).mono ?_
  rintro e w3 ⟨rfl, hb3⟩
  rw [HQ.out]
  have n1 : ((0 : Int) == 0) = true := rfl
  have n2 : ((5 : Int) == 5) = true := rfl
  have n3 : ((W.cl a0 : Int) == max 0 (min a0 2147483647)) = true := by rw [beq_iff_eq]; unfold W.cl; omega
  go_wp2_with fail
  refine (fixed_any _).mono ?_
  rintro e w4 ⟨rfl, hb4⟩
  go_wp2_with fail
  go_ret
  exact ⟨rfl, ((hb1.trans (hb2.mono hb1.size)).trans (hb3.mono (Nat.le_trans hb1.size hb2.size))).trans (hb4.mono (Nat.le_trans (Nat.le_trans hb1.size hb2.size) hb3.size))⟩
end wordBack
end Go.Proofs.Ytlgacmhkkepjfaa
