/- WordApart: the walk. -/
import Derived.Test.YtlgacmhkkepjfaaWTexts
namespace Go.Proofs.Ytlgacmhkkepjfaa
namespace wordApart
open Go.RowKit

theorem ext0 (a b : ByteArray) (_ : b.size ≤ a.size) : (a.extract 0 b.size).toList = a.data.toList.take b.size := by
  rw [extract_list a 0 b.size b.size (by omega), ByteArray.toList_mk, List.drop_zero]

theorem same_full (a : ByteArray) : ((a.extract 0 a.size).toList == a.toList) = true := by
  rw [beq_iff_eq, ext0 a a (Nat.le_refl _), ByteArray.toList_eq, ← size_data a, List.take_length]

/-- The bytes of unlike numbers: neither begins the other's. -/
theorem apart {a b : Int} {P Q : ByteArray} (hP : P = ⟨(W.put a).toArray⟩) (hQ : Q = ⟨(W.put b).toArray⟩) (hne : W.cl a ≠ W.cl b) (h : P.size ≤ Q.size) : ((Q.extract 0 P.size).toList == P.toList) = false := by
  rw [beq_eq_false_iff_ne]
  intro he
  rw [ext0 Q P h, ByteArray.toList_eq] at he
  have hd := (List.take_append_drop P.size Q.data.toList).symm
  rw [he, hP, hQ, data_bs, data_bs] at hd
  exact hne (W.put_inj _ hd).symm

theorem unlike {a b : Int} {P Q : ByteArray} (hP : P = ⟨(W.put a).toArray⟩) (hQ : Q = ⟨(W.put b).toArray⟩) (hne : W.cl a ≠ W.cl b) : (P.toList == Q.toList) = false := by
  rw [beq_eq_false_iff_ne, ByteArray.toList_eq, ByteArray.toList_eq, hP, hQ, data_bs, data_bs]
  intro he
  exact hne (W.put_inj [] (by simpa using he))

set_option maxRecDepth 100000 in
set_option maxHeartbeats 1000000 in
theorem walk (a0 : Int) (_ : (Lit.int .i64 a0).wf = true) (a1 : Int) (_ : (Lit.int .i64 a1).wf = true) (w : World) :
    Calls Try.prog 5 #[.int .i64 a0, .int .i64 a1] w fun e w' => e = .returned (.bool true) ∧ Below w.heap.size w w' := by
  by_cases hc : W.cl a0 = W.cl a1
  · have hq : (max 0 (min a0 2147483647) == max 0 (min a1 2147483647)) = true := by rw [beq_iff_eq]; unfold W.cl at hc; omega
    have hp : W.put a1 = W.put a0 := by simp [W.put, hc]
    have HP := Lib.hid hp; clear hp
    clear hc
    go_enter Try.func5, Try.ntmps5
    go_wp2_with fail
    refine (put_any _ _).mono ?_
    rintro e w1 ⟨rfl, hb1⟩
    have hl := W.put_len a0
    obtain ⟨P, hP⟩ : ∃ P, P = ByteArray.mk (W.put a0).toArray := ⟨_, rfl⟩
    rw [← hP]
    have hs : P.size = (W.put a0).length := by rw [hP]; exact size_bs _
    have h5 : P.size ≤ 5 := by omega
    have HPP := Lib.hid hP; clear hP hs hl
    go_wp2_with fail
    refine (put_any _ _).mono ?_
    rintro e w2 ⟨rfl, hb2⟩
    rw [HP.out, ← HPP.out]
    have q1 := same_full P
    go_wp2_with fail
    refine (fixed_any _).mono ?_
    rintro e w4 ⟨rfl, hb4⟩
    go_wp2_with fail
    go_ret
    exact ⟨rfl, (hb1.trans (hb2.mono hb1.size)).trans (hb4.mono (Nat.le_trans hb1.size hb2.size))⟩
  · have hq : (max 0 (min a0 2147483647) == max 0 (min a1 2147483647)) = false := by rw [beq_eq_false_iff_ne]; unfold W.cl at hc; omega
    have HC := Lib.hid hc; clear hc
    go_enter Try.func5, Try.ntmps5
    go_wp2_with fail
    refine (put_any _ _).mono ?_
    rintro e w1 ⟨rfl, hb1⟩
    have h5 : (ByteArray.mk (W.put a0).toArray).size ≤ 5 := by rw [size_bs]; exact (W.put_len a0).1
    obtain ⟨P, hP⟩ : ∃ P, P = ByteArray.mk (W.put a0).toArray := ⟨_, rfl⟩
    rw [← hP] at h5 ⊢
    have HPP := Lib.hid hP; clear hP
    go_wp2_with fail
    refine (put_any _ _).mono ?_
    rintro e w2 ⟨rfl, hb2⟩
    have h6 : (ByteArray.mk (W.put a1).toArray).size ≤ 5 := by rw [size_bs]; exact (W.put_len a1).1
    obtain ⟨Q, hQ⟩ : ∃ Q, Q = ByteArray.mk (W.put a1).toArray := ⟨_, rfl⟩
    rw [← hQ] at h6 ⊢
    have HQQ := Lib.hid hQ; clear hQ
    have q0 := unlike HPP.out HQQ.out HC.out
    by_cases hle : P.size ≤ Q.size
    · have q1 := apart HPP.out HQQ.out HC.out hle
      by_cases hge : Q.size ≤ P.size
      · have q2 := apart HQQ.out HPP.out (fun h => HC.out h.symm) hge
        go_wp2_with fail
        refine (fixed_any _).mono ?_
        rintro e w4 ⟨rfl, hb4⟩
        go_wp2_with fail
        go_ret
        exact ⟨rfl, (hb1.trans (hb2.mono hb1.size)).trans (hb4.mono (Nat.le_trans hb1.size hb2.size))⟩
      · go_wp2_with fail
        refine (fixed_any _).mono ?_
        rintro e w4 ⟨rfl, hb4⟩
        go_wp2_with fail
        go_ret
        exact ⟨rfl, (hb1.trans (hb2.mono hb1.size)).trans (hb4.mono (Nat.le_trans hb1.size hb2.size))⟩
    · have hge : Q.size ≤ P.size := by omega
      have q2 := apart HQQ.out HPP.out (fun h => HC.out h.symm) hge
      go_wp2_with fail
      refine (fixed_any _).mono ?_
      rintro e w4 ⟨rfl, hb4⟩
      go_wp2_with fail
      go_ret
      exact ⟨rfl, (hb1.trans (hb2.mono hb1.size)).trans (hb4.mono (Nat.le_trans hb1.size hb2.size))⟩
end wordApart
end Go.Proofs.Ytlgacmhkkepjfaa
