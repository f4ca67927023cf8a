/- word.All, word.Take -/
import Derived.Test.YtdfgnmdofjhnkaaA3
namespace Go.Proofs.Ytdfgnmdofjhnkaa
open Go.RowKit

theorem Try.infoInt : (Try.prog.info? 3).map (fun i => (i.zero, i.size, i.bytes)) = some (some (.int .i64 0), 1, 8) := by kernel_rfl

def i64s (l : List Nat) : List Value := l.map fun (n : Nat) => .int .i64 (n : Int)
@[simp] theorem i64s_length (l : List Nat) : (i64s l).length = l.length := by simp [i64s]
theorem i64s_snoc (l : List Nat) (n : Nat) : i64s l ++ [.int .i64 (n : Int)] = i64s (l ++ [n]) := by simp [i64s]

/-- How All ends. -/
def AllEnd (B : Nat) : W.Alls → Ending → World → Prop
  | .bad e, x, _ => x = .returned (.tuple #[.slice none 0 0, .int .i64 e])
  | .ok l, x, w' => ∃ v, x = .returned (.tuple #[v, .int .i64 0]) ∧ w'.ownsRow B 3 1 v l.length (i64s l)

def AllRel (l : List UInt8) (w : World) (k : Nat) (v b : Value) (wr : World) : Prop :=
  ∃ (at_ : Nat) (acc : List Nat), v = .int .i64 at_ ∧ at_ ≤ l.length ∧ k = l.length - at_ ∧ acc.length ≤ at_ ∧ wr.heap[w.heap.size]? = some (.cells #[.int .i64 0] 28 (0, 0)) ∧
    wr.ownsRow (w.heap.size + 1) 3 1 b acc.length (i64s acc) ∧ W.all l = (W.all (l.drop at_)).pre acc ∧ Below w.heap.size w wr

set_option maxRecDepth 100000 in
set_option maxHeartbeats 400000 in
theorem all_any (s : ByteArray) (w : World) (hs : s.size ≤ 1000000000) : Calls Try.prog 45 #[.string s] w
    fun x w' => AllEnd w.heap.size (W.all s.data.toList) x w' ∧ Below w.heap.size w w' := by
  generalize hl : s.data.toList = l
  have hsz : s.size = l.length := by rw [← hl]; simp
  have HL := Lib.hid hl; clear hl
  have HS := Lib.hid hsz; clear hsz
  go_enter_defers Try.func45, Try.ntmps45
  go_wp2_with fail
  go_loopg [5, 4] l.length (fun k v b wr => AllRel l w k v b wr)
  case atStart => exact ⟨0, [], rfl, by omega, by omega, by simp, heap_alloc_new _ _, World.ownsRow_nil _ _ _ _, by simp [W.Alls.pre_nil], (Below.refl _ _).alloc (Nat.le_refl _) _⟩
  case round =>
    obtain ⟨at_, acc, rfl, ha, hk, hacc, h0, hown, hr, hb⟩ := hrel
    have HR := Lib.hid hr; clear hr
    have HK := Lib.hid hk; clear hk
    have hlt := lt_of_block h0
    by_cases hend : at_ < s.size
    · have hrd := fun w => read_any s at_ w hs (by omega)
      rw [HL.out] at hrd
      generalize hg : W.rd (l.drop at_) 0 0 = g at hrd
      have HG := Lib.hid hg; clear hg
      have HRD := Lib.hid hrd; clear hrd
      have H0 := Lib.hid h0; clear h0
      cases g with
      | bad e =>
        go_wp2_with fail
        refine (HRD.out _).mono ?_
        rintro y w1 ⟨rfl, hb1⟩
        simp only [rdEnd]
        go_wp2_with fail
        refine door_bad ((hb1.block _ hlt).trans H0.out) (fun w2 h2 hb2 => ?_)
        have c2 := cell_of_one h2
        refine ⟨.tuple #[.slice none 0 0, .int .i64 e], by simp [results, Try.results45, go_sem, c2], ?_, (hb.trans (hb1.mono (by omega))).trans hb2⟩
        rw [HR.out, W.all_bad (by intro h; have := congrArg List.length h; have := HS.out; simp at *; omega) HG.out]
        rfl
      | ok n i =>
        have hp := W.rd_pos _ _ _ _ _ HG.out
        have hp2 : i + at_ ≤ l.length := by have := hp.2.1; simp at this; omega
        go_wp2_with fail
        refine (HRD.out _).mono ?_
        rintro y w1 ⟨rfl, hb1⟩
        simp only [rdEnd]
        have hs1 := hb1.size
        have hown1 := own_below hown hb1
        have hab : acc.length + 1 ≤ 1000000000 := by have := HS.out; omega
        go_wp2_with (at_builtin; refine wpList_append1 rfl _ _ 22 rfl (w.heap.size + 1) 3 Try.infoInt Try.underlying22 rfl _ _ _ rfl hown1 (.int .i64 (n : Int)) rfl rfl (by omega) (by omega) (by omega) ?_; intro v2 w2 hown2 hg2 hb2)
        go_roundg (l.length - (at_ + i))
        case rel =>
          refine ⟨at_ + i, acc ++ [n], by simp, by omega, rfl, by simp; omega, (hb2.block _ (by omega)).trans ((hb1.block _ hlt).trans H0.out), by rw [← i64s_snoc]; simpa using hown2, ?_, (hb.trans (hb1.mono (by omega))).trans (hb2.mono (by omega))⟩
          rw [HR.out, W.all_ok HG.out, W.Alls.pre_pre, List.drop_drop]
        case measure => have := HK.out; omega
    · have c0 := cell_of_one h0
      have f0 := free_of_one h0
      have H0 := Lib.hid h0; clear h0
      go_wp2_with fail
      refine door_good (fun w2 hb2 => ?_)
      have c2 : w2.cell? ⟨w.heap.size, 0, none⟩ = some (.int .i64 0) := by rw [hb2.cell (by simpa using hlt)]; exact cell_of_one (one_setCell H0.out)
      refine ⟨.tuple #[u4, .int .i64 0], by simp [results, Try.results45, go_sem, c2], ?_, (hb.setCell (by simp) _).trans (hb2.mono (by simp; omega))⟩
      have e : l.drop at_ = [] := List.drop_eq_nil_of_le (by have := HS.out; omega)
      rw [HR.out, e]
      exact ⟨_, rfl, by simpa using own_base (own_below (own_setCell hown (by simp) _) hb2) (Nat.le_succ _)⟩
end Go.Proofs.Ytdfgnmdofjhnkaa
