/- word.Take -/
import Derived.Test.YtdfgnmdofjhnkaaA4
namespace Go.Proofs.Ytdfgnmdofjhnkaa
open Go.RowKit

def TakeEnd (at_ : Nat) : W.Took → Ending
  | .bad e => .returned (.tuple #[.string ⟨#[]⟩, .int .i64 0, .int .i64 e])
  | .ok t j => .returned (.tuple #[.string ⟨t.toArray⟩, .int .i64 ((at_ : Int) + (j : Int)), .int .i64 0])

theorem extract_list (s : ByteArray) (a b n : Nat) (h : b = a + n) : s.extract a b = ⟨((s.data.toList.drop a).take n).toArray⟩ := by
  subst h
  obtain ⟨⟨d⟩⟩ := s
  rw [ByteArray.extract_mk]
  simp

set_option maxHeartbeats 400000 in
theorem take_nowhere (s : ByteArray) (at_ top : Int) (w : World) (h : ¬ (0 ≤ at_ ∧ at_ ≤ s.size)) : Calls Try.prog 97 #[.string s, .int .i64 at_, .int .i64 top] w
    fun x w' => x = .returned (.tuple #[.string ⟨#[]⟩, .int .i64 0, .int .i64 1]) ∧ Below w.heap.size w w' := by
  go_enter_defers Try.func97, Try.ntmps97
  go_wp2_with fail
  refine (read_bad s at_ _ h).mono ?_
  rintro e w1 ⟨rfl, hb⟩
  have c0 : w1.heap[w.heap.size]? = some (.cells #[.int .i64 0] 28 (0, 0)) := by rw [hb.block _ (by simp)]; exact heap_alloc_new _ _
  go_wp2_with fail
  refine door_bad c0 (fun w2 h2 hb2 => ?_)
  have c2 := cell_of_one h2
  exact ⟨_, by simp [results, Try.results97, go_sem, c2] <;> rfl, rfl, ((Below.refl _ _).alloc (Nat.le_refl _) _).trans ((hb.mono (by simp)).trans hb2)⟩

set_option maxHeartbeats 400000 in
theorem take_any (s : ByteArray) (at_ : Nat) (top : Int) (w : World) (hs : s.size ≤ 1000000000) (h : at_ ≤ s.size) : Calls Try.prog 97 #[.string s, .int .i64 at_, .int .i64 top] w
    fun x w' => x = TakeEnd at_ (W.take (s.data.toList.drop at_) top) ∧ Below w.heap.size w w' := by
  have hr := fun w => read_any s at_ w hs h
  obtain ⟨l, hl⟩ : ∃ l, l = s.data.toList.drop at_ := ⟨_, rfl⟩
  rw [← hl] at hr ⊢
  have hsz : s.size = at_ + l.length := by rw [hl]; simp; omega
  have HS := Lib.hid hsz; clear hsz
  have HL := Lib.hid hl; clear hl
  generalize hg : W.rd l 0 0 = r at hr
  have HG := Lib.hid hg; clear hg
  have HR := Lib.hid hr; clear hr
  cases r with
  | bad e =>
    go_enter_defers Try.func97, Try.ntmps97
    go_wp2_with fail
    refine (HR.out _).mono ?_
    rintro y w1 ⟨rfl, hb⟩
    have c0 : w1.heap[w.heap.size]? = some (.cells #[.int .i64 0] 28 (0, 0)) := by rw [hb.block _ (by simp)]; exact heap_alloc_new _ _
    simp only [rdEnd]
    go_wp2_with fail
    refine door_bad c0 (fun w2 h2 hb2 => ?_)
    have c2 := cell_of_one h2
    exact ⟨_, by simp [results, Try.results97, go_sem, c2] <;> rfl, by rw [W.take_bad HG.out]; rfl, ((Below.refl _ _).alloc (Nat.le_refl _) _).trans ((hb.mono (by simp)).trans hb2)⟩
  | ok n i =>
    have hp := W.rd_pos _ _ _ _ _ HG.out
    have hp2 : at_ + i ≤ s.size := by have := HS.out; omega
    have hp3 := hp.2.2
    go_enter_defers Try.func97, Try.ntmps97
    go_wp2_with fail
    refine (HR.out _).mono ?_
    rintro y w1 ⟨rfl, hb⟩
    have h0 : w1.heap[w.heap.size]? = some (.cells #[.int .i64 0] 28 (0, 0)) := by rw [hb.block _ (by simp)]; exact heap_alloc_new _ _
    have hlt := lt_of_block h0
    simp only [rdEnd]
    by_cases c1 : (n : Int) ≤ max top 0
    · have H0 := Lib.hid h0; clear h0
      go_wp2_with fail
      refine (must_so _ (by simp <;> omega) 2 _).mono ?_
      rintro y w2 ⟨rfl, rfl⟩
      by_cases c2 : n ≤ l.length - i
      · have c2' : (n : Int) ≤ (s.size : Int) - ((at_ : Int) + (i : Int)) := by have := HS.out; omega
        have c0 := cell_of_one H0.out
        have f0 := free_of_one H0.out
        go_wp2_with fail
        refine (must_so _ (by simp <;> omega) 5 _).mono ?_
        rintro y w2 ⟨rfl, rfl⟩
        go_wp2_with fail
        refine door_good (fun w2 hb2 => ?_)
        have k2 : w2.cell? ⟨w.heap.size, 0, none⟩ = some (.int .i64 0) := by rw [hb2.cell (by simpa using hlt)]; exact cell_of_one (one_setCell H0.out)
        refine ⟨_, by simp [results, Try.results97, go_sem, k2] <;> rfl, ?_, ((Below.refl _ _).alloc (Nat.le_refl _) _).trans (((hb.mono (by simp)).setCell (by simp) _).trans (hb2.mono (by simp; omega)))⟩
        rw [W.take_ok HG.out c1 c2]
        have e1 := extract_list s (at_ + i) (at_ + i + n) n rfl
        rw [← List.drop_drop, ← HL.out] at e1
        simp only [TakeEnd, ← e1, Int.natCast_add, Int.add_assoc]
      · go_wp2_with fail
        refine (must_not _ (by have := HS.out; simp; omega) 5 _).mono ?_
        rintro y w2 ⟨rfl, rfl⟩
        go_wp2_with fail
        refine door_bad H0.out (fun w2 h2 hb2 => ?_)
        have c2 := cell_of_one h2
        exact ⟨_, by simp [results, Try.results97, go_sem, c2] <;> rfl, by rw [W.take_short HG.out c1 ‹_›]; rfl, ((Below.refl _ _).alloc (Nat.le_refl _) _).trans ((hb.mono (by simp)).trans hb2)⟩
    · go_wp2_with fail
      refine (must_not _ (by simp <;> omega) 2 _).mono ?_
      rintro y w2 ⟨rfl, rfl⟩
      go_wp2_with fail
      refine door_bad h0 (fun w2 h2 hb2 => ?_)
      have c2 := cell_of_one h2
      exact ⟨_, by simp [results, Try.results97, go_sem, c2] <;> rfl, by rw [W.take_big HG.out (by omega)]; rfl, ((Below.refl _ _).alloc (Nat.le_refl _) _).trans ((hb.mono (by simp)).trans hb2)⟩
end Go.Proofs.Ytdfgnmdofjhnkaa
