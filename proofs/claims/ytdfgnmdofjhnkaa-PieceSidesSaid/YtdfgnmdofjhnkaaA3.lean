/- word.caught, word.Get -/
import Derived.Test.YtdfgnmdofjhnkaaA2
import Derived.Recover
import Derived.Laws.Pointers
import Derived.Laws.ResultCell
namespace Go.Proofs.Ytdfgnmdofjhnkaa
open Go.RowKit

theorem assert_stop (e : Int) (w : World) : (Instr.typeAssert (.iface 128 (.agg #[.int .i64 e])) 20 128 true).run Try.prog w = .ok (.tuple #[.agg #[.int .i64 e], .bool true]) w := by kernel_rfl
theorem assert_nil (w : World) : (Instr.typeAssert .nilIface 20 128 true).run Try.prog w = .ok (.tuple #[.agg #[.int .i64 0], .bool false]) w := by kernel_rfl

set_option maxHeartbeats 400000 in
theorem caught_panicking (g : Nat) (x e : Int) (older : List PanicEntry) (w : World) (hc : w.cell? ⟨g, 0, none⟩ = some (.int .i64 x)) (hz : w.frozen? ⟨g, 0, none⟩ = false) :
    CallsD Try.prog 90 #[.pointer (some ⟨g, 0, none⟩)] (.panicking ({ v := .iface 128 (.agg #[.int .i64 e]), recovered := false } :: older)) w fun y u' w' =>
      y = .returned (.tuple #[]) ∧ u' = .panicking ({ v := .iface 128 (.agg #[.int .i64 e]), recovered := true } :: older) ∧ w' = (w.setCell ⟨g, 0, none⟩ (.int .i64 e)).alloc (.cells #[.int .i64 e] 128) := by
  have hlt : g < w.heap.size := block_lt_of_cell hc
  have ha := assert_stop e
  refine callsD_of_wpS Try.func90 rfl fun c₀ cs hu => ?_
  simp only [Try.ntmps90, List.size_toArray, List.length_cons, List.length_nil, Nat.reduceAdd, Nat.reduceSub, Array.replicate_succ,
     Array.replicate_zero, List.push_toArray, List.append_toArray, List.nil_append, List.cons_append]
  apply wpS_seq
  apply wpS_region
  simp [wpOpsS, go_sem, recoverD, hu, Exit.thenS, ha]
  refine wpS_of_wp ?_
  go_wp2
  exact ⟨rfl, _, rfl, _, by simp [results, Try.results90], rfl, rfl, rfl⟩

set_option maxHeartbeats 400000 in
theorem caught_idle (p : Option Addr) (w : World) :
    CallsD Try.prog 90 #[.pointer p] .returning w fun y u' w' =>
      y = .returned (.tuple #[]) ∧ u' = .returning ∧ w' = w.alloc (.cells #[.int .i64 0] 128) := by
  have ha := assert_nil
  refine callsD_of_wpS Try.func90 rfl fun c₀ cs hu => ?_
  simp only [Try.ntmps90, List.size_toArray, List.length_cons, List.length_nil, Nat.reduceAdd, Nat.reduceSub, Array.replicate_succ,
     Array.replicate_zero, List.push_toArray, List.append_toArray, List.nil_append, List.cons_append]
  apply wpS_seq
  apply wpS_region
  simp [wpOpsS, go_sem, recoverD, hu, Exit.thenS, ha]
  refine wpS_of_wp ?_
  go_wp2
  exact ⟨rfl, .returning, by cases c₀; simp_all, _, by simp [results, Try.results90], rfl, rfl, rfl⟩

/-- The door of a function that defers 'caught', when a reading was ended: the named error is laid. -/
theorem door_bad {fn : Func} {tmps : Array Value} {R : Ending → World → Prop} {g : Nat} {x e : Int} {w : World} (hc : w.heap[g]? = some (.cells #[.int .i64 x] 28 (0, 0)))
    (h : ∀ w', w'.heap[g]? = some (.cells #[.int .i64 e] 28 (0, 0)) → Below g w w' → ∃ v, (results fn tmps).run Try.prog w' = .ok v w' ∧ R (.returned v) w') :
    Leaves Try.prog fn tmps R [{ target := .fn (.func 90) #[], args := #[.pointer (some ⟨g, 0, none⟩)] }] (.panicking (stopV e)) w := by
  refine leaves_cons (f := 90) (args := #[.pointer (some ⟨g, 0, none⟩)]) (by simp) (by simp [go_sem]) ?_
  refine (caught_panicking g x e [] w (cell_of_one hc) (free_of_one hc)).mono ?_
  rintro y u' w'' ⟨rfl, rfl, rfl⟩
  have hlt := lt_of_block hc
  have hb : Below g w ((w.setCell ⟨g, 0, none⟩ (.int .i64 e)).alloc (.cells #[.int .i64 e] 128)) := ((Below.refl _ _).setCell (by simp) _).alloc (by simp; omega) _
  exact h _ ((heap_alloc_old _ _ (by simpa using hlt)).trans (one_setCell hc)) hb

theorem door_good {fn : Func} {tmps : Array Value} {R : Ending → World → Prop} {g : Nat} {w : World}
    (h : ∀ w', Below w.heap.size w w' → ∃ v, (results fn tmps).run Try.prog w' = .ok v w' ∧ R (.returned v) w') :
    Leaves Try.prog fn tmps R [{ target := .fn (.func 90) #[], args := #[.pointer (some ⟨g, 0, none⟩)] }] .returning w := by
  refine leaves_cons (f := 90) (args := #[.pointer (some ⟨g, 0, none⟩)]) (by simp) (by simp [go_sem]) ?_
  refine (caught_idle _ w).mono ?_
  rintro y u' w'' ⟨rfl, rfl, rfl⟩
  exact h _ ((Below.refl _ _).alloc (Nat.le_refl _) _)

def getEnd (at_ : Nat) : W.Got → Ending
  | .bad e => .returned (.tuple #[.int .i64 0, .int .i64 0, .int .i64 e])
  | .ok n i => .returned (.tuple #[.int .i64 n, .int .i64 ((at_ : Int) + (i : Int)), .int .i64 0])

set_option maxHeartbeats 400000 in
theorem get_bad (s : ByteArray) (at_ : Int) (w : World) (h : ¬ (0 ≤ at_ ∧ at_ ≤ s.size)) : Calls Try.prog 72 #[.string s, .int .i64 at_] w
    fun x w' => x = .returned (.tuple #[.int .i64 0, .int .i64 0, .int .i64 1]) ∧ Below w.heap.size w w' := by
  go_enter_defers Try.func72, Try.ntmps72
  go_wp2_with fail
  refine (read_bad s at_ _ h).mono ?_
  rintro e w1 ⟨rfl, hb⟩
  have c0 : w1.heap[w.heap.size]? = some (.cells #[.int .i64 0] 28 (0, 0)) := by rw [hb.block _ (by simp)]; exact heap_alloc_new _ _
  go_wp2_with fail
  refine door_bad c0 (fun w2 h2 hb2 => ?_)
  have c2 := cell_of_one h2
  exact ⟨_, by simp [results, Try.results72, go_sem, c2], rfl, ((Below.refl _ _).alloc (Nat.le_refl _) _).trans ((hb.mono (by simp)).trans hb2)⟩

set_option maxHeartbeats 400000 in
theorem get_any (s : ByteArray) (at_ : Nat) (w : World) (hs : s.size ≤ 1000000000) (h : at_ ≤ s.size) : Calls Try.prog 72 #[.string s, .int .i64 at_] w
    fun x w' => x = getEnd at_ (W.rd (s.data.toList.drop at_) 0 0) ∧ Below w.heap.size w w' := by
  have hr := fun w => read_any s at_ w hs h
  generalize W.rd (s.data.toList.drop at_) 0 0 = r at hr ⊢
  have HR := Lib.hid hr; clear hr
  cases r with
  | bad e =>
    go_enter_defers Try.func72, Try.ntmps72
    go_wp2_with fail
    refine (HR.out _).mono ?_
    rintro e w1 ⟨rfl, hb⟩
    have c0 : w1.heap[w.heap.size]? = some (.cells #[.int .i64 0] 28 (0, 0)) := by rw [hb.block _ (by simp)]; exact heap_alloc_new _ _
    simp only [rdEnd]
    go_wp2_with fail
    refine door_bad c0 (fun w2 h2 hb2 => ?_)
    have c2 := cell_of_one h2
    exact ⟨_, by simp [results, Try.results72, go_sem, c2], rfl, ((Below.refl _ _).alloc (Nat.le_refl _) _).trans ((hb.mono (by simp)).trans hb2)⟩
  | ok n i =>
    go_enter_defers Try.func72, Try.ntmps72
    go_wp2_with fail
    refine (HR.out _).mono ?_
    rintro e w1 ⟨rfl, hb⟩
    have h0 : w1.heap[w.heap.size]? = some (.cells #[.int .i64 0] 28 (0, 0)) := by rw [hb.block _ (by simp)]; exact heap_alloc_new _ _
    have hlt := lt_of_block h0
    have c0 := cell_of_one h0
    have f0 := free_of_one h0
    have H0 := Lib.hid h0; clear h0
    simp only [rdEnd]
    go_wp2_with fail
    refine door_good (fun w2 hb2 => ?_)
    have c2 : w2.cell? ⟨w.heap.size, 0, none⟩ = some (.int .i64 0) := by rw [hb2.cell (by simpa using hlt)]; exact cell_of_one (one_setCell H0.out)
    exact ⟨_, by simp [results, Try.results72, go_sem, c2], rfl, ((Below.refl _ _).alloc (Nat.le_refl _) _).trans (((hb.mono (by simp)).setCell (by simp) _).trans (hb2.mono (by simp; omega)))⟩
end Go.Proofs.Ytdfgnmdofjhnkaa
