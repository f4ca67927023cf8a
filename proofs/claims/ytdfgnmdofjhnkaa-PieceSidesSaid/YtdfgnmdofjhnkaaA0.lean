/- The smallest contracts of the seat: must, Cut. -/
import Derived.Test.YtdfgnmdofjhnkaaProg
import Derived.Test.YtdfgnmdofjhnkaaH
namespace Go.Proofs.Ytdfgnmdofjhnkaa
open Go.RowKit

theorem ret_int {k : IntKind} {a b : Int} (h : a = b) : Ending.returned (.int k a) = .returned (.int k b) := by rw [h]

theorem must_yes (e : Int) (w : World) : Calls Try.prog 102 #[.bool true, .int .i64 e] w fun x w' => x = .returned (.tuple #[]) ∧ w = w' := by
  go_enter Try.func102, Try.ntmps102
  go_wp2
  go_end0
  exact ⟨rfl, rfl⟩

theorem must_no (e : Int) (w : World) : Calls Try.prog 102 #[.bool false, .int .i64 e] w fun x w' => x = .panicked [{ v := .iface 128 (.agg #[.int .i64 e]), recovered := false }] ∧ w = w' := by
  go_enter Try.func102, Try.ntmps102
  go_wp2
  exact ⟨rfl, rfl, rfl⟩

theorem must_so (b : Bool) (hb : b = true) (e : Int) (w : World) : Calls Try.prog 102 #[.bool b, .int .i64 e] w fun x w' => x = .returned (.tuple #[]) ∧ w = w' := by subst hb; exact must_yes e w
theorem must_not (b : Bool) (hb : b = false) (e : Int) (w : World) : Calls Try.prog 102 #[.bool b, .int .i64 e] w fun x w' => x = .panicked [{ v := .iface 128 (.agg #[.int .i64 e]), recovered := false }] ∧ w = w' := by subst hb; exact must_no e w

theorem cut_any (n : Int) (w : World) : Calls Try.prog 96 #[.int .i64 n] w fun x w' => x = .returned (.int .i64 (max 0 (min n 2147483647))) ∧ w = w' := by
  go_enter Try.func96, Try.ntmps96
  go_wp2
  all_goals go_ret
  all_goals (refine ⟨ret_int ?_, rfl⟩; (try split at *) <;> omega)
end Go.Proofs.Ytdfgnmdofjhnkaa
