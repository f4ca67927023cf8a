/- cameolaw06.Ref, Refs -/
import Derived.Test.YtmbilaepeekglaaPRep
import Derived.Test.YtmbilaepeekglaaHX
import Derived.Test.YtmbilaepeekglaaProg
namespace Go.Proofs.Ytmbilaepeekglaa
open Go.RowKit

set_option maxRecDepth 100000 in
set_option maxHeartbeats 2000000 in
theorem ref_any (v : Value) (p : Pc.Piece) {fr : Bool} {lo hi : Nat} (w : World) (h : PieceIs fr w lo hi v p) : Calls Try.prog 25 #[v] w
    fun x w' => x = .returned v ∧ Below w.heap.size w w' := by
  obtain ⟨n, s, t, xs, ms, os⟩ := p
  obtain ⟨a, b, c, rfl, ⟨A1, c1, rfl, _⟩, ⟨A2, c2, rfl, _⟩, ⟨A3, c3, rfl, _⟩⟩ := h
  go_enter Try.func25, Try.ntmps25
  go_wp2_with fail
  refine bodyPost_ret (v := .agg #[.int .i64 n, .int .i64 s, .int .i64 t, .slice A1 xs.length c1, .slice A2 ms.length c2, .slice A3 os.length c3]) (by simp [results, Try.results25, go_sem]) rfl ⟨rfl, below_2 _ _ _⟩
end Go.Proofs.Ytmbilaepeekglaa
