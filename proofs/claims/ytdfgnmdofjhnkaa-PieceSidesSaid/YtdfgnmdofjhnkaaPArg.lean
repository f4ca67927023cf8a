/- An argument that is a piece. -/
import Derived.Test.YtdfgnmdofjhnkaaOpen
import Derived.Test.YtdfgnmdofjhnkaaPW
namespace Go.Proofs.Ytdfgnmdofjhnkaa
open Go.ChangeShapes Go.WideShapes Go.ChangeAt Go.RowKit
section
set_option maxRecDepth 100000
variable {H : Type} {enc : TypeId × Value → H} {W : World}
theorem ints_opens : Opens enc Try.prog W 22 Rep.int.slice := opens_slice Try.underlying22 (by kernel_rfl) (opens_int Try.underlying3)
theorem msg_opens : Opens enc Try.prog W 47 Rep.msg := opens_msg Try.underlying47 Try.underlying3 Try.underlying3 (by kernel_rfl) rfl rfl (by kernel_rfl) (by kernel_rfl)
theorem msgs_opens : Opens enc Try.prog W 45 Rep.msg.slice := opens_slice Try.underlying45 (by kernel_rfl) msg_opens
theorem piece_opens : Opens enc Try.prog W 26 Rep.piece :=
  opens_piece Try.underlying26 Try.underlying3 Try.underlying3 Try.underlying3 ints_opens (opens_slice Try.underlying23 (by kernel_rfl) msgs_opens) (opens_slice Try.underlying24 (by kernel_rfl) ints_opens) (by kernel_rfl)
    ⟨rfl, rfl, rfl, rfl, rfl, rfl⟩ ⟨by kernel_rfl, by kernel_rfl, by kernel_rfl, by kernel_rfl, by kernel_rfl, by kernel_rfl⟩
theorem arg_piece {v : Value} {d : DataW H} {p : List MemPlace} {base : Nat} (hv : Value.okWide Try.prog W .any base 26 v) (h : DataW.Trod enc Try.prog W 0 (fun _ => true) true 26 v d p) : ∃ q : Pc.Piece, PieceIs false W 0 W.heap.size v q := by
  obtain ⟨cs, q, rfl, hq⟩ := arg_agg Try.underlying26 piece_opens hv h
  exact ⟨q, PieceIs.of_cells hq⟩
end
end Go.Proofs.Ytdfgnmdofjhnkaa
