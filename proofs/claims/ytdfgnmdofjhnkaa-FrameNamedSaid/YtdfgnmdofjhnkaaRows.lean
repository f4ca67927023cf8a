/-
  No cell of these rows narrows 'for every input' (looked for: loops, veiled, ifaces, maps, wideKeys, modest, calm, conditions, laid).
  DERIVED. THE GIVEN ROWS OF THIS SEAT. 12 by the template 'for every input the law returns true; each argument reads behind the call as it read before'; 0 by the template 'total and deterministic' (their statements: YtdfgnmdofjhnkaaTotals.lean).
  GIVEN WITH THE SEED: the statements are not yours to turn. If you find one false, say at which input.
  Laid BY PROGRAM, IN A SANDBOX (cutbox-rows.mjs): the forced cells as the released guide's own fill.sh prints them over the translation 39e5cbc24037db03… (all of the seat's roots in one cut). By AI agents, Wed Nov 11 2026. No macro, syntax, notation, axiom, sorry.
-/
import Derived.Test.YtdfgnmdofjhnkaaChecked
import GoSem.Claim
import GoSem.ClaimJoined
import GoSem.ClaimMapViews
import Derived.JoinedTies
import Derived.KernelRfl
namespace Go.Proofs.Ytdfgnmdofjhnkaa
/- THE CELL 'sum', in the pinned program and in every row, IS THE sha256 OF THE DUMP (.gsa) THAT YtdfgnmdofjhnkaaProg.lean LOADS. Nothing in Lean hashes anything: it is a label: what it is worth is what the hold of that sum in a sandbox is worth. -/
noncomputable def Try.pinned : Pinned := { name := "ytdfgnmdofjhnkaa", sum := "39e5cbc24037db03e1d6d8f9f00f6648119f1bc72b039d30e30e359092dccf63", checked := Try.checked }
namespace Rows
def none {H : Type} : Left H := { results := [], args := [] }

/-- 'cameolaw06.PieceTells': WHATEVER THE INPUT: true; the input reads as it did. -/
def pieceTellsSpec : ChangeSpec := { name := "pieceTells", fn := fun _ => fun
  | [d1, d2, d3] => { results := [.lit (.bool true)], args := [d1, d2, d3] }
  | _ => none }
def pieceTellsRow : OpenClaim := { program := "ytdfgnmdofjhnkaa", sum := "39e5cbc24037db03e1d6d8f9f00f6648119f1bc72b039d30e30e359092dccf63", func := "cameo/cameolaw06.PieceTells", spec := "pieceTells", unfollowed := true, recurses := true, apart := false }
def PieceTellsSaid : Prop := pieceTellsRow.holds Try.pinned (OpenSpec.ofChange pieceTellsSpec)

/-- ITS FALSE NEIGHBOUR: 'it returns false'. Refute it at one input. -/
def pieceTellsWrong : ChangeSpec := { name := "pieceTells", fn := fun _ => fun
  | [d1, d2, d3] => { results := [.lit (.bool false)], args := [d1, d2, d3] }
  | _ => none }
def PieceTellsWrongFalsely : Prop := pieceTellsRow.holds Try.pinned (OpenSpec.ofChange pieceTellsWrong)

/-- 'cameolaw06.PieceBack': WHATEVER THE INPUT: true; the input reads as it did. -/
def pieceBackSpec : ChangeSpec := { name := "pieceBack", fn := fun _ => fun
  | [d1, d2] => { results := [.lit (.bool true)], args := [d1, d2] }
  | _ => none }
def pieceBackRow : OpenClaim := { program := "ytdfgnmdofjhnkaa", sum := "39e5cbc24037db03e1d6d8f9f00f6648119f1bc72b039d30e30e359092dccf63", func := "cameo/cameolaw06.PieceBack", spec := "pieceBack", unfollowed := true, recurses := true, apart := false }
def PieceBackSaid : Prop := pieceBackRow.holds Try.pinned (OpenSpec.ofChange pieceBackSpec)

/-- ITS FALSE NEIGHBOUR: 'it returns false'. Refute it at one input. -/
def pieceBackWrong : ChangeSpec := { name := "pieceBack", fn := fun _ => fun
  | [d1, d2] => { results := [.lit (.bool false)], args := [d1, d2] }
  | _ => none }
def PieceBackWrongFalsely : Prop := pieceBackRow.holds Try.pinned (OpenSpec.ofChange pieceBackWrong)

/-- 'cameolaw06.PieceSides': WHATEVER THE INPUT: true; the input reads as it did. -/
def pieceSidesSpec : ChangeSpec := { name := "pieceSides", fn := fun _ => fun
  | [d1, d2] => { results := [.lit (.bool true)], args := [d1, d2] }
  | _ => none }
def pieceSidesRow : OpenClaim := { program := "ytdfgnmdofjhnkaa", sum := "39e5cbc24037db03e1d6d8f9f00f6648119f1bc72b039d30e30e359092dccf63", func := "cameo/cameolaw06.PieceSides", spec := "pieceSides", unfollowed := true, recurses := true, apart := false }
def PieceSidesSaid : Prop := pieceSidesRow.holds Try.pinned (OpenSpec.ofChange pieceSidesSpec)

/-- ITS FALSE NEIGHBOUR: 'it returns false'. Refute it at one input. -/
def pieceSidesWrong : ChangeSpec := { name := "pieceSides", fn := fun _ => fun
  | [d1, d2] => { results := [.lit (.bool false)], args := [d1, d2] }
  | _ => none }
def PieceSidesWrongFalsely : Prop := pieceSidesRow.holds Try.pinned (OpenSpec.ofChange pieceSidesWrong)

/-- 'cameolaw06.PieceFields': WHATEVER THE INPUT: true; the input reads as it did. -/
def pieceFieldsSpec : ChangeSpec := { name := "pieceFields", fn := fun _ => fun
  | [d] => { results := [.lit (.bool true)], args := [d] }
  | _ => none }
def pieceFieldsRow : OpenClaim := { program := "ytdfgnmdofjhnkaa", sum := "39e5cbc24037db03e1d6d8f9f00f6648119f1bc72b039d30e30e359092dccf63", func := "cameo/cameolaw06.PieceFields", spec := "pieceFields", unfollowed := true, recurses := true, apart := false }
def PieceFieldsSaid : Prop := pieceFieldsRow.holds Try.pinned (OpenSpec.ofChange pieceFieldsSpec)

/-- ITS FALSE NEIGHBOUR: 'it returns false'. Refute it at one input. -/
def pieceFieldsWrong : ChangeSpec := { name := "pieceFields", fn := fun _ => fun
  | [d] => { results := [.lit (.bool false)], args := [d] }
  | _ => none }
def PieceFieldsWrongFalsely : Prop := pieceFieldsRow.holds Try.pinned (OpenSpec.ofChange pieceFieldsWrong)

/-- 'cameolaw06.PieceCut': WHATEVER THE INPUT: true; the input reads as it did. -/
def pieceCutSpec : ChangeSpec := { name := "pieceCut", fn := fun _ => fun
  | [d1, d2, d3] => { results := [.lit (.bool true)], args := [d1, d2, d3] }
  | _ => none }
def pieceCutRow : OpenClaim := { program := "ytdfgnmdofjhnkaa", sum := "39e5cbc24037db03e1d6d8f9f00f6648119f1bc72b039d30e30e359092dccf63", func := "cameo/cameolaw06.PieceCut", spec := "pieceCut", unfollowed := true, recurses := true, apart := false }
def PieceCutSaid : Prop := pieceCutRow.holds Try.pinned (OpenSpec.ofChange pieceCutSpec)

/-- ITS FALSE NEIGHBOUR: 'it returns false'. Refute it at one input. -/
def pieceCutWrong : ChangeSpec := { name := "pieceCut", fn := fun _ => fun
  | [d1, d2, d3] => { results := [.lit (.bool false)], args := [d1, d2, d3] }
  | _ => none }
def PieceCutWrongFalsely : Prop := pieceCutRow.holds Try.pinned (OpenSpec.ofChange pieceCutWrong)

/-- 'cameolaw06.PieceEach': WHATEVER THE INPUT: true; the input reads as it did. -/
def pieceEachSpec : ChangeSpec := { name := "pieceEach", fn := fun _ => fun
  | [d1, d2] => { results := [.lit (.bool true)], args := [d1, d2] }
  | _ => none }
def pieceEachRow : OpenClaim := { program := "ytdfgnmdofjhnkaa", sum := "39e5cbc24037db03e1d6d8f9f00f6648119f1bc72b039d30e30e359092dccf63", func := "cameo/cameolaw06.PieceEach", spec := "pieceEach", unfollowed := true, recurses := true, apart := false }
def PieceEachSaid : Prop := pieceEachRow.holds Try.pinned (OpenSpec.ofChange pieceEachSpec)

/-- ITS FALSE NEIGHBOUR: 'it returns false'. Refute it at one input. -/
def pieceEachWrong : ChangeSpec := { name := "pieceEach", fn := fun _ => fun
  | [d1, d2] => { results := [.lit (.bool false)], args := [d1, d2] }
  | _ => none }
def PieceEachWrongFalsely : Prop := pieceEachRow.holds Try.pinned (OpenSpec.ofChange pieceEachWrong)

/-- 'cameolaw07.FrameTells': WHATEVER THE INPUT: true; the input reads as it did. -/
def frameTellsSpec : ChangeSpec := { name := "frameTells", fn := fun _ => fun
  | [d1, d2, d3] => { results := [.lit (.bool true)], args := [d1, d2, d3] }
  | _ => none }
def frameTellsRow : OpenClaim := { program := "ytdfgnmdofjhnkaa", sum := "39e5cbc24037db03e1d6d8f9f00f6648119f1bc72b039d30e30e359092dccf63", func := "cameo/cameolaw07.FrameTells", spec := "frameTells", unfollowed := true, recurses := true, apart := false }
def FrameTellsSaid : Prop := frameTellsRow.holds Try.pinned (OpenSpec.ofChange frameTellsSpec)

/-- ITS FALSE NEIGHBOUR: 'it returns false'. Refute it at one input. -/
def frameTellsWrong : ChangeSpec := { name := "frameTells", fn := fun _ => fun
  | [d1, d2, d3] => { results := [.lit (.bool false)], args := [d1, d2, d3] }
  | _ => none }
def FrameTellsWrongFalsely : Prop := frameTellsRow.holds Try.pinned (OpenSpec.ofChange frameTellsWrong)

/-- 'cameolaw07.FrameBack': WHATEVER THE INPUT: true; the input reads as it did. -/
def frameBackSpec : ChangeSpec := { name := "frameBack", fn := fun _ => fun
  | [d1, d2] => { results := [.lit (.bool true)], args := [d1, d2] }
  | _ => none }
def frameBackRow : OpenClaim := { program := "ytdfgnmdofjhnkaa", sum := "39e5cbc24037db03e1d6d8f9f00f6648119f1bc72b039d30e30e359092dccf63", func := "cameo/cameolaw07.FrameBack", spec := "frameBack", unfollowed := true, recurses := true, apart := false }
def FrameBackSaid : Prop := frameBackRow.holds Try.pinned (OpenSpec.ofChange frameBackSpec)

/-- ITS FALSE NEIGHBOUR: 'it returns false'. Refute it at one input. -/
def frameBackWrong : ChangeSpec := { name := "frameBack", fn := fun _ => fun
  | [d1, d2] => { results := [.lit (.bool false)], args := [d1, d2] }
  | _ => none }
def FrameBackWrongFalsely : Prop := frameBackRow.holds Try.pinned (OpenSpec.ofChange frameBackWrong)

/-- 'cameolaw07.FrameSides': WHATEVER THE INPUT: true; the input reads as it did. -/
def frameSidesSpec : ChangeSpec := { name := "frameSides", fn := fun _ => fun
  | [d1, d2, d3] => { results := [.lit (.bool true)], args := [d1, d2, d3] }
  | _ => none }
def frameSidesRow : OpenClaim := { program := "ytdfgnmdofjhnkaa", sum := "39e5cbc24037db03e1d6d8f9f00f6648119f1bc72b039d30e30e359092dccf63", func := "cameo/cameolaw07.FrameSides", spec := "frameSides", unfollowed := true, recurses := true, apart := false }
def FrameSidesSaid : Prop := frameSidesRow.holds Try.pinned (OpenSpec.ofChange frameSidesSpec)

/-- ITS FALSE NEIGHBOUR: 'it returns false'. Refute it at one input. -/
def frameSidesWrong : ChangeSpec := { name := "frameSides", fn := fun _ => fun
  | [d1, d2, d3] => { results := [.lit (.bool false)], args := [d1, d2, d3] }
  | _ => none }
def FrameSidesWrongFalsely : Prop := frameSidesRow.holds Try.pinned (OpenSpec.ofChange frameSidesWrong)

/-- 'cameolaw07.FrameNamed': WHATEVER THE INPUT: true; the input reads as it did. -/
def frameNamedSpec : ChangeSpec := { name := "frameNamed", fn := fun _ => fun
  | [d1, d2] => { results := [.lit (.bool true)], args := [d1, d2] }
  | _ => none }
def frameNamedRow : OpenClaim := { program := "ytdfgnmdofjhnkaa", sum := "39e5cbc24037db03e1d6d8f9f00f6648119f1bc72b039d30e30e359092dccf63", func := "cameo/cameolaw07.FrameNamed", spec := "frameNamed", unfollowed := true, recurses := true, apart := false }
def FrameNamedSaid : Prop := frameNamedRow.holds Try.pinned (OpenSpec.ofChange frameNamedSpec)

/-- ITS FALSE NEIGHBOUR: 'it returns false'. Refute it at one input. -/
def frameNamedWrong : ChangeSpec := { name := "frameNamed", fn := fun _ => fun
  | [d1, d2] => { results := [.lit (.bool false)], args := [d1, d2] }
  | _ => none }
def FrameNamedWrongFalsely : Prop := frameNamedRow.holds Try.pinned (OpenSpec.ofChange frameNamedWrong)

/-- 'cameolaw07.FrameFirst': WHATEVER THE INPUT: true; the input reads as it did. -/
def frameFirstSpec : ChangeSpec := { name := "frameFirst", fn := fun _ => fun
  | [d] => { results := [.lit (.bool true)], args := [d] }
  | _ => none }
def frameFirstRow : OpenClaim := { program := "ytdfgnmdofjhnkaa", sum := "39e5cbc24037db03e1d6d8f9f00f6648119f1bc72b039d30e30e359092dccf63", func := "cameo/cameolaw07.FrameFirst", spec := "frameFirst", unfollowed := true, recurses := true, apart := false }
def FrameFirstSaid : Prop := frameFirstRow.holds Try.pinned (OpenSpec.ofChange frameFirstSpec)

/-- ITS FALSE NEIGHBOUR: 'it returns false'. Refute it at one input. -/
def frameFirstWrong : ChangeSpec := { name := "frameFirst", fn := fun _ => fun
  | [d] => { results := [.lit (.bool false)], args := [d] }
  | _ => none }
def FrameFirstWrongFalsely : Prop := frameFirstRow.holds Try.pinned (OpenSpec.ofChange frameFirstWrong)

/-- 'cameolaw07.FrameOwn': WHATEVER THE INPUT: true; the input reads as it did. -/
def frameOwnSpec : ChangeSpec := { name := "frameOwn", fn := fun _ => fun
  | [d] => { results := [.lit (.bool true)], args := [d] }
  | _ => none }
def frameOwnRow : OpenClaim := { program := "ytdfgnmdofjhnkaa", sum := "39e5cbc24037db03e1d6d8f9f00f6648119f1bc72b039d30e30e359092dccf63", func := "cameo/cameolaw07.FrameOwn", spec := "frameOwn", unfollowed := true, recurses := true, apart := false }
def FrameOwnSaid : Prop := frameOwnRow.holds Try.pinned (OpenSpec.ofChange frameOwnSpec)

/-- ITS FALSE NEIGHBOUR: 'it returns false'. Refute it at one input. -/
def frameOwnWrong : ChangeSpec := { name := "frameOwn", fn := fun _ => fun
  | [d] => { results := [.lit (.bool false)], args := [d] }
  | _ => none }
def FrameOwnWrongFalsely : Prop := frameOwnRow.holds Try.pinned (OpenSpec.ofChange frameOwnWrong)

/- THE SECOND FORM. 'bulk': how many values and letters a reading holds, each counted each time it is reached (what is shared counts as often as it is met; a slice's spare places count too). A statement '..UptoSaid' is the law's where the arguments, and the package variables that the reading takes, are together of bulk at most 1048576: NARROWER than '..Said'. Prove '..Said' where nothing that the law and all that it calls make is longer than what came in: it says more and counts as full. Else prove '..UptoSaid'. A law counts once. -/
mutual
def uptoBulk {H : Type} : DataW H → Nat
  | .lit (.string bytes) => bytes.length + 1
  | .lit _ => 1
  | .nil => 1
  | .ptr d => uptoBulk d + 1
  | .slice elems spare => uptoBulkAll elems + uptoBulkAll spare + 1
  | .agg parts => uptoBulkAll parts + 1
  | .iface _ d => uptoBulk d + 1
  | .map entries => uptoBulkEntries entries + 1
  | .held _ => 1
def uptoBulkAll {H : Type} : List (DataW H) → Nat
  | [] => 0
  | d :: r => uptoBulk d + uptoBulkAll r
def uptoBulkEntries {H : Type} : List (Lit × DataW H) → Nat
  | [] => 0
  | x :: r => uptoBulkEntry x + uptoBulkEntries r
def uptoBulkEntry {H : Type} : Lit × DataW H → Nat
  | (.string bytes, d) => bytes.length + uptoBulk d + 1
  | (_, d) => uptoBulk d + 1
 end
def uptoSmall : (H : Type) → List (DataW H) → Bool := fun _ ds => decide (uptoBulkAll ds ≤ 1048576)
def OpenSpec.upto (s : _root_.Go.ChangeSpec) : _root_.Go.OpenSpec := { _root_.Go.OpenSpec.ofChange s with cond := some uptoSmall }

/-- 'cameolaw06.PieceTells', WHERE WHAT IT READS IS OF BULK AT MOST 1048576: true; the input reads as it did. -/
def pieceTellsUptoRow : OpenClaim := { program := "ytdfgnmdofjhnkaa", sum := "39e5cbc24037db03e1d6d8f9f00f6648119f1bc72b039d30e30e359092dccf63", func := "cameo/cameolaw06.PieceTells", spec := "pieceTells", unfollowed := true, recurses := true, apart := false, narrowed := true }
def PieceTellsUptoSaid : Prop := pieceTellsUptoRow.holds Try.pinned (OpenSpec.upto pieceTellsSpec)

/-- 'cameolaw06.PieceBack', WHERE WHAT IT READS IS OF BULK AT MOST 1048576: true; the input reads as it did. -/
def pieceBackUptoRow : OpenClaim := { program := "ytdfgnmdofjhnkaa", sum := "39e5cbc24037db03e1d6d8f9f00f6648119f1bc72b039d30e30e359092dccf63", func := "cameo/cameolaw06.PieceBack", spec := "pieceBack", unfollowed := true, recurses := true, apart := false, narrowed := true }
def PieceBackUptoSaid : Prop := pieceBackUptoRow.holds Try.pinned (OpenSpec.upto pieceBackSpec)

/-- 'cameolaw06.PieceSides', WHERE WHAT IT READS IS OF BULK AT MOST 1048576: true; the input reads as it did. -/
def pieceSidesUptoRow : OpenClaim := { program := "ytdfgnmdofjhnkaa", sum := "39e5cbc24037db03e1d6d8f9f00f6648119f1bc72b039d30e30e359092dccf63", func := "cameo/cameolaw06.PieceSides", spec := "pieceSides", unfollowed := true, recurses := true, apart := false, narrowed := true }
def PieceSidesUptoSaid : Prop := pieceSidesUptoRow.holds Try.pinned (OpenSpec.upto pieceSidesSpec)

/-- 'cameolaw06.PieceFields', WHERE WHAT IT READS IS OF BULK AT MOST 1048576: true; the input reads as it did. -/
def pieceFieldsUptoRow : OpenClaim := { program := "ytdfgnmdofjhnkaa", sum := "39e5cbc24037db03e1d6d8f9f00f6648119f1bc72b039d30e30e359092dccf63", func := "cameo/cameolaw06.PieceFields", spec := "pieceFields", unfollowed := true, recurses := true, apart := false, narrowed := true }
def PieceFieldsUptoSaid : Prop := pieceFieldsUptoRow.holds Try.pinned (OpenSpec.upto pieceFieldsSpec)

/-- 'cameolaw06.PieceCut', WHERE WHAT IT READS IS OF BULK AT MOST 1048576: true; the input reads as it did. -/
def pieceCutUptoRow : OpenClaim := { program := "ytdfgnmdofjhnkaa", sum := "39e5cbc24037db03e1d6d8f9f00f6648119f1bc72b039d30e30e359092dccf63", func := "cameo/cameolaw06.PieceCut", spec := "pieceCut", unfollowed := true, recurses := true, apart := false, narrowed := true }
def PieceCutUptoSaid : Prop := pieceCutUptoRow.holds Try.pinned (OpenSpec.upto pieceCutSpec)

/-- 'cameolaw06.PieceEach', WHERE WHAT IT READS IS OF BULK AT MOST 1048576: true; the input reads as it did. -/
def pieceEachUptoRow : OpenClaim := { program := "ytdfgnmdofjhnkaa", sum := "39e5cbc24037db03e1d6d8f9f00f6648119f1bc72b039d30e30e359092dccf63", func := "cameo/cameolaw06.PieceEach", spec := "pieceEach", unfollowed := true, recurses := true, apart := false, narrowed := true }
def PieceEachUptoSaid : Prop := pieceEachUptoRow.holds Try.pinned (OpenSpec.upto pieceEachSpec)

/-- 'cameolaw07.FrameTells', WHERE WHAT IT READS IS OF BULK AT MOST 1048576: true; the input reads as it did. -/
def frameTellsUptoRow : OpenClaim := { program := "ytdfgnmdofjhnkaa", sum := "39e5cbc24037db03e1d6d8f9f00f6648119f1bc72b039d30e30e359092dccf63", func := "cameo/cameolaw07.FrameTells", spec := "frameTells", unfollowed := true, recurses := true, apart := false, narrowed := true }
def FrameTellsUptoSaid : Prop := frameTellsUptoRow.holds Try.pinned (OpenSpec.upto frameTellsSpec)

/-- 'cameolaw07.FrameBack', WHERE WHAT IT READS IS OF BULK AT MOST 1048576: true; the input reads as it did. -/
def frameBackUptoRow : OpenClaim := { program := "ytdfgnmdofjhnkaa", sum := "39e5cbc24037db03e1d6d8f9f00f6648119f1bc72b039d30e30e359092dccf63", func := "cameo/cameolaw07.FrameBack", spec := "frameBack", unfollowed := true, recurses := true, apart := false, narrowed := true }
def FrameBackUptoSaid : Prop := frameBackUptoRow.holds Try.pinned (OpenSpec.upto frameBackSpec)

/-- 'cameolaw07.FrameSides', WHERE WHAT IT READS IS OF BULK AT MOST 1048576: true; the input reads as it did. -/
def frameSidesUptoRow : OpenClaim := { program := "ytdfgnmdofjhnkaa", sum := "39e5cbc24037db03e1d6d8f9f00f6648119f1bc72b039d30e30e359092dccf63", func := "cameo/cameolaw07.FrameSides", spec := "frameSides", unfollowed := true, recurses := true, apart := false, narrowed := true }
def FrameSidesUptoSaid : Prop := frameSidesUptoRow.holds Try.pinned (OpenSpec.upto frameSidesSpec)

/-- 'cameolaw07.FrameNamed', WHERE WHAT IT READS IS OF BULK AT MOST 1048576: true; the input reads as it did. -/
def frameNamedUptoRow : OpenClaim := { program := "ytdfgnmdofjhnkaa", sum := "39e5cbc24037db03e1d6d8f9f00f6648119f1bc72b039d30e30e359092dccf63", func := "cameo/cameolaw07.FrameNamed", spec := "frameNamed", unfollowed := true, recurses := true, apart := false, narrowed := true }
def FrameNamedUptoSaid : Prop := frameNamedUptoRow.holds Try.pinned (OpenSpec.upto frameNamedSpec)

/-- 'cameolaw07.FrameFirst', WHERE WHAT IT READS IS OF BULK AT MOST 1048576: true; the input reads as it did. -/
def frameFirstUptoRow : OpenClaim := { program := "ytdfgnmdofjhnkaa", sum := "39e5cbc24037db03e1d6d8f9f00f6648119f1bc72b039d30e30e359092dccf63", func := "cameo/cameolaw07.FrameFirst", spec := "frameFirst", unfollowed := true, recurses := true, apart := false, narrowed := true }
def FrameFirstUptoSaid : Prop := frameFirstUptoRow.holds Try.pinned (OpenSpec.upto frameFirstSpec)

/-- 'cameolaw07.FrameOwn', WHERE WHAT IT READS IS OF BULK AT MOST 1048576: true; the input reads as it did. -/
def frameOwnUptoRow : OpenClaim := { program := "ytdfgnmdofjhnkaa", sum := "39e5cbc24037db03e1d6d8f9f00f6648119f1bc72b039d30e30e359092dccf63", func := "cameo/cameolaw07.FrameOwn", spec := "frameOwn", unfollowed := true, recurses := true, apart := false, narrowed := true }
def FrameOwnUptoSaid : Prop := frameOwnUptoRow.holds Try.pinned (OpenSpec.upto frameOwnSpec)

end Rows
end Go.Proofs.Ytdfgnmdofjhnkaa
