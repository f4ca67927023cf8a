/-
  No cell of these rows narrows 'for every input' (looked for: loops, veiled, ifaces, maps, wideKeys, modest, calm, conditions, laid).
  DERIVED. THE GIVEN ROWS OF THIS SEAT. 12 by the template 'for every input the law returns true; each argument reads behind the call as it read before'; 0 by the template 'total and deterministic' (their statements: YtkkbblpofhenpaaTotals.lean).
  GIVEN WITH THE SEED: the statements are not yours to turn. If you find one false, say at which input.
  Laid BY PROGRAM, IN A SANDBOX (cutbox-rows.mjs): the forced cells as the released guide's own fill.sh prints them over the translation 45d2c89d6db43edf… (all of the seat's roots in one cut). By AI agents, Wed Nov 11 2026. No macro, syntax, notation, axiom, sorry.
-/
import Derived.Test.YtkkbblpofhenpaaChecked
import GoSem.Claim
import GoSem.ClaimJoined
import GoSem.ClaimMapViews
import Derived.JoinedTies
import Derived.KernelRfl
namespace Go.Proofs.Ytkkbblpofhenpaa
/- THE CELL 'sum', in the pinned program and in every row, IS THE sha256 OF THE DUMP (.gsa) THAT YtkkbblpofhenpaaProg.lean LOADS. Nothing in Lean hashes anything: it is a label: what it is worth is what the hold of that sum in a sandbox is worth. -/
noncomputable def Try.pinned : Pinned := { name := "ytkkbblpofhenpaa", sum := "45d2c89d6db43edff1df78a6967f04ec0ce53d8a328116c78811d18acaeaac50", checked := Try.checked }
namespace Rows
def none {H : Type} : Left H := { results := [], args := [] }

/-- 'cameolaw08.LaneDoes': WHATEVER THE INPUT: true; the input reads as it did. -/
def laneDoesSpec : ChangeSpec := { name := "laneDoes", fn := fun _ => fun
  | [d1, d2, d3] => { results := [.lit (.bool true)], args := [d1, d2, d3] }
  | _ => none }
def laneDoesRow : OpenClaim := { program := "ytkkbblpofhenpaa", sum := "45d2c89d6db43edff1df78a6967f04ec0ce53d8a328116c78811d18acaeaac50", func := "cameo/cameolaw08.LaneDoes", spec := "laneDoes", unfollowed := true, recurses := true, apart := false }
def LaneDoesSaid : Prop := laneDoesRow.holds Try.pinned (OpenSpec.ofChange laneDoesSpec)

/-- ITS FALSE NEIGHBOUR: 'it returns false'. Refute it at one input. -/
def laneDoesWrong : ChangeSpec := { name := "laneDoes", fn := fun _ => fun
  | [d1, d2, d3] => { results := [.lit (.bool false)], args := [d1, d2, d3] }
  | _ => none }
def LaneDoesWrongFalsely : Prop := laneDoesRow.holds Try.pinned (OpenSpec.ofChange laneDoesWrong)

/-- 'cameolaw08.LaneOnce': WHATEVER THE INPUT: true; the input reads as it did. -/
def laneOnceSpec : ChangeSpec := { name := "laneOnce", fn := fun _ => fun
  | [d1, d2, d3] => { results := [.lit (.bool true)], args := [d1, d2, d3] }
  | _ => none }
def laneOnceRow : OpenClaim := { program := "ytkkbblpofhenpaa", sum := "45d2c89d6db43edff1df78a6967f04ec0ce53d8a328116c78811d18acaeaac50", func := "cameo/cameolaw08.LaneOnce", spec := "laneOnce", unfollowed := true, recurses := true, apart := false }
def LaneOnceSaid : Prop := laneOnceRow.holds Try.pinned (OpenSpec.ofChange laneOnceSpec)

/-- ITS FALSE NEIGHBOUR: 'it returns false'. Refute it at one input. -/
def laneOnceWrong : ChangeSpec := { name := "laneOnce", fn := fun _ => fun
  | [d1, d2, d3] => { results := [.lit (.bool false)], args := [d1, d2, d3] }
  | _ => none }
def LaneOnceWrongFalsely : Prop := laneOnceRow.holds Try.pinned (OpenSpec.ofChange laneOnceWrong)

/-- 'cameolaw08.LaneOrder': WHATEVER THE INPUT: true; the input reads as it did. -/
def laneOrderSpec : ChangeSpec := { name := "laneOrder", fn := fun _ => fun
  | [d1, d2] => { results := [.lit (.bool true)], args := [d1, d2] }
  | _ => none }
def laneOrderRow : OpenClaim := { program := "ytkkbblpofhenpaa", sum := "45d2c89d6db43edff1df78a6967f04ec0ce53d8a328116c78811d18acaeaac50", func := "cameo/cameolaw08.LaneOrder", spec := "laneOrder", unfollowed := true, recurses := true, apart := false }
def LaneOrderSaid : Prop := laneOrderRow.holds Try.pinned (OpenSpec.ofChange laneOrderSpec)

/-- ITS FALSE NEIGHBOUR: 'it returns false'. Refute it at one input. -/
def laneOrderWrong : ChangeSpec := { name := "laneOrder", fn := fun _ => fun
  | [d1, d2] => { results := [.lit (.bool false)], args := [d1, d2] }
  | _ => none }
def LaneOrderWrongFalsely : Prop := laneOrderRow.holds Try.pinned (OpenSpec.ofChange laneOrderWrong)

/-- 'cameolaw08.LaneFull': WHATEVER THE INPUT: true; the input reads as it did. -/
def laneFullSpec : ChangeSpec := { name := "laneFull", fn := fun _ => fun
  | [d1, d2] => { results := [.lit (.bool true)], args := [d1, d2] }
  | _ => none }
def laneFullRow : OpenClaim := { program := "ytkkbblpofhenpaa", sum := "45d2c89d6db43edff1df78a6967f04ec0ce53d8a328116c78811d18acaeaac50", func := "cameo/cameolaw08.LaneFull", spec := "laneFull", unfollowed := true, recurses := true, apart := false }
def LaneFullSaid : Prop := laneFullRow.holds Try.pinned (OpenSpec.ofChange laneFullSpec)

/-- ITS FALSE NEIGHBOUR: 'it returns false'. Refute it at one input. -/
def laneFullWrong : ChangeSpec := { name := "laneFull", fn := fun _ => fun
  | [d1, d2] => { results := [.lit (.bool false)], args := [d1, d2] }
  | _ => none }
def LaneFullWrongFalsely : Prop := laneFullRow.holds Try.pinned (OpenSpec.ofChange laneFullWrong)

/-- 'cameolaw08.LaneBack': WHATEVER THE INPUT: true; the input reads as it did. -/
def laneBackSpec : ChangeSpec := { name := "laneBack", fn := fun _ => fun
  | [d1, d2] => { results := [.lit (.bool true)], args := [d1, d2] }
  | _ => none }
def laneBackRow : OpenClaim := { program := "ytkkbblpofhenpaa", sum := "45d2c89d6db43edff1df78a6967f04ec0ce53d8a328116c78811d18acaeaac50", func := "cameo/cameolaw08.LaneBack", spec := "laneBack", unfollowed := true, recurses := true, apart := false }
def LaneBackSaid : Prop := laneBackRow.holds Try.pinned (OpenSpec.ofChange laneBackSpec)

/-- ITS FALSE NEIGHBOUR: 'it returns false'. Refute it at one input. -/
def laneBackWrong : ChangeSpec := { name := "laneBack", fn := fun _ => fun
  | [d1, d2] => { results := [.lit (.bool false)], args := [d1, d2] }
  | _ => none }
def LaneBackWrongFalsely : Prop := laneBackRow.holds Try.pinned (OpenSpec.ofChange laneBackWrong)

/-- 'cameolaw08.LaneCounts': WHATEVER THE INPUT: true; the input reads as it did. -/
def laneCountsSpec : ChangeSpec := { name := "laneCounts", fn := fun _ => fun
  | [d] => { results := [.lit (.bool true)], args := [d] }
  | _ => none }
def laneCountsRow : OpenClaim := { program := "ytkkbblpofhenpaa", sum := "45d2c89d6db43edff1df78a6967f04ec0ce53d8a328116c78811d18acaeaac50", func := "cameo/cameolaw08.LaneCounts", spec := "laneCounts", unfollowed := true, recurses := true, apart := false }
def LaneCountsSaid : Prop := laneCountsRow.holds Try.pinned (OpenSpec.ofChange laneCountsSpec)

/-- ITS FALSE NEIGHBOUR: 'it returns false'. Refute it at one input. -/
def laneCountsWrong : ChangeSpec := { name := "laneCounts", fn := fun _ => fun
  | [d] => { results := [.lit (.bool false)], args := [d] }
  | _ => none }
def LaneCountsWrongFalsely : Prop := laneCountsRow.holds Try.pinned (OpenSpec.ofChange laneCountsWrong)

/-- 'cameolaw08.LaneOwn': WHATEVER THE INPUT: true; the input reads as it did. -/
def laneOwnSpec : ChangeSpec := { name := "laneOwn", fn := fun _ => fun
  | [d1, d2, d3] => { results := [.lit (.bool true)], args := [d1, d2, d3] }
  | _ => none }
def laneOwnRow : OpenClaim := { program := "ytkkbblpofhenpaa", sum := "45d2c89d6db43edff1df78a6967f04ec0ce53d8a328116c78811d18acaeaac50", func := "cameo/cameolaw08.LaneOwn", spec := "laneOwn", unfollowed := true, recurses := true, apart := false }
def LaneOwnSaid : Prop := laneOwnRow.holds Try.pinned (OpenSpec.ofChange laneOwnSpec)

/-- ITS FALSE NEIGHBOUR: 'it returns false'. Refute it at one input. -/
def laneOwnWrong : ChangeSpec := { name := "laneOwn", fn := fun _ => fun
  | [d1, d2, d3] => { results := [.lit (.bool false)], args := [d1, d2, d3] }
  | _ => none }
def LaneOwnWrongFalsely : Prop := laneOwnRow.holds Try.pinned (OpenSpec.ofChange laneOwnWrong)

/-- 'cameolaw06.PieceTells': WHATEVER THE INPUT: true; the input reads as it did. -/
def pieceTellsSpec : ChangeSpec := { name := "pieceTells", fn := fun _ => fun
  | [d1, d2, d3] => { results := [.lit (.bool true)], args := [d1, d2, d3] }
  | _ => none }
def pieceTellsRow : OpenClaim := { program := "ytkkbblpofhenpaa", sum := "45d2c89d6db43edff1df78a6967f04ec0ce53d8a328116c78811d18acaeaac50", func := "cameo/cameolaw06.PieceTells", spec := "pieceTells", unfollowed := true, recurses := true, apart := false }
def PieceTellsSaid : Prop := pieceTellsRow.holds Try.pinned (OpenSpec.ofChange pieceTellsSpec)

/-- ITS FALSE NEIGHBOUR: 'it returns false'. Refute it at one input. -/
def pieceTellsWrong : ChangeSpec := { name := "pieceTells", fn := fun _ => fun
  | [d1, d2, d3] => { results := [.lit (.bool false)], args := [d1, d2, d3] }
  | _ => none }
def PieceTellsWrongFalsely : Prop := pieceTellsRow.holds Try.pinned (OpenSpec.ofChange pieceTellsWrong)

/-- 'cameolaw07.FrameTells': WHATEVER THE INPUT: true; the input reads as it did. -/
def frameTellsSpec : ChangeSpec := { name := "frameTells", fn := fun _ => fun
  | [d1, d2, d3] => { results := [.lit (.bool true)], args := [d1, d2, d3] }
  | _ => none }
def frameTellsRow : OpenClaim := { program := "ytkkbblpofhenpaa", sum := "45d2c89d6db43edff1df78a6967f04ec0ce53d8a328116c78811d18acaeaac50", func := "cameo/cameolaw07.FrameTells", spec := "frameTells", unfollowed := true, recurses := true, apart := false }
def FrameTellsSaid : Prop := frameTellsRow.holds Try.pinned (OpenSpec.ofChange frameTellsSpec)

/-- ITS FALSE NEIGHBOUR: 'it returns false'. Refute it at one input. -/
def frameTellsWrong : ChangeSpec := { name := "frameTells", fn := fun _ => fun
  | [d1, d2, d3] => { results := [.lit (.bool false)], args := [d1, d2, d3] }
  | _ => none }
def FrameTellsWrongFalsely : Prop := frameTellsRow.holds Try.pinned (OpenSpec.ofChange frameTellsWrong)

/-- 'cameolaw07.FrameBack': WHATEVER THE INPUT: true; the input reads as it did. -/
def frameBackSpec : ChangeSpec := { name := "frameBack", fn := fun _ => fun
  | [d1, d2] => { results := [.lit (.bool true)], args := [d1, d2] }
  | _ => none }
def frameBackRow : OpenClaim := { program := "ytkkbblpofhenpaa", sum := "45d2c89d6db43edff1df78a6967f04ec0ce53d8a328116c78811d18acaeaac50", func := "cameo/cameolaw07.FrameBack", spec := "frameBack", unfollowed := true, recurses := true, apart := false }
def FrameBackSaid : Prop := frameBackRow.holds Try.pinned (OpenSpec.ofChange frameBackSpec)

/-- ITS FALSE NEIGHBOUR: 'it returns false'. Refute it at one input. -/
def frameBackWrong : ChangeSpec := { name := "frameBack", fn := fun _ => fun
  | [d1, d2] => { results := [.lit (.bool false)], args := [d1, d2] }
  | _ => none }
def FrameBackWrongFalsely : Prop := frameBackRow.holds Try.pinned (OpenSpec.ofChange frameBackWrong)

/-- 'cameolaw07.FrameNamed': WHATEVER THE INPUT: true; the input reads as it did. -/
def frameNamedSpec : ChangeSpec := { name := "frameNamed", fn := fun _ => fun
  | [d1, d2] => { results := [.lit (.bool true)], args := [d1, d2] }
  | _ => none }
def frameNamedRow : OpenClaim := { program := "ytkkbblpofhenpaa", sum := "45d2c89d6db43edff1df78a6967f04ec0ce53d8a328116c78811d18acaeaac50", func := "cameo/cameolaw07.FrameNamed", spec := "frameNamed", unfollowed := true, recurses := true, apart := false }
def FrameNamedSaid : Prop := frameNamedRow.holds Try.pinned (OpenSpec.ofChange frameNamedSpec)

/-- ITS FALSE NEIGHBOUR: 'it returns false'. Refute it at one input. -/
def frameNamedWrong : ChangeSpec := { name := "frameNamed", fn := fun _ => fun
  | [d1, d2] => { results := [.lit (.bool false)], args := [d1, d2] }
  | _ => none }
def FrameNamedWrongFalsely : Prop := frameNamedRow.holds Try.pinned (OpenSpec.ofChange frameNamedWrong)

/-- 'cameolaw07.FrameOwn': WHATEVER THE INPUT: true; the input reads as it did. -/
def frameOwnSpec : ChangeSpec := { name := "frameOwn", fn := fun _ => fun
  | [d] => { results := [.lit (.bool true)], args := [d] }
  | _ => none }
def frameOwnRow : OpenClaim := { program := "ytkkbblpofhenpaa", sum := "45d2c89d6db43edff1df78a6967f04ec0ce53d8a328116c78811d18acaeaac50", func := "cameo/cameolaw07.FrameOwn", spec := "frameOwn", unfollowed := true, recurses := true, apart := false }
def FrameOwnSaid : Prop := frameOwnRow.holds Try.pinned (OpenSpec.ofChange frameOwnSpec)

/-- ITS FALSE NEIGHBOUR: 'it returns false'. Refute it at one input. -/
def frameOwnWrong : ChangeSpec := { name := "frameOwn", fn := fun _ => fun
  | [d] => { results := [.lit (.bool false)], args := [d] }
  | _ => none }
def FrameOwnWrongFalsely : Prop := frameOwnRow.holds Try.pinned (OpenSpec.ofChange frameOwnWrong)

/- THE SECOND FORM. 'bulk': how many values and letters a reading holds, each counted each time it is reached (what is shared counts as often as it is met; a slice's spare places count too). A statement '..UptoSaid' is the law's where the arguments, and the package variables that the reading takes, are together of bulk at most 1048576: NARROWER than '..Said'. Prove '..Said' where nothing that the law and all that it calls make is longer than what came in: it says more and counts as full. Else prove '..UptoSaid'. A law counts once. -/
mutual
def uptoBulk {H : Type} : DataW H → Nat
  | .lit (.string bytes) => bytes.length + 1
  | .lit _ => 1
  | .nil => 1
  | .ptr d => uptoBulk d + 1
  | .slice elems spare => uptoBulkAll elems + uptoBulkAll spare + 1
  | .agg parts => uptoBulkAll parts + 1
  | .iface _ d => uptoBulk d + 1
  | .map entries => uptoBulkEntries entries + 1
  | .held _ => 1
def uptoBulkAll {H : Type} : List (DataW H) → Nat
  | [] => 0
  | d :: r => uptoBulk d + uptoBulkAll r
def uptoBulkEntries {H : Type} : List (Lit × DataW H) → Nat
  | [] => 0
  | x :: r => uptoBulkEntry x + uptoBulkEntries r
def uptoBulkEntry {H : Type} : Lit × DataW H → Nat
  | (.string bytes, d) => bytes.length + uptoBulk d + 1
  | (_, d) => uptoBulk d + 1
 end
def uptoSmall : (H : Type) → List (DataW H) → Bool := fun _ ds => decide (uptoBulkAll ds ≤ 1048576)
def OpenSpec.upto (s : _root_.Go.ChangeSpec) : _root_.Go.OpenSpec := { _root_.Go.OpenSpec.ofChange s with cond := some uptoSmall }

/-- 'cameolaw08.LaneDoes', WHERE WHAT IT READS IS OF BULK AT MOST 1048576: true; the input reads as it did. -/
def laneDoesUptoRow : OpenClaim := { program := "ytkkbblpofhenpaa", sum := "45d2c89d6db43edff1df78a6967f04ec0ce53d8a328116c78811d18acaeaac50", func := "cameo/cameolaw08.LaneDoes", spec := "laneDoes", unfollowed := true, recurses := true, apart := false, narrowed := true }
def LaneDoesUptoSaid : Prop := laneDoesUptoRow.holds Try.pinned (OpenSpec.upto laneDoesSpec)

/-- 'cameolaw08.LaneOnce', WHERE WHAT IT READS IS OF BULK AT MOST 1048576: true; the input reads as it did. -/
def laneOnceUptoRow : OpenClaim := { program := "ytkkbblpofhenpaa", sum := "45d2c89d6db43edff1df78a6967f04ec0ce53d8a328116c78811d18acaeaac50", func := "cameo/cameolaw08.LaneOnce", spec := "laneOnce", unfollowed := true, recurses := true, apart := false, narrowed := true }
def LaneOnceUptoSaid : Prop := laneOnceUptoRow.holds Try.pinned (OpenSpec.upto laneOnceSpec)

/-- 'cameolaw08.LaneOrder', WHERE WHAT IT READS IS OF BULK AT MOST 1048576: true; the input reads as it did. -/
def laneOrderUptoRow : OpenClaim := { program := "ytkkbblpofhenpaa", sum := "45d2c89d6db43edff1df78a6967f04ec0ce53d8a328116c78811d18acaeaac50", func := "cameo/cameolaw08.LaneOrder", spec := "laneOrder", unfollowed := true, recurses := true, apart := false, narrowed := true }
def LaneOrderUptoSaid : Prop := laneOrderUptoRow.holds Try.pinned (OpenSpec.upto laneOrderSpec)

/-- 'cameolaw08.LaneFull', WHERE WHAT IT READS IS OF BULK AT MOST 1048576: true; the input reads as it did. -/
def laneFullUptoRow : OpenClaim := { program := "ytkkbblpofhenpaa", sum := "45d2c89d6db43edff1df78a6967f04ec0ce53d8a328116c78811d18acaeaac50", func := "cameo/cameolaw08.LaneFull", spec := "laneFull", unfollowed := true, recurses := true, apart := false, narrowed := true }
def LaneFullUptoSaid : Prop := laneFullUptoRow.holds Try.pinned (OpenSpec.upto laneFullSpec)

/-- 'cameolaw08.LaneBack', WHERE WHAT IT READS IS OF BULK AT MOST 1048576: true; the input reads as it did. -/
def laneBackUptoRow : OpenClaim := { program := "ytkkbblpofhenpaa", sum := "45d2c89d6db43edff1df78a6967f04ec0ce53d8a328116c78811d18acaeaac50", func := "cameo/cameolaw08.LaneBack", spec := "laneBack", unfollowed := true, recurses := true, apart := false, narrowed := true }
def LaneBackUptoSaid : Prop := laneBackUptoRow.holds Try.pinned (OpenSpec.upto laneBackSpec)

/-- 'cameolaw08.LaneCounts', WHERE WHAT IT READS IS OF BULK AT MOST 1048576: true; the input reads as it did. -/
def laneCountsUptoRow : OpenClaim := { program := "ytkkbblpofhenpaa", sum := "45d2c89d6db43edff1df78a6967f04ec0ce53d8a328116c78811d18acaeaac50", func := "cameo/cameolaw08.LaneCounts", spec := "laneCounts", unfollowed := true, recurses := true, apart := false, narrowed := true }
def LaneCountsUptoSaid : Prop := laneCountsUptoRow.holds Try.pinned (OpenSpec.upto laneCountsSpec)

/-- 'cameolaw08.LaneOwn', WHERE WHAT IT READS IS OF BULK AT MOST 1048576: true; the input reads as it did. -/
def laneOwnUptoRow : OpenClaim := { program := "ytkkbblpofhenpaa", sum := "45d2c89d6db43edff1df78a6967f04ec0ce53d8a328116c78811d18acaeaac50", func := "cameo/cameolaw08.LaneOwn", spec := "laneOwn", unfollowed := true, recurses := true, apart := false, narrowed := true }
def LaneOwnUptoSaid : Prop := laneOwnUptoRow.holds Try.pinned (OpenSpec.upto laneOwnSpec)

/-- 'cameolaw06.PieceTells', WHERE WHAT IT READS IS OF BULK AT MOST 1048576: true; the input reads as it did. -/
def pieceTellsUptoRow : OpenClaim := { program := "ytkkbblpofhenpaa", sum := "45d2c89d6db43edff1df78a6967f04ec0ce53d8a328116c78811d18acaeaac50", func := "cameo/cameolaw06.PieceTells", spec := "pieceTells", unfollowed := true, recurses := true, apart := false, narrowed := true }
def PieceTellsUptoSaid : Prop := pieceTellsUptoRow.holds Try.pinned (OpenSpec.upto pieceTellsSpec)

/-- 'cameolaw07.FrameTells', WHERE WHAT IT READS IS OF BULK AT MOST 1048576: true; the input reads as it did. -/
def frameTellsUptoRow : OpenClaim := { program := "ytkkbblpofhenpaa", sum := "45d2c89d6db43edff1df78a6967f04ec0ce53d8a328116c78811d18acaeaac50", func := "cameo/cameolaw07.FrameTells", spec := "frameTells", unfollowed := true, recurses := true, apart := false, narrowed := true }
def FrameTellsUptoSaid : Prop := frameTellsUptoRow.holds Try.pinned (OpenSpec.upto frameTellsSpec)

/-- 'cameolaw07.FrameBack', WHERE WHAT IT READS IS OF BULK AT MOST 1048576: true; the input reads as it did. -/
def frameBackUptoRow : OpenClaim := { program := "ytkkbblpofhenpaa", sum := "45d2c89d6db43edff1df78a6967f04ec0ce53d8a328116c78811d18acaeaac50", func := "cameo/cameolaw07.FrameBack", spec := "frameBack", unfollowed := true, recurses := true, apart := false, narrowed := true }
def FrameBackUptoSaid : Prop := frameBackUptoRow.holds Try.pinned (OpenSpec.upto frameBackSpec)

/-- 'cameolaw07.FrameNamed', WHERE WHAT IT READS IS OF BULK AT MOST 1048576: true; the input reads as it did. -/
def frameNamedUptoRow : OpenClaim := { program := "ytkkbblpofhenpaa", sum := "45d2c89d6db43edff1df78a6967f04ec0ce53d8a328116c78811d18acaeaac50", func := "cameo/cameolaw07.FrameNamed", spec := "frameNamed", unfollowed := true, recurses := true, apart := false, narrowed := true }
def FrameNamedUptoSaid : Prop := frameNamedUptoRow.holds Try.pinned (OpenSpec.upto frameNamedSpec)

/-- 'cameolaw07.FrameOwn', WHERE WHAT IT READS IS OF BULK AT MOST 1048576: true; the input reads as it did. -/
def frameOwnUptoRow : OpenClaim := { program := "ytkkbblpofhenpaa", sum := "45d2c89d6db43edff1df78a6967f04ec0ce53d8a328116c78811d18acaeaac50", func := "cameo/cameolaw07.FrameOwn", spec := "frameOwn", unfollowed := true, recurses := true, apart := false, narrowed := true }
def FrameOwnUptoSaid : Prop := frameOwnUptoRow.holds Try.pinned (OpenSpec.upto frameOwnSpec)

end Rows
end Go.Proofs.Ytkkbblpofhenpaa
