/-
  No cell of these rows narrows 'for every input' (looked for: loops, veiled, ifaces, maps, wideKeys, modest, calm, conditions, laid).
  DERIVED. THE GIVEN ROWS OF THIS SEAT. 6 by the template 'for every input the law returns true; each argument reads behind the call as it read before'; 0 by the template 'total and deterministic' (their statements: YtmbilaepeekglaaTotals.lean).
  GIVEN WITH THE SEED: the statements are not yours to turn. If you find one false, say at which input.
  Laid BY PROGRAM, IN A SANDBOX (cutbox-rows.mjs): the forced cells as the released guide's own fill.sh prints them over the translation d772f6b47e19d998… (all of the seat's roots in one cut). By AI agents, Wed Nov 11 2026. No macro, syntax, notation, axiom, sorry.
-/
import Derived.Test.YtmbilaepeekglaaChecked
import GoSem.Claim
import GoSem.ClaimJoined
import GoSem.ClaimMapViews
import Derived.JoinedTies
import Derived.KernelRfl
namespace Go.Proofs.Ytmbilaepeekglaa
/- THE CELL 'sum', in the pinned program and in every row, IS THE sha256 OF THE DUMP (.gsa) THAT YtmbilaepeekglaaProg.lean LOADS. Nothing in Lean hashes anything: it is a label: what it is worth is what the hold of that sum in a sandbox is worth. -/
noncomputable def Try.pinned : Pinned := { name := "ytmbilaepeekglaa", sum := "d772f6b47e19d99877efaa3f14a438afa6b9c652c3ac551b3fee2f40d3e194da", checked := Try.checked }
namespace Rows
def none {H : Type} : Left H := { results := [], args := [] }

/-- 'cameolaw11.HueTells': WHATEVER THE INPUT: true; the input reads as it did. -/
def hueTellsSpec : ChangeSpec := { name := "hueTells", fn := fun _ => fun
  | [d1, d2, d3] => { results := [.lit (.bool true)], args := [d1, d2, d3] }
  | _ => none }
def hueTellsRow : OpenClaim := { program := "ytmbilaepeekglaa", sum := "d772f6b47e19d99877efaa3f14a438afa6b9c652c3ac551b3fee2f40d3e194da", func := "cameo/cameolaw11.HueTells", spec := "hueTells", unfollowed := true, recurses := true, apart := false }
def HueTellsSaid : Prop := hueTellsRow.holds Try.pinned (OpenSpec.ofChange hueTellsSpec)

/-- ITS FALSE NEIGHBOUR: 'it returns false'. Refute it at one input. -/
def hueTellsWrong : ChangeSpec := { name := "hueTells", fn := fun _ => fun
  | [d1, d2, d3] => { results := [.lit (.bool false)], args := [d1, d2, d3] }
  | _ => none }
def HueTellsWrongFalsely : Prop := hueTellsRow.holds Try.pinned (OpenSpec.ofChange hueTellsWrong)

/-- 'cameolaw11.HueOnce': WHATEVER THE INPUT: true; the input reads as it did. -/
def hueOnceSpec : ChangeSpec := { name := "hueOnce", fn := fun _ => fun
  | [d] => { results := [.lit (.bool true)], args := [d] }
  | _ => none }
def hueOnceRow : OpenClaim := { program := "ytmbilaepeekglaa", sum := "d772f6b47e19d99877efaa3f14a438afa6b9c652c3ac551b3fee2f40d3e194da", func := "cameo/cameolaw11.HueOnce", spec := "hueOnce", unfollowed := true, recurses := true, apart := false }
def HueOnceSaid : Prop := hueOnceRow.holds Try.pinned (OpenSpec.ofChange hueOnceSpec)

/-- ITS FALSE NEIGHBOUR: 'it returns false'. Refute it at one input. -/
def hueOnceWrong : ChangeSpec := { name := "hueOnce", fn := fun _ => fun
  | [d] => { results := [.lit (.bool false)], args := [d] }
  | _ => none }
def HueOnceWrongFalsely : Prop := hueOnceRow.holds Try.pinned (OpenSpec.ofChange hueOnceWrong)

/-- 'cameolaw11.HueRest': WHATEVER THE INPUT: true; the input reads as it did. -/
def hueRestSpec : ChangeSpec := { name := "hueRest", fn := fun _ => fun
  | [d1, d2] => { results := [.lit (.bool true)], args := [d1, d2] }
  | _ => none }
def hueRestRow : OpenClaim := { program := "ytmbilaepeekglaa", sum := "d772f6b47e19d99877efaa3f14a438afa6b9c652c3ac551b3fee2f40d3e194da", func := "cameo/cameolaw11.HueRest", spec := "hueRest", unfollowed := true, recurses := true, apart := false }
def HueRestSaid : Prop := hueRestRow.holds Try.pinned (OpenSpec.ofChange hueRestSpec)

/-- ITS FALSE NEIGHBOUR: 'it returns false'. Refute it at one input. -/
def hueRestWrong : ChangeSpec := { name := "hueRest", fn := fun _ => fun
  | [d1, d2] => { results := [.lit (.bool false)], args := [d1, d2] }
  | _ => none }
def HueRestWrongFalsely : Prop := hueRestRow.holds Try.pinned (OpenSpec.ofChange hueRestWrong)

/-- 'cameolaw11.HueMore': WHATEVER THE INPUT: true; the input reads as it did. -/
def hueMoreSpec : ChangeSpec := { name := "hueMore", fn := fun _ => fun
  | [d1, d2, d3] => { results := [.lit (.bool true)], args := [d1, d2, d3] }
  | _ => none }
def hueMoreRow : OpenClaim := { program := "ytmbilaepeekglaa", sum := "d772f6b47e19d99877efaa3f14a438afa6b9c652c3ac551b3fee2f40d3e194da", func := "cameo/cameolaw11.HueMore", spec := "hueMore", unfollowed := true, recurses := true, apart := false }
def HueMoreSaid : Prop := hueMoreRow.holds Try.pinned (OpenSpec.ofChange hueMoreSpec)

/-- ITS FALSE NEIGHBOUR: 'it returns false'. Refute it at one input. -/
def hueMoreWrong : ChangeSpec := { name := "hueMore", fn := fun _ => fun
  | [d1, d2, d3] => { results := [.lit (.bool false)], args := [d1, d2, d3] }
  | _ => none }
def HueMoreWrongFalsely : Prop := hueMoreRow.holds Try.pinned (OpenSpec.ofChange hueMoreWrong)

/-- 'cameolaw11.HueLonger': WHATEVER THE INPUT: true; the input reads as it did. -/
def hueLongerSpec : ChangeSpec := { name := "hueLonger", fn := fun _ => fun
  | [d1, d2, d3] => { results := [.lit (.bool true)], args := [d1, d2, d3] }
  | _ => none }
def hueLongerRow : OpenClaim := { program := "ytmbilaepeekglaa", sum := "d772f6b47e19d99877efaa3f14a438afa6b9c652c3ac551b3fee2f40d3e194da", func := "cameo/cameolaw11.HueLonger", spec := "hueLonger", unfollowed := true, recurses := true, apart := false }
def HueLongerSaid : Prop := hueLongerRow.holds Try.pinned (OpenSpec.ofChange hueLongerSpec)

/-- ITS FALSE NEIGHBOUR: 'it returns false'. Refute it at one input. -/
def hueLongerWrong : ChangeSpec := { name := "hueLonger", fn := fun _ => fun
  | [d1, d2, d3] => { results := [.lit (.bool false)], args := [d1, d2, d3] }
  | _ => none }
def HueLongerWrongFalsely : Prop := hueLongerRow.holds Try.pinned (OpenSpec.ofChange hueLongerWrong)

/-- 'cameolaw11.HueStays': WHATEVER THE INPUT: true; the input reads as it did. -/
def hueStaysSpec : ChangeSpec := { name := "hueStays", fn := fun _ => fun
  | [d1, d2, d3] => { results := [.lit (.bool true)], args := [d1, d2, d3] }
  | _ => none }
def hueStaysRow : OpenClaim := { program := "ytmbilaepeekglaa", sum := "d772f6b47e19d99877efaa3f14a438afa6b9c652c3ac551b3fee2f40d3e194da", func := "cameo/cameolaw11.HueStays", spec := "hueStays", unfollowed := true, recurses := true, apart := false }
def HueStaysSaid : Prop := hueStaysRow.holds Try.pinned (OpenSpec.ofChange hueStaysSpec)

/-- ITS FALSE NEIGHBOUR: 'it returns false'. Refute it at one input. -/
def hueStaysWrong : ChangeSpec := { name := "hueStays", fn := fun _ => fun
  | [d1, d2, d3] => { results := [.lit (.bool false)], args := [d1, d2, d3] }
  | _ => none }
def HueStaysWrongFalsely : Prop := hueStaysRow.holds Try.pinned (OpenSpec.ofChange hueStaysWrong)

/- THE SECOND FORM. 'bulk': how many values and letters a reading holds, each counted each time it is reached (what is shared counts as often as it is met; a slice's spare places count too). A statement '..UptoSaid' is the law's where the arguments, and the package variables that the reading takes, are together of bulk at most 1048576: NARROWER than '..Said'. Prove '..Said' where nothing that the law and all that it calls make is longer than what came in: it says more and counts as full. Else prove '..UptoSaid'. A law counts once. -/
mutual
def uptoBulk {H : Type} : DataW H → Nat
  | .lit (.string bytes) => bytes.length + 1
  | .lit _ => 1
  | .nil => 1
  | .ptr d => uptoBulk d + 1
  | .slice elems spare => uptoBulkAll elems + uptoBulkAll spare + 1
  | .agg parts => uptoBulkAll parts + 1
  | .iface _ d => uptoBulk d + 1
  | .map entries => uptoBulkEntries entries + 1
  | .held _ => 1
def uptoBulkAll {H : Type} : List (DataW H) → Nat
  | [] => 0
  | d :: r => uptoBulk d + uptoBulkAll r
def uptoBulkEntries {H : Type} : List (Lit × DataW H) → Nat
  | [] => 0
  | x :: r => uptoBulkEntry x + uptoBulkEntries r
def uptoBulkEntry {H : Type} : Lit × DataW H → Nat
  | (.string bytes, d) => bytes.length + uptoBulk d + 1
  | (_, d) => uptoBulk d + 1
 end
def uptoSmall : (H : Type) → List (DataW H) → Bool := fun _ ds => decide (uptoBulkAll ds ≤ 1048576)
def OpenSpec.upto (s : _root_.Go.ChangeSpec) : _root_.Go.OpenSpec := { _root_.Go.OpenSpec.ofChange s with cond := some uptoSmall }

/-- 'cameolaw11.HueTells', WHERE WHAT IT READS IS OF BULK AT MOST 1048576: true; the input reads as it did. -/
def hueTellsUptoRow : OpenClaim := { program := "ytmbilaepeekglaa", sum := "d772f6b47e19d99877efaa3f14a438afa6b9c652c3ac551b3fee2f40d3e194da", func := "cameo/cameolaw11.HueTells", spec := "hueTells", unfollowed := true, recurses := true, apart := false, narrowed := true }
def HueTellsUptoSaid : Prop := hueTellsUptoRow.holds Try.pinned (OpenSpec.upto hueTellsSpec)

/-- 'cameolaw11.HueOnce', WHERE WHAT IT READS IS OF BULK AT MOST 1048576: true; the input reads as it did. -/
def hueOnceUptoRow : OpenClaim := { program := "ytmbilaepeekglaa", sum := "d772f6b47e19d99877efaa3f14a438afa6b9c652c3ac551b3fee2f40d3e194da", func := "cameo/cameolaw11.HueOnce", spec := "hueOnce", unfollowed := true, recurses := true, apart := false, narrowed := true }
def HueOnceUptoSaid : Prop := hueOnceUptoRow.holds Try.pinned (OpenSpec.upto hueOnceSpec)

/-- 'cameolaw11.HueRest', WHERE WHAT IT READS IS OF BULK AT MOST 1048576: true; the input reads as it did. -/
def hueRestUptoRow : OpenClaim := { program := "ytmbilaepeekglaa", sum := "d772f6b47e19d99877efaa3f14a438afa6b9c652c3ac551b3fee2f40d3e194da", func := "cameo/cameolaw11.HueRest", spec := "hueRest", unfollowed := true, recurses := true, apart := false, narrowed := true }
def HueRestUptoSaid : Prop := hueRestUptoRow.holds Try.pinned (OpenSpec.upto hueRestSpec)

/-- 'cameolaw11.HueMore', WHERE WHAT IT READS IS OF BULK AT MOST 1048576: true; the input reads as it did. -/
def hueMoreUptoRow : OpenClaim := { program := "ytmbilaepeekglaa", sum := "d772f6b47e19d99877efaa3f14a438afa6b9c652c3ac551b3fee2f40d3e194da", func := "cameo/cameolaw11.HueMore", spec := "hueMore", unfollowed := true, recurses := true, apart := false, narrowed := true }
def HueMoreUptoSaid : Prop := hueMoreUptoRow.holds Try.pinned (OpenSpec.upto hueMoreSpec)

/-- 'cameolaw11.HueLonger', WHERE WHAT IT READS IS OF BULK AT MOST 1048576: true; the input reads as it did. -/
def hueLongerUptoRow : OpenClaim := { program := "ytmbilaepeekglaa", sum := "d772f6b47e19d99877efaa3f14a438afa6b9c652c3ac551b3fee2f40d3e194da", func := "cameo/cameolaw11.HueLonger", spec := "hueLonger", unfollowed := true, recurses := true, apart := false, narrowed := true }
def HueLongerUptoSaid : Prop := hueLongerUptoRow.holds Try.pinned (OpenSpec.upto hueLongerSpec)

/-- 'cameolaw11.HueStays', WHERE WHAT IT READS IS OF BULK AT MOST 1048576: true; the input reads as it did. -/
def hueStaysUptoRow : OpenClaim := { program := "ytmbilaepeekglaa", sum := "d772f6b47e19d99877efaa3f14a438afa6b9c652c3ac551b3fee2f40d3e194da", func := "cameo/cameolaw11.HueStays", spec := "hueStays", unfollowed := true, recurses := true, apart := false, narrowed := true }
def HueStaysUptoSaid : Prop := hueStaysUptoRow.holds Try.pinned (OpenSpec.upto hueStaysSpec)

end Rows
end Go.Proofs.Ytmbilaepeekglaa
