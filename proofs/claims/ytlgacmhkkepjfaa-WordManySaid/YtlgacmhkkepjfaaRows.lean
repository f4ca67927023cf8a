/-
  No cell of these rows narrows 'for every input' (looked for: loops, veiled, ifaces, maps, wideKeys, modest, calm, conditions, laid).
  DERIVED. THE GIVEN ROWS OF THIS SEAT. 8 by the template 'for every input the law returns true; each argument reads behind the call as it read before'; 0 by the template 'total and deterministic' (their statements: YtlgacmhkkepjfaaTotals.lean).
  GIVEN WITH THE SEED: the statements are not yours to turn. If you find one false, say at which input.
  Laid BY PROGRAM, IN A SANDBOX (cutbox-rows.mjs): the forced cells as the released guide's own fill.sh prints them over the translation 54b1630c77f6ca74… (all of the seat's roots in one cut). By AI agents, Wed Nov 11 2026. No macro, syntax, notation, axiom, sorry.
-/
import Derived.Test.YtlgacmhkkepjfaaChecked
import GoSem.Claim
import GoSem.ClaimJoined
import GoSem.ClaimMapViews
import Derived.JoinedTies
import Derived.KernelRfl
namespace Go.Proofs.Ytlgacmhkkepjfaa
/- THE CELL 'sum', in the pinned program and in every row, IS THE sha256 OF THE DUMP (.gsa) THAT YtlgacmhkkepjfaaProg.lean LOADS. Nothing in Lean hashes anything: it is a label: what it is worth is what the hold of that sum in a sandbox is worth. -/
noncomputable def Try.pinned : Pinned := { name := "ytlgacmhkkepjfaa", sum := "54b1630c77f6ca74a72336439787a7a5010c35f8a8c57e4c39d35e72cd315330", checked := Try.checked }
namespace Rows
def none {H : Type} : Left H := { results := [], args := [] }

/-- 'cameolaw01.WordBack': WHATEVER THE INPUT: true; the input reads as it did. -/
def wordBackSpec : ChangeSpec := { name := "wordBack", fn := fun _ => fun
  | [d1, d2, d3] => { results := [.lit (.bool true)], args := [d1, d2, d3] }
  | _ => none }
def wordBackRow : OpenClaim := { program := "ytlgacmhkkepjfaa", sum := "54b1630c77f6ca74a72336439787a7a5010c35f8a8c57e4c39d35e72cd315330", func := "cameo/cameolaw01.WordBack", spec := "wordBack", unfollowed := true, recurses := true, apart := false }
def WordBackSaid : Prop := wordBackRow.holds Try.pinned (OpenSpec.ofChange wordBackSpec)

/-- ITS FALSE NEIGHBOUR: 'it returns false'. Refute it at one input. -/
def wordBackWrong : ChangeSpec := { name := "wordBack", fn := fun _ => fun
  | [d1, d2, d3] => { results := [.lit (.bool false)], args := [d1, d2, d3] }
  | _ => none }
def WordBackWrongFalsely : Prop := wordBackRow.holds Try.pinned (OpenSpec.ofChange wordBackWrong)

/-- 'cameolaw01.WordTexts': WHATEVER THE INPUT: true; the input reads as it did. -/
def wordTextsSpec : ChangeSpec := { name := "wordTexts", fn := fun _ => fun
  | [d1, d2, d3] => { results := [.lit (.bool true)], args := [d1, d2, d3] }
  | _ => none }
def wordTextsRow : OpenClaim := { program := "ytlgacmhkkepjfaa", sum := "54b1630c77f6ca74a72336439787a7a5010c35f8a8c57e4c39d35e72cd315330", func := "cameo/cameolaw01.WordTexts", spec := "wordTexts", unfollowed := true, recurses := true, apart := false }
def WordTextsSaid : Prop := wordTextsRow.holds Try.pinned (OpenSpec.ofChange wordTextsSpec)

/-- ITS FALSE NEIGHBOUR: 'it returns false'. Refute it at one input. -/
def wordTextsWrong : ChangeSpec := { name := "wordTexts", fn := fun _ => fun
  | [d1, d2, d3] => { results := [.lit (.bool false)], args := [d1, d2, d3] }
  | _ => none }
def WordTextsWrongFalsely : Prop := wordTextsRow.holds Try.pinned (OpenSpec.ofChange wordTextsWrong)

/-- 'cameolaw01.WordApart': WHATEVER THE INPUT: true; the input reads as it did. -/
def wordApartSpec : ChangeSpec := { name := "wordApart", fn := fun _ => fun
  | [d1, d2] => { results := [.lit (.bool true)], args := [d1, d2] }
  | _ => none }
def wordApartRow : OpenClaim := { program := "ytlgacmhkkepjfaa", sum := "54b1630c77f6ca74a72336439787a7a5010c35f8a8c57e4c39d35e72cd315330", func := "cameo/cameolaw01.WordApart", spec := "wordApart", unfollowed := true, recurses := true, apart := false }
def WordApartSaid : Prop := wordApartRow.holds Try.pinned (OpenSpec.ofChange wordApartSpec)

/-- ITS FALSE NEIGHBOUR: 'it returns false'. Refute it at one input. -/
def wordApartWrong : ChangeSpec := { name := "wordApart", fn := fun _ => fun
  | [d1, d2] => { results := [.lit (.bool false)], args := [d1, d2] }
  | _ => none }
def WordApartWrongFalsely : Prop := wordApartRow.holds Try.pinned (OpenSpec.ofChange wordApartWrong)

/-- 'cameolaw01.WordSize': WHATEVER THE INPUT: true; the input reads as it did. -/
def wordSizeSpec : ChangeSpec := { name := "wordSize", fn := fun _ => fun
  | [d1, d2] => { results := [.lit (.bool true)], args := [d1, d2] }
  | _ => none }
def wordSizeRow : OpenClaim := { program := "ytlgacmhkkepjfaa", sum := "54b1630c77f6ca74a72336439787a7a5010c35f8a8c57e4c39d35e72cd315330", func := "cameo/cameolaw01.WordSize", spec := "wordSize", unfollowed := true, recurses := true, apart := false }
def WordSizeSaid : Prop := wordSizeRow.holds Try.pinned (OpenSpec.ofChange wordSizeSpec)

/-- ITS FALSE NEIGHBOUR: 'it returns false'. Refute it at one input. -/
def wordSizeWrong : ChangeSpec := { name := "wordSize", fn := fun _ => fun
  | [d1, d2] => { results := [.lit (.bool false)], args := [d1, d2] }
  | _ => none }
def WordSizeWrongFalsely : Prop := wordSizeRow.holds Try.pinned (OpenSpec.ofChange wordSizeWrong)

/-- 'cameolaw01.WordFrom': WHATEVER THE INPUT: true; the input reads as it did. -/
def wordFromSpec : ChangeSpec := { name := "wordFrom", fn := fun _ => fun
  | [d1, d2, d3] => { results := [.lit (.bool true)], args := [d1, d2, d3] }
  | _ => none }
def wordFromRow : OpenClaim := { program := "ytlgacmhkkepjfaa", sum := "54b1630c77f6ca74a72336439787a7a5010c35f8a8c57e4c39d35e72cd315330", func := "cameo/cameolaw01.WordFrom", spec := "wordFrom", unfollowed := true, recurses := true, apart := false }
def WordFromSaid : Prop := wordFromRow.holds Try.pinned (OpenSpec.ofChange wordFromSpec)

/-- ITS FALSE NEIGHBOUR: 'it returns false'. Refute it at one input. -/
def wordFromWrong : ChangeSpec := { name := "wordFrom", fn := fun _ => fun
  | [d1, d2, d3] => { results := [.lit (.bool false)], args := [d1, d2, d3] }
  | _ => none }
def WordFromWrongFalsely : Prop := wordFromRow.holds Try.pinned (OpenSpec.ofChange wordFromWrong)

/-- 'cameolaw01.WordTells': WHATEVER THE INPUT: true; the input reads as it did. -/
def wordTellsSpec : ChangeSpec := { name := "wordTells", fn := fun _ => fun
  | [d1, d2, d3] => { results := [.lit (.bool true)], args := [d1, d2, d3] }
  | _ => none }
def wordTellsRow : OpenClaim := { program := "ytlgacmhkkepjfaa", sum := "54b1630c77f6ca74a72336439787a7a5010c35f8a8c57e4c39d35e72cd315330", func := "cameo/cameolaw01.WordTells", spec := "wordTells", unfollowed := true, recurses := true, apart := false }
def WordTellsSaid : Prop := wordTellsRow.holds Try.pinned (OpenSpec.ofChange wordTellsSpec)

/-- ITS FALSE NEIGHBOUR: 'it returns false'. Refute it at one input. -/
def wordTellsWrong : ChangeSpec := { name := "wordTells", fn := fun _ => fun
  | [d1, d2, d3] => { results := [.lit (.bool false)], args := [d1, d2, d3] }
  | _ => none }
def WordTellsWrongFalsely : Prop := wordTellsRow.holds Try.pinned (OpenSpec.ofChange wordTellsWrong)

/-- 'cameolaw01.WordOnce': WHATEVER THE INPUT: true; the input reads as it did. -/
def wordOnceSpec : ChangeSpec := { name := "wordOnce", fn := fun _ => fun
  | [d1, d2] => { results := [.lit (.bool true)], args := [d1, d2] }
  | _ => none }
def wordOnceRow : OpenClaim := { program := "ytlgacmhkkepjfaa", sum := "54b1630c77f6ca74a72336439787a7a5010c35f8a8c57e4c39d35e72cd315330", func := "cameo/cameolaw01.WordOnce", spec := "wordOnce", unfollowed := true, recurses := true, apart := false }
def WordOnceSaid : Prop := wordOnceRow.holds Try.pinned (OpenSpec.ofChange wordOnceSpec)

/-- ITS FALSE NEIGHBOUR: 'it returns false'. Refute it at one input. -/
def wordOnceWrong : ChangeSpec := { name := "wordOnce", fn := fun _ => fun
  | [d1, d2] => { results := [.lit (.bool false)], args := [d1, d2] }
  | _ => none }
def WordOnceWrongFalsely : Prop := wordOnceRow.holds Try.pinned (OpenSpec.ofChange wordOnceWrong)

/-- 'cameolaw01.WordMany': WHATEVER THE INPUT: true; the input reads as it did. -/
def wordManySpec : ChangeSpec := { name := "wordMany", fn := fun _ => fun
  | [d1, d2] => { results := [.lit (.bool true)], args := [d1, d2] }
  | _ => none }
def wordManyRow : OpenClaim := { program := "ytlgacmhkkepjfaa", sum := "54b1630c77f6ca74a72336439787a7a5010c35f8a8c57e4c39d35e72cd315330", func := "cameo/cameolaw01.WordMany", spec := "wordMany", unfollowed := true, recurses := true, apart := false }
def WordManySaid : Prop := wordManyRow.holds Try.pinned (OpenSpec.ofChange wordManySpec)

/-- ITS FALSE NEIGHBOUR: 'it returns false'. Refute it at one input. -/
def wordManyWrong : ChangeSpec := { name := "wordMany", fn := fun _ => fun
  | [d1, d2] => { results := [.lit (.bool false)], args := [d1, d2] }
  | _ => none }
def WordManyWrongFalsely : Prop := wordManyRow.holds Try.pinned (OpenSpec.ofChange wordManyWrong)

/- THE SECOND FORM. 'bulk': how many values and letters a reading holds, each counted each time it is reached (what is shared counts as often as it is met; a slice's spare places count too). A statement '..UptoSaid' is the law's where the arguments, and the package variables that the reading takes, are together of bulk at most 1048576: NARROWER than '..Said'. Prove '..Said' where nothing that the law and all that it calls make is longer than what came in: it says more and counts as full. Else prove '..UptoSaid'. A law counts once. -/
mutual
def uptoBulk {H : Type} : DataW H → Nat
  | .lit (.string bytes) => bytes.length + 1
  | .lit _ => 1
  | .nil => 1
  | .ptr d => uptoBulk d + 1
  | .slice elems spare => uptoBulkAll elems + uptoBulkAll spare + 1
  | .agg parts => uptoBulkAll parts + 1
  | .iface _ d => uptoBulk d + 1
  | .map entries => uptoBulkEntries entries + 1
  | .held _ => 1
def uptoBulkAll {H : Type} : List (DataW H) → Nat
  | [] => 0
  | d :: r => uptoBulk d + uptoBulkAll r
def uptoBulkEntries {H : Type} : List (Lit × DataW H) → Nat
  | [] => 0
  | x :: r => uptoBulkEntry x + uptoBulkEntries r
def uptoBulkEntry {H : Type} : Lit × DataW H → Nat
  | (.string bytes, d) => bytes.length + uptoBulk d + 1
  | (_, d) => uptoBulk d + 1
 end
def uptoSmall : (H : Type) → List (DataW H) → Bool := fun _ ds => decide (uptoBulkAll ds ≤ 1048576)
def OpenSpec.upto (s : _root_.Go.ChangeSpec) : _root_.Go.OpenSpec := { _root_.Go.OpenSpec.ofChange s with cond := some uptoSmall }

/-- 'cameolaw01.WordBack', WHERE WHAT IT READS IS OF BULK AT MOST 1048576: true; the input reads as it did. -/
def wordBackUptoRow : OpenClaim := { program := "ytlgacmhkkepjfaa", sum := "54b1630c77f6ca74a72336439787a7a5010c35f8a8c57e4c39d35e72cd315330", func := "cameo/cameolaw01.WordBack", spec := "wordBack", unfollowed := true, recurses := true, apart := false, narrowed := true }
def WordBackUptoSaid : Prop := wordBackUptoRow.holds Try.pinned (OpenSpec.upto wordBackSpec)

/-- 'cameolaw01.WordTexts', WHERE WHAT IT READS IS OF BULK AT MOST 1048576: true; the input reads as it did. -/
def wordTextsUptoRow : OpenClaim := { program := "ytlgacmhkkepjfaa", sum := "54b1630c77f6ca74a72336439787a7a5010c35f8a8c57e4c39d35e72cd315330", func := "cameo/cameolaw01.WordTexts", spec := "wordTexts", unfollowed := true, recurses := true, apart := false, narrowed := true }
def WordTextsUptoSaid : Prop := wordTextsUptoRow.holds Try.pinned (OpenSpec.upto wordTextsSpec)

/-- 'cameolaw01.WordApart', WHERE WHAT IT READS IS OF BULK AT MOST 1048576: true; the input reads as it did. -/
def wordApartUptoRow : OpenClaim := { program := "ytlgacmhkkepjfaa", sum := "54b1630c77f6ca74a72336439787a7a5010c35f8a8c57e4c39d35e72cd315330", func := "cameo/cameolaw01.WordApart", spec := "wordApart", unfollowed := true, recurses := true, apart := false, narrowed := true }
def WordApartUptoSaid : Prop := wordApartUptoRow.holds Try.pinned (OpenSpec.upto wordApartSpec)

/-- 'cameolaw01.WordSize', WHERE WHAT IT READS IS OF BULK AT MOST 1048576: true; the input reads as it did. -/
def wordSizeUptoRow : OpenClaim := { program := "ytlgacmhkkepjfaa", sum := "54b1630c77f6ca74a72336439787a7a5010c35f8a8c57e4c39d35e72cd315330", func := "cameo/cameolaw01.WordSize", spec := "wordSize", unfollowed := true, recurses := true, apart := false, narrowed := true }
def WordSizeUptoSaid : Prop := wordSizeUptoRow.holds Try.pinned (OpenSpec.upto wordSizeSpec)

/-- 'cameolaw01.WordFrom', WHERE WHAT IT READS IS OF BULK AT MOST 1048576: true; the input reads as it did. -/
def wordFromUptoRow : OpenClaim := { program := "ytlgacmhkkepjfaa", sum := "54b1630c77f6ca74a72336439787a7a5010c35f8a8c57e4c39d35e72cd315330", func := "cameo/cameolaw01.WordFrom", spec := "wordFrom", unfollowed := true, recurses := true, apart := false, narrowed := true }
def WordFromUptoSaid : Prop := wordFromUptoRow.holds Try.pinned (OpenSpec.upto wordFromSpec)

/-- 'cameolaw01.WordTells', WHERE WHAT IT READS IS OF BULK AT MOST 1048576: true; the input reads as it did. -/
def wordTellsUptoRow : OpenClaim := { program := "ytlgacmhkkepjfaa", sum := "54b1630c77f6ca74a72336439787a7a5010c35f8a8c57e4c39d35e72cd315330", func := "cameo/cameolaw01.WordTells", spec := "wordTells", unfollowed := true, recurses := true, apart := false, narrowed := true }
def WordTellsUptoSaid : Prop := wordTellsUptoRow.holds Try.pinned (OpenSpec.upto wordTellsSpec)

/-- 'cameolaw01.WordOnce', WHERE WHAT IT READS IS OF BULK AT MOST 1048576: true; the input reads as it did. -/
def wordOnceUptoRow : OpenClaim := { program := "ytlgacmhkkepjfaa", sum := "54b1630c77f6ca74a72336439787a7a5010c35f8a8c57e4c39d35e72cd315330", func := "cameo/cameolaw01.WordOnce", spec := "wordOnce", unfollowed := true, recurses := true, apart := false, narrowed := true }
def WordOnceUptoSaid : Prop := wordOnceUptoRow.holds Try.pinned (OpenSpec.upto wordOnceSpec)

/-- 'cameolaw01.WordMany', WHERE WHAT IT READS IS OF BULK AT MOST 1048576: true; the input reads as it did. -/
def wordManyUptoRow : OpenClaim := { program := "ytlgacmhkkepjfaa", sum := "54b1630c77f6ca74a72336439787a7a5010c35f8a8c57e4c39d35e72cd315330", func := "cameo/cameolaw01.WordMany", spec := "wordMany", unfollowed := true, recurses := true, apart := false, narrowed := true }
def WordManyUptoSaid : Prop := wordManyUptoRow.holds Try.pinned (OpenSpec.upto wordManySpec)

end Rows
end Go.Proofs.Ytlgacmhkkepjfaa
