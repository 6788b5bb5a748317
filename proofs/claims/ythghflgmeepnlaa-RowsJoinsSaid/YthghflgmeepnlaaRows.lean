/-
  No cell of these rows narrows 'for every input' (looked for: loops, veiled, ifaces, maps, wideKeys, modest, calm, conditions, laid).
  DERIVED. THE GIVEN ROWS OF THIS SEAT. 16 by the template 'for every input the law returns true; each argument reads behind the call as it read before'; 0 by the template 'total and deterministic' (their statements: YthghflgmeepnlaaTotals.lean).
  GIVEN WITH THE SEED: the statements are not yours to turn. If you find one false, say at which input.
  Laid BY PROGRAM, IN A SANDBOX (cutbox-rows.mjs): the forced cells as the released guide's own fill.sh prints them over the translation 3f08e40de4feb614… (all of the seat's roots in one cut). By AI agents, Wed Nov 11 2026. No macro, syntax, notation, axiom, sorry.
-/
import Derived.Test.YthghflgmeepnlaaChecked
import GoSem.Claim
import GoSem.ClaimJoined
import GoSem.ClaimMapViews
import Derived.JoinedTies
import Derived.KernelRfl
namespace Go.Proofs.Ythghflgmeepnlaa
/- THE CELL 'sum', in the pinned program and in every row, IS THE sha256 OF THE DUMP (.gsa) THAT YthghflgmeepnlaaProg.lean LOADS. Nothing in Lean hashes anything: it is a label: what it is worth is what the hold of that sum in a sandbox is worth. -/
noncomputable def Try.pinned : Pinned := { name := "ythghflgmeepnlaa", sum := "3f08e40de4feb61495d42507092a8d46a2697059802868cc22f2321ddc773112", checked := Try.checked }
namespace Rows
def none {H : Type} : Left H := { results := [], args := [] }

/-- 'cordonlaw02.CodeEncodes': WHATEVER THE INPUT: true; the input reads as it did. -/
def codeEncodesSpec : ChangeSpec := { name := "codeEncodes", fn := fun _ => fun
  | [d1, d2] => { results := [.lit (.bool true)], args := [d1, d2] }
  | _ => none }
def codeEncodesRow : OpenClaim := { program := "ythghflgmeepnlaa", sum := "3f08e40de4feb61495d42507092a8d46a2697059802868cc22f2321ddc773112", func := "cordon/cordonlaw02.CodeEncodes", spec := "codeEncodes", apart := false }
def CodeEncodesSaid : Prop := codeEncodesRow.holds Try.pinned (OpenSpec.ofChange codeEncodesSpec)

/-- ITS FALSE NEIGHBOUR: 'it returns false'. Refute it at one input. -/
def codeEncodesWrong : ChangeSpec := { name := "codeEncodes", fn := fun _ => fun
  | [d1, d2] => { results := [.lit (.bool false)], args := [d1, d2] }
  | _ => none }
def CodeEncodesWrongFalsely : Prop := codeEncodesRow.holds Try.pinned (OpenSpec.ofChange codeEncodesWrong)

/-- 'cordonlaw01.ValueLaws': WHATEVER THE INPUT: true; the input reads as it did. -/
def valueLawsSpec : ChangeSpec := { name := "valueLaws", fn := fun _ => fun
  | [d1, d2, d3] => { results := [.lit (.bool true)], args := [d1, d2, d3] }
  | _ => none }
def valueLawsRow : OpenClaim := { program := "ythghflgmeepnlaa", sum := "3f08e40de4feb61495d42507092a8d46a2697059802868cc22f2321ddc773112", func := "cordon/cordonlaw01.ValueLaws", spec := "valueLaws", unfollowed := true, recurses := true, apart := false }
def ValueLawsSaid : Prop := valueLawsRow.holds Try.pinned (OpenSpec.ofChange valueLawsSpec)

/-- ITS FALSE NEIGHBOUR: 'it returns false'. Refute it at one input. -/
def valueLawsWrong : ChangeSpec := { name := "valueLaws", fn := fun _ => fun
  | [d1, d2, d3] => { results := [.lit (.bool false)], args := [d1, d2, d3] }
  | _ => none }
def ValueLawsWrongFalsely : Prop := valueLawsRow.holds Try.pinned (OpenSpec.ofChange valueLawsWrong)

/-- 'cordonlaw01.ValueMakes': WHATEVER THE INPUT: true; the input reads as it did. -/
def valueMakesSpec : ChangeSpec := { name := "valueMakes", fn := fun _ => fun
  | [d1, d2, d3, d4] => { results := [.lit (.bool true)], args := [d1, d2, d3, d4] }
  | _ => none }
def valueMakesRow : OpenClaim := { program := "ythghflgmeepnlaa", sum := "3f08e40de4feb61495d42507092a8d46a2697059802868cc22f2321ddc773112", func := "cordon/cordonlaw01.ValueMakes", spec := "valueMakes", unfollowed := true, recurses := true, apart := false }
def ValueMakesSaid : Prop := valueMakesRow.holds Try.pinned (OpenSpec.ofChange valueMakesSpec)

/-- ITS FALSE NEIGHBOUR: 'it returns false'. Refute it at one input. -/
def valueMakesWrong : ChangeSpec := { name := "valueMakes", fn := fun _ => fun
  | [d1, d2, d3, d4] => { results := [.lit (.bool false)], args := [d1, d2, d3, d4] }
  | _ => none }
def ValueMakesWrongFalsely : Prop := valueMakesRow.holds Try.pinned (OpenSpec.ofChange valueMakesWrong)

/-- 'cordonlaw01.ValueMul': WHATEVER THE INPUT: true; the input reads as it did. -/
def valueMulSpec : ChangeSpec := { name := "valueMul", fn := fun _ => fun
  | [d1, d2] => { results := [.lit (.bool true)], args := [d1, d2] }
  | _ => none }
def valueMulRow : OpenClaim := { program := "ythghflgmeepnlaa", sum := "3f08e40de4feb61495d42507092a8d46a2697059802868cc22f2321ddc773112", func := "cordon/cordonlaw01.ValueMul", spec := "valueMul", unfollowed := true, recurses := true, apart := false }
def ValueMulSaid : Prop := valueMulRow.holds Try.pinned (OpenSpec.ofChange valueMulSpec)

/-- ITS FALSE NEIGHBOUR: 'it returns false'. Refute it at one input. -/
def valueMulWrong : ChangeSpec := { name := "valueMul", fn := fun _ => fun
  | [d1, d2] => { results := [.lit (.bool false)], args := [d1, d2] }
  | _ => none }
def ValueMulWrongFalsely : Prop := valueMulRow.holds Try.pinned (OpenSpec.ofChange valueMulWrong)

/-- 'cordonlaw01.ValueBack': WHATEVER THE INPUT: true; the input reads as it did. -/
def valueBackSpec : ChangeSpec := { name := "valueBack", fn := fun _ => fun
  | [d1, d2] => { results := [.lit (.bool true)], args := [d1, d2] }
  | _ => none }
def valueBackRow : OpenClaim := { program := "ythghflgmeepnlaa", sum := "3f08e40de4feb61495d42507092a8d46a2697059802868cc22f2321ddc773112", func := "cordon/cordonlaw01.ValueBack", spec := "valueBack", unfollowed := true, recurses := true, apart := false }
def ValueBackSaid : Prop := valueBackRow.holds Try.pinned (OpenSpec.ofChange valueBackSpec)

/-- ITS FALSE NEIGHBOUR: 'it returns false'. Refute it at one input. -/
def valueBackWrong : ChangeSpec := { name := "valueBack", fn := fun _ => fun
  | [d1, d2] => { results := [.lit (.bool false)], args := [d1, d2] }
  | _ => none }
def ValueBackWrongFalsely : Prop := valueBackRow.holds Try.pinned (OpenSpec.ofChange valueBackWrong)

/-- 'cordonlaw02.CodeOrder': WHATEVER THE INPUT: true; the input reads as it did. -/
def codeOrderSpec : ChangeSpec := { name := "codeOrder", fn := fun _ => fun
  | [d1, d2] => { results := [.lit (.bool true)], args := [d1, d2] }
  | _ => none }
def codeOrderRow : OpenClaim := { program := "ythghflgmeepnlaa", sum := "3f08e40de4feb61495d42507092a8d46a2697059802868cc22f2321ddc773112", func := "cordon/cordonlaw02.CodeOrder", spec := "codeOrder", unfollowed := true, recurses := true, apart := false }
def CodeOrderSaid : Prop := codeOrderRow.holds Try.pinned (OpenSpec.ofChange codeOrderSpec)

/-- ITS FALSE NEIGHBOUR: 'it returns false'. Refute it at one input. -/
def codeOrderWrong : ChangeSpec := { name := "codeOrder", fn := fun _ => fun
  | [d1, d2] => { results := [.lit (.bool false)], args := [d1, d2] }
  | _ => none }
def CodeOrderWrongFalsely : Prop := codeOrderRow.holds Try.pinned (OpenSpec.ofChange codeOrderWrong)

/-- 'cordonlaw01.ValueOrder': WHATEVER THE INPUT: true; the input reads as it did. -/
def valueOrderSpec : ChangeSpec := { name := "valueOrder", fn := fun _ => fun
  | [d1, d2, d3] => { results := [.lit (.bool true)], args := [d1, d2, d3] }
  | _ => none }
def valueOrderRow : OpenClaim := { program := "ythghflgmeepnlaa", sum := "3f08e40de4feb61495d42507092a8d46a2697059802868cc22f2321ddc773112", func := "cordon/cordonlaw01.ValueOrder", spec := "valueOrder", unfollowed := true, recurses := true, apart := false }
def ValueOrderSaid : Prop := valueOrderRow.holds Try.pinned (OpenSpec.ofChange valueOrderSpec)

/-- ITS FALSE NEIGHBOUR: 'it returns false'. Refute it at one input. -/
def valueOrderWrong : ChangeSpec := { name := "valueOrder", fn := fun _ => fun
  | [d1, d2, d3] => { results := [.lit (.bool false)], args := [d1, d2, d3] }
  | _ => none }
def ValueOrderWrongFalsely : Prop := valueOrderRow.holds Try.pinned (OpenSpec.ofChange valueOrderWrong)

/-- 'cordonlaw02.CodeDecodes': WHATEVER THE INPUT: true; the input reads as it did. -/
def codeDecodesSpec : ChangeSpec := { name := "codeDecodes", fn := fun _ => fun
  | [d] => { results := [.lit (.bool true)], args := [d] }
  | _ => none }
def codeDecodesRow : OpenClaim := { program := "ythghflgmeepnlaa", sum := "3f08e40de4feb61495d42507092a8d46a2697059802868cc22f2321ddc773112", func := "cordon/cordonlaw02.CodeDecodes", spec := "codeDecodes", apart := false }
def CodeDecodesSaid : Prop := codeDecodesRow.holds Try.pinned (OpenSpec.ofChange codeDecodesSpec)

/-- ITS FALSE NEIGHBOUR: 'it returns false'. Refute it at one input. -/
def codeDecodesWrong : ChangeSpec := { name := "codeDecodes", fn := fun _ => fun
  | [d] => { results := [.lit (.bool false)], args := [d] }
  | _ => none }
def CodeDecodesWrongFalsely : Prop := codeDecodesRow.holds Try.pinned (OpenSpec.ofChange codeDecodesWrong)

/-- 'cordonlaw02.CodeBack': WHATEVER THE INPUT: true; the input reads as it did. -/
def codeBackSpec : ChangeSpec := { name := "codeBack", fn := fun _ => fun
  | [d] => { results := [.lit (.bool true)], args := [d] }
  | _ => none }
def codeBackRow : OpenClaim := { program := "ythghflgmeepnlaa", sum := "3f08e40de4feb61495d42507092a8d46a2697059802868cc22f2321ddc773112", func := "cordon/cordonlaw02.CodeBack", spec := "codeBack", apart := false }
def CodeBackSaid : Prop := codeBackRow.holds Try.pinned (OpenSpec.ofChange codeBackSpec)

/-- ITS FALSE NEIGHBOUR: 'it returns false'. Refute it at one input. -/
def codeBackWrong : ChangeSpec := { name := "codeBack", fn := fun _ => fun
  | [d] => { results := [.lit (.bool false)], args := [d] }
  | _ => none }
def CodeBackWrongFalsely : Prop := codeBackRow.holds Try.pinned (OpenSpec.ofChange codeBackWrong)

/-- 'cordonlaw02.CodeJoins': WHATEVER THE INPUT: true; the input reads as it did. -/
def codeJoinsSpec : ChangeSpec := { name := "codeJoins", fn := fun _ => fun
  | [d1, d2] => { results := [.lit (.bool true)], args := [d1, d2] }
  | _ => none }
def codeJoinsRow : OpenClaim := { program := "ythghflgmeepnlaa", sum := "3f08e40de4feb61495d42507092a8d46a2697059802868cc22f2321ddc773112", func := "cordon/cordonlaw02.CodeJoins", spec := "codeJoins", apart := false }
def CodeJoinsSaid : Prop := codeJoinsRow.holds Try.pinned (OpenSpec.ofChange codeJoinsSpec)

/-- ITS FALSE NEIGHBOUR: 'it returns false'. Refute it at one input. -/
def codeJoinsWrong : ChangeSpec := { name := "codeJoins", fn := fun _ => fun
  | [d1, d2] => { results := [.lit (.bool false)], args := [d1, d2] }
  | _ => none }
def CodeJoinsWrongFalsely : Prop := codeJoinsRow.holds Try.pinned (OpenSpec.ofChange codeJoinsWrong)

/-- 'cordonlaw11.RowsSorts': WHATEVER THE INPUT: true; the input reads as it did. -/
def rowsSortsSpec : ChangeSpec := { name := "rowsSorts", fn := fun _ => fun
  | [d1, d2, d3] => { results := [.lit (.bool true)], args := [d1, d2, d3] }
  | _ => none }
def rowsSortsRow : OpenClaim := { program := "ythghflgmeepnlaa", sum := "3f08e40de4feb61495d42507092a8d46a2697059802868cc22f2321ddc773112", func := "cordon/cordonlaw11.RowsSorts", spec := "rowsSorts", unfollowed := true, recurses := true, apart := false }
def RowsSortsSaid : Prop := rowsSortsRow.holds Try.pinned (OpenSpec.ofChange rowsSortsSpec)

/-- ITS FALSE NEIGHBOUR: 'it returns false'. Refute it at one input. -/
def rowsSortsWrong : ChangeSpec := { name := "rowsSorts", fn := fun _ => fun
  | [d1, d2, d3] => { results := [.lit (.bool false)], args := [d1, d2, d3] }
  | _ => none }
def RowsSortsWrongFalsely : Prop := rowsSortsRow.holds Try.pinned (OpenSpec.ofChange rowsSortsWrong)

/-- 'cordonlaw11.RowsOrder': WHATEVER THE INPUT: true; the input reads as it did. -/
def rowsOrderSpec : ChangeSpec := { name := "rowsOrder", fn := fun _ => fun
  | [d] => { results := [.lit (.bool true)], args := [d] }
  | _ => none }
def rowsOrderRow : OpenClaim := { program := "ythghflgmeepnlaa", sum := "3f08e40de4feb61495d42507092a8d46a2697059802868cc22f2321ddc773112", func := "cordon/cordonlaw11.RowsOrder", spec := "rowsOrder", unfollowed := true, recurses := true, apart := false }
def RowsOrderSaid : Prop := rowsOrderRow.holds Try.pinned (OpenSpec.ofChange rowsOrderSpec)

/-- ITS FALSE NEIGHBOUR: 'it returns false'. Refute it at one input. -/
def rowsOrderWrong : ChangeSpec := { name := "rowsOrder", fn := fun _ => fun
  | [d] => { results := [.lit (.bool false)], args := [d] }
  | _ => none }
def RowsOrderWrongFalsely : Prop := rowsOrderRow.holds Try.pinned (OpenSpec.ofChange rowsOrderWrong)

/-- 'cordonlaw11.RowsGroups': WHATEVER THE INPUT: true; the input reads as it did. -/
def rowsGroupsSpec : ChangeSpec := { name := "rowsGroups", fn := fun _ => fun
  | [d] => { results := [.lit (.bool true)], args := [d] }
  | _ => none }
def rowsGroupsRow : OpenClaim := { program := "ythghflgmeepnlaa", sum := "3f08e40de4feb61495d42507092a8d46a2697059802868cc22f2321ddc773112", func := "cordon/cordonlaw11.RowsGroups", spec := "rowsGroups", unfollowed := true, recurses := true, apart := false }
def RowsGroupsSaid : Prop := rowsGroupsRow.holds Try.pinned (OpenSpec.ofChange rowsGroupsSpec)

/-- ITS FALSE NEIGHBOUR: 'it returns false'. Refute it at one input. -/
def rowsGroupsWrong : ChangeSpec := { name := "rowsGroups", fn := fun _ => fun
  | [d] => { results := [.lit (.bool false)], args := [d] }
  | _ => none }
def RowsGroupsWrongFalsely : Prop := rowsGroupsRow.holds Try.pinned (OpenSpec.ofChange rowsGroupsWrong)

/-- 'cordonlaw11.RowsSets': WHATEVER THE INPUT: true; the input reads as it did. -/
def rowsSetsSpec : ChangeSpec := { name := "rowsSets", fn := fun _ => fun
  | [d1, d2] => { results := [.lit (.bool true)], args := [d1, d2] }
  | _ => none }
def rowsSetsRow : OpenClaim := { program := "ythghflgmeepnlaa", sum := "3f08e40de4feb61495d42507092a8d46a2697059802868cc22f2321ddc773112", func := "cordon/cordonlaw11.RowsSets", spec := "rowsSets", unfollowed := true, recurses := true, apart := false }
def RowsSetsSaid : Prop := rowsSetsRow.holds Try.pinned (OpenSpec.ofChange rowsSetsSpec)

/-- ITS FALSE NEIGHBOUR: 'it returns false'. Refute it at one input. -/
def rowsSetsWrong : ChangeSpec := { name := "rowsSets", fn := fun _ => fun
  | [d1, d2] => { results := [.lit (.bool false)], args := [d1, d2] }
  | _ => none }
def RowsSetsWrongFalsely : Prop := rowsSetsRow.holds Try.pinned (OpenSpec.ofChange rowsSetsWrong)

/-- 'cordonlaw11.RowsJoins': WHATEVER THE INPUT: true; the input reads as it did. -/
def rowsJoinsSpec : ChangeSpec := { name := "rowsJoins", fn := fun _ => fun
  | [d1, d2, d3, d4] => { results := [.lit (.bool true)], args := [d1, d2, d3, d4] }
  | _ => none }
def rowsJoinsRow : OpenClaim := { program := "ythghflgmeepnlaa", sum := "3f08e40de4feb61495d42507092a8d46a2697059802868cc22f2321ddc773112", func := "cordon/cordonlaw11.RowsJoins", spec := "rowsJoins", unfollowed := true, recurses := true, apart := false }
def RowsJoinsSaid : Prop := rowsJoinsRow.holds Try.pinned (OpenSpec.ofChange rowsJoinsSpec)

/-- ITS FALSE NEIGHBOUR: 'it returns false'. Refute it at one input. -/
def rowsJoinsWrong : ChangeSpec := { name := "rowsJoins", fn := fun _ => fun
  | [d1, d2, d3, d4] => { results := [.lit (.bool false)], args := [d1, d2, d3, d4] }
  | _ => none }
def RowsJoinsWrongFalsely : Prop := rowsJoinsRow.holds Try.pinned (OpenSpec.ofChange rowsJoinsWrong)

/-- 'cordonlaw11.RowsParts': WHATEVER THE INPUT: true; the input reads as it did. -/
def rowsPartsSpec : ChangeSpec := { name := "rowsParts", fn := fun _ => fun
  | [d1, d2] => { results := [.lit (.bool true)], args := [d1, d2] }
  | _ => none }
def rowsPartsRow : OpenClaim := { program := "ythghflgmeepnlaa", sum := "3f08e40de4feb61495d42507092a8d46a2697059802868cc22f2321ddc773112", func := "cordon/cordonlaw11.RowsParts", spec := "rowsParts", unfollowed := true, recurses := true, apart := false }
def RowsPartsSaid : Prop := rowsPartsRow.holds Try.pinned (OpenSpec.ofChange rowsPartsSpec)

/-- ITS FALSE NEIGHBOUR: 'it returns false'. Refute it at one input. -/
def rowsPartsWrong : ChangeSpec := { name := "rowsParts", fn := fun _ => fun
  | [d1, d2] => { results := [.lit (.bool false)], args := [d1, d2] }
  | _ => none }
def RowsPartsWrongFalsely : Prop := rowsPartsRow.holds Try.pinned (OpenSpec.ofChange rowsPartsWrong)

/- THE SECOND FORM. 'bulk': how many values and letters a reading holds, each counted each time it is reached (what is shared counts as often as it is met; a slice's spare places count too). A statement '..UptoSaid' is the law's where the arguments, and the package variables that the reading takes, are together of bulk at most 1048576: NARROWER than '..Said'. Prove '..Said' where nothing that the law and all that it calls make is longer than what came in: it says more and counts as full. Else prove '..UptoSaid'. A law counts once. -/
mutual
def uptoBulk {H : Type} : DataW H → Nat
  | .lit (.string bytes) => bytes.length + 1
  | .lit _ => 1
  | .nil => 1
  | .ptr d => uptoBulk d + 1
  | .slice elems spare => uptoBulkAll elems + uptoBulkAll spare + 1
  | .agg parts => uptoBulkAll parts + 1
  | .iface _ d => uptoBulk d + 1
  | .map entries => uptoBulkEntries entries + 1
  | .held _ => 1
def uptoBulkAll {H : Type} : List (DataW H) → Nat
  | [] => 0
  | d :: r => uptoBulk d + uptoBulkAll r
def uptoBulkEntries {H : Type} : List (Lit × DataW H) → Nat
  | [] => 0
  | x :: r => uptoBulkEntry x + uptoBulkEntries r
def uptoBulkEntry {H : Type} : Lit × DataW H → Nat
  | (.string bytes, d) => bytes.length + uptoBulk d + 1
  | (_, d) => uptoBulk d + 1
 end
def uptoSmall : (H : Type) → List (DataW H) → Bool := fun _ ds => decide (uptoBulkAll ds ≤ 1048576)
def OpenSpec.upto (s : _root_.Go.ChangeSpec) : _root_.Go.OpenSpec := { _root_.Go.OpenSpec.ofChange s with cond := some uptoSmall }

/-- 'cordonlaw02.CodeEncodes', WHERE WHAT IT READS IS OF BULK AT MOST 1048576: true; the input reads as it did. -/
def codeEncodesUptoRow : OpenClaim := { program := "ythghflgmeepnlaa", sum := "3f08e40de4feb61495d42507092a8d46a2697059802868cc22f2321ddc773112", func := "cordon/cordonlaw02.CodeEncodes", spec := "codeEncodes", apart := false, narrowed := true }
def CodeEncodesUptoSaid : Prop := codeEncodesUptoRow.holds Try.pinned (OpenSpec.upto codeEncodesSpec)

/-- 'cordonlaw01.ValueLaws', WHERE WHAT IT READS IS OF BULK AT MOST 1048576: true; the input reads as it did. -/
def valueLawsUptoRow : OpenClaim := { program := "ythghflgmeepnlaa", sum := "3f08e40de4feb61495d42507092a8d46a2697059802868cc22f2321ddc773112", func := "cordon/cordonlaw01.ValueLaws", spec := "valueLaws", unfollowed := true, recurses := true, apart := false, narrowed := true }
def ValueLawsUptoSaid : Prop := valueLawsUptoRow.holds Try.pinned (OpenSpec.upto valueLawsSpec)

/-- 'cordonlaw01.ValueMakes', WHERE WHAT IT READS IS OF BULK AT MOST 1048576: true; the input reads as it did. -/
def valueMakesUptoRow : OpenClaim := { program := "ythghflgmeepnlaa", sum := "3f08e40de4feb61495d42507092a8d46a2697059802868cc22f2321ddc773112", func := "cordon/cordonlaw01.ValueMakes", spec := "valueMakes", unfollowed := true, recurses := true, apart := false, narrowed := true }
def ValueMakesUptoSaid : Prop := valueMakesUptoRow.holds Try.pinned (OpenSpec.upto valueMakesSpec)

/-- 'cordonlaw01.ValueMul', WHERE WHAT IT READS IS OF BULK AT MOST 1048576: true; the input reads as it did. -/
def valueMulUptoRow : OpenClaim := { program := "ythghflgmeepnlaa", sum := "3f08e40de4feb61495d42507092a8d46a2697059802868cc22f2321ddc773112", func := "cordon/cordonlaw01.ValueMul", spec := "valueMul", unfollowed := true, recurses := true, apart := false, narrowed := true }
def ValueMulUptoSaid : Prop := valueMulUptoRow.holds Try.pinned (OpenSpec.upto valueMulSpec)

/-- 'cordonlaw01.ValueBack', WHERE WHAT IT READS IS OF BULK AT MOST 1048576: true; the input reads as it did. -/
def valueBackUptoRow : OpenClaim := { program := "ythghflgmeepnlaa", sum := "3f08e40de4feb61495d42507092a8d46a2697059802868cc22f2321ddc773112", func := "cordon/cordonlaw01.ValueBack", spec := "valueBack", unfollowed := true, recurses := true, apart := false, narrowed := true }
def ValueBackUptoSaid : Prop := valueBackUptoRow.holds Try.pinned (OpenSpec.upto valueBackSpec)

/-- 'cordonlaw02.CodeOrder', WHERE WHAT IT READS IS OF BULK AT MOST 1048576: true; the input reads as it did. -/
def codeOrderUptoRow : OpenClaim := { program := "ythghflgmeepnlaa", sum := "3f08e40de4feb61495d42507092a8d46a2697059802868cc22f2321ddc773112", func := "cordon/cordonlaw02.CodeOrder", spec := "codeOrder", unfollowed := true, recurses := true, apart := false, narrowed := true }
def CodeOrderUptoSaid : Prop := codeOrderUptoRow.holds Try.pinned (OpenSpec.upto codeOrderSpec)

/-- 'cordonlaw01.ValueOrder', WHERE WHAT IT READS IS OF BULK AT MOST 1048576: true; the input reads as it did. -/
def valueOrderUptoRow : OpenClaim := { program := "ythghflgmeepnlaa", sum := "3f08e40de4feb61495d42507092a8d46a2697059802868cc22f2321ddc773112", func := "cordon/cordonlaw01.ValueOrder", spec := "valueOrder", unfollowed := true, recurses := true, apart := false, narrowed := true }
def ValueOrderUptoSaid : Prop := valueOrderUptoRow.holds Try.pinned (OpenSpec.upto valueOrderSpec)

/-- 'cordonlaw02.CodeDecodes', WHERE WHAT IT READS IS OF BULK AT MOST 1048576: true; the input reads as it did. -/
def codeDecodesUptoRow : OpenClaim := { program := "ythghflgmeepnlaa", sum := "3f08e40de4feb61495d42507092a8d46a2697059802868cc22f2321ddc773112", func := "cordon/cordonlaw02.CodeDecodes", spec := "codeDecodes", apart := false, narrowed := true }
def CodeDecodesUptoSaid : Prop := codeDecodesUptoRow.holds Try.pinned (OpenSpec.upto codeDecodesSpec)

/-- 'cordonlaw02.CodeBack', WHERE WHAT IT READS IS OF BULK AT MOST 1048576: true; the input reads as it did. -/
def codeBackUptoRow : OpenClaim := { program := "ythghflgmeepnlaa", sum := "3f08e40de4feb61495d42507092a8d46a2697059802868cc22f2321ddc773112", func := "cordon/cordonlaw02.CodeBack", spec := "codeBack", apart := false, narrowed := true }
def CodeBackUptoSaid : Prop := codeBackUptoRow.holds Try.pinned (OpenSpec.upto codeBackSpec)

/-- 'cordonlaw02.CodeJoins', WHERE WHAT IT READS IS OF BULK AT MOST 1048576: true; the input reads as it did. -/
def codeJoinsUptoRow : OpenClaim := { program := "ythghflgmeepnlaa", sum := "3f08e40de4feb61495d42507092a8d46a2697059802868cc22f2321ddc773112", func := "cordon/cordonlaw02.CodeJoins", spec := "codeJoins", apart := false, narrowed := true }
def CodeJoinsUptoSaid : Prop := codeJoinsUptoRow.holds Try.pinned (OpenSpec.upto codeJoinsSpec)

/-- 'cordonlaw11.RowsSorts', WHERE WHAT IT READS IS OF BULK AT MOST 1048576: true; the input reads as it did. -/
def rowsSortsUptoRow : OpenClaim := { program := "ythghflgmeepnlaa", sum := "3f08e40de4feb61495d42507092a8d46a2697059802868cc22f2321ddc773112", func := "cordon/cordonlaw11.RowsSorts", spec := "rowsSorts", unfollowed := true, recurses := true, apart := false, narrowed := true }
def RowsSortsUptoSaid : Prop := rowsSortsUptoRow.holds Try.pinned (OpenSpec.upto rowsSortsSpec)

/-- 'cordonlaw11.RowsOrder', WHERE WHAT IT READS IS OF BULK AT MOST 1048576: true; the input reads as it did. -/
def rowsOrderUptoRow : OpenClaim := { program := "ythghflgmeepnlaa", sum := "3f08e40de4feb61495d42507092a8d46a2697059802868cc22f2321ddc773112", func := "cordon/cordonlaw11.RowsOrder", spec := "rowsOrder", unfollowed := true, recurses := true, apart := false, narrowed := true }
def RowsOrderUptoSaid : Prop := rowsOrderUptoRow.holds Try.pinned (OpenSpec.upto rowsOrderSpec)

/-- 'cordonlaw11.RowsGroups', WHERE WHAT IT READS IS OF BULK AT MOST 1048576: true; the input reads as it did. -/
def rowsGroupsUptoRow : OpenClaim := { program := "ythghflgmeepnlaa", sum := "3f08e40de4feb61495d42507092a8d46a2697059802868cc22f2321ddc773112", func := "cordon/cordonlaw11.RowsGroups", spec := "rowsGroups", unfollowed := true, recurses := true, apart := false, narrowed := true }
def RowsGroupsUptoSaid : Prop := rowsGroupsUptoRow.holds Try.pinned (OpenSpec.upto rowsGroupsSpec)

/-- 'cordonlaw11.RowsSets', WHERE WHAT IT READS IS OF BULK AT MOST 1048576: true; the input reads as it did. -/
def rowsSetsUptoRow : OpenClaim := { program := "ythghflgmeepnlaa", sum := "3f08e40de4feb61495d42507092a8d46a2697059802868cc22f2321ddc773112", func := "cordon/cordonlaw11.RowsSets", spec := "rowsSets", unfollowed := true, recurses := true, apart := false, narrowed := true }
def RowsSetsUptoSaid : Prop := rowsSetsUptoRow.holds Try.pinned (OpenSpec.upto rowsSetsSpec)

/-- 'cordonlaw11.RowsJoins', WHERE WHAT IT READS IS OF BULK AT MOST 1048576: true; the input reads as it did. -/
def rowsJoinsUptoRow : OpenClaim := { program := "ythghflgmeepnlaa", sum := "3f08e40de4feb61495d42507092a8d46a2697059802868cc22f2321ddc773112", func := "cordon/cordonlaw11.RowsJoins", spec := "rowsJoins", unfollowed := true, recurses := true, apart := false, narrowed := true }
def RowsJoinsUptoSaid : Prop := rowsJoinsUptoRow.holds Try.pinned (OpenSpec.upto rowsJoinsSpec)

/-- 'cordonlaw11.RowsParts', WHERE WHAT IT READS IS OF BULK AT MOST 1048576: true; the input reads as it did. -/
def rowsPartsUptoRow : OpenClaim := { program := "ythghflgmeepnlaa", sum := "3f08e40de4feb61495d42507092a8d46a2697059802868cc22f2321ddc773112", func := "cordon/cordonlaw11.RowsParts", spec := "rowsParts", unfollowed := true, recurses := true, apart := false, narrowed := true }
def RowsPartsUptoSaid : Prop := rowsPartsUptoRow.holds Try.pinned (OpenSpec.upto rowsPartsSpec)

end Rows
end Go.Proofs.Ythghflgmeepnlaa
