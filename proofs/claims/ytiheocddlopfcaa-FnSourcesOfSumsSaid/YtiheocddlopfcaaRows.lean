/-
  No cell of these rows narrows 'for every input' (looked for: loops, veiled, ifaces, maps, wideKeys, modest, calm, conditions, laid).
  DERIVED. THE GIVEN ROWS OF THIS SEAT. 12 by the template 'for every input the law returns true; each argument reads behind the call as it read before'; 0 by the template 'total and deterministic' (their statements: YtiheocddlopfcaaTotals.lean).
  GIVEN WITH THE SEED: the statements are not yours to turn. If you find one false, say at which input.
  Laid BY PROGRAM, IN A SANDBOX (cutbox-rows.mjs): the forced cells as the released guide's own fill.sh prints them over the translation 776210d750d51449… (all of the seat's roots in one cut). By AI agents, Wed Nov 11 2026. No macro, syntax, notation, axiom, sorry.
-/
import Derived.Test.YtiheocddlopfcaaChecked
import GoSem.Claim
import GoSem.ClaimJoined
import GoSem.ClaimMapViews
import Derived.JoinedTies
import Derived.KernelRfl
namespace Go.Proofs.Ytiheocddlopfcaa
/- THE CELL 'sum', in the pinned program and in every row, IS THE sha256 OF THE DUMP (.gsa) THAT YtiheocddlopfcaaProg.lean LOADS. Nothing in Lean hashes anything: it is a label: what it is worth is what the hold of that sum in a sandbox is worth. -/
noncomputable def Try.pinned : Pinned := { name := "ytiheocddlopfcaa", sum := "776210d750d51449fc3da4f9819d86172a12b50e6e4c0c6e98c612653313848f", checked := Try.checked }
namespace Rows
def none {H : Type} : Left H := { results := [], args := [] }

/-- 'laws.FnPairsAndPerfect': WHATEVER THE INPUT: true; the input reads as it did. -/
def fnPairsAndPerfectSpec : ChangeSpec := { name := "fnPairsAndPerfect", fn := fun _ => fun
  | [d1, d2] => { results := [.lit (.bool true)], args := [d1, d2] }
  | _ => none }
def fnPairsAndPerfectRow : OpenClaim := { program := "ytiheocddlopfcaa", sum := "776210d750d51449fc3da4f9819d86172a12b50e6e4c0c6e98c612653313848f", func := "loop.example/g01151/laws.FnPairsAndPerfect", spec := "fnPairsAndPerfect", apart := false }
def FnPairsAndPerfectSaid : Prop := fnPairsAndPerfectRow.holds Try.pinned (OpenSpec.ofChange fnPairsAndPerfectSpec)

/-- ITS FALSE NEIGHBOUR: 'it returns false'. Refute it at one input. -/
def fnPairsAndPerfectWrong : ChangeSpec := { name := "fnPairsAndPerfect", fn := fun _ => fun
  | [d1, d2] => { results := [.lit (.bool false)], args := [d1, d2] }
  | _ => none }
def FnPairsAndPerfectWrongFalsely : Prop := fnPairsAndPerfectRow.holds Try.pinned (OpenSpec.ofChange fnPairsAndPerfectWrong)

/-- 'laws.FnWordsSay': WHATEVER THE INPUT: true; the input reads as it did. -/
def fnWordsSaySpec : ChangeSpec := { name := "fnWordsSay", fn := fun _ => fun
  | [d1, d2] => { results := [.lit (.bool true)], args := [d1, d2] }
  | _ => none }
def fnWordsSayRow : OpenClaim := { program := "ytiheocddlopfcaa", sum := "776210d750d51449fc3da4f9819d86172a12b50e6e4c0c6e98c612653313848f", func := "loop.example/g01151/laws.FnWordsSay", spec := "fnWordsSay", unfollowed := true, recurses := true, apart := false }
def FnWordsSaySaid : Prop := fnWordsSayRow.holds Try.pinned (OpenSpec.ofChange fnWordsSaySpec)

/-- ITS FALSE NEIGHBOUR: 'it returns false'. Refute it at one input. -/
def fnWordsSayWrong : ChangeSpec := { name := "fnWordsSay", fn := fun _ => fun
  | [d1, d2] => { results := [.lit (.bool false)], args := [d1, d2] }
  | _ => none }
def FnWordsSayWrongFalsely : Prop := fnWordsSayRow.holds Try.pinned (OpenSpec.ofChange fnWordsSayWrong)

/-- 'laws.FnProperRuns': WHATEVER THE INPUT: true; the input reads as it did. -/
def fnProperRunsSpec : ChangeSpec := { name := "fnProperRuns", fn := fun _ => fun
  | [d1, d2] => { results := [.lit (.bool true)], args := [d1, d2] }
  | _ => none }
def fnProperRunsRow : OpenClaim := { program := "ytiheocddlopfcaa", sum := "776210d750d51449fc3da4f9819d86172a12b50e6e4c0c6e98c612653313848f", func := "loop.example/g01151/laws.FnProperRuns", spec := "fnProperRuns", apart := false }
def FnProperRunsSaid : Prop := fnProperRunsRow.holds Try.pinned (OpenSpec.ofChange fnProperRunsSpec)

/-- ITS FALSE NEIGHBOUR: 'it returns false'. Refute it at one input. -/
def fnProperRunsWrong : ChangeSpec := { name := "fnProperRuns", fn := fun _ => fun
  | [d1, d2] => { results := [.lit (.bool false)], args := [d1, d2] }
  | _ => none }
def FnProperRunsWrongFalsely : Prop := fnProperRunsRow.holds Try.pinned (OpenSpec.ofChange fnProperRunsWrong)

/-- 'laws.FnAddedBackwards': WHATEVER THE INPUT: true; the input reads as it did. -/
def fnAddedBackwardsSpec : ChangeSpec := { name := "fnAddedBackwards", fn := fun _ => fun
  | [d1, d2] => { results := [.lit (.bool true)], args := [d1, d2] }
  | _ => none }
def fnAddedBackwardsRow : OpenClaim := { program := "ytiheocddlopfcaa", sum := "776210d750d51449fc3da4f9819d86172a12b50e6e4c0c6e98c612653313848f", func := "loop.example/g01151/laws.FnAddedBackwards", spec := "fnAddedBackwards", unfollowed := true, recurses := true, apart := false }
def FnAddedBackwardsSaid : Prop := fnAddedBackwardsRow.holds Try.pinned (OpenSpec.ofChange fnAddedBackwardsSpec)

/-- ITS FALSE NEIGHBOUR: 'it returns false'. Refute it at one input. -/
def fnAddedBackwardsWrong : ChangeSpec := { name := "fnAddedBackwards", fn := fun _ => fun
  | [d1, d2] => { results := [.lit (.bool false)], args := [d1, d2] }
  | _ => none }
def FnAddedBackwardsWrongFalsely : Prop := fnAddedBackwardsRow.holds Try.pinned (OpenSpec.ofChange fnAddedBackwardsWrong)

/-- 'laws.FnDigitsTellNumbers': WHATEVER THE INPUT: true; the input reads as it did. -/
def fnDigitsTellNumbersSpec : ChangeSpec := { name := "fnDigitsTellNumbers", fn := fun _ => fun
  | [d1, d2] => { results := [.lit (.bool true)], args := [d1, d2] }
  | _ => none }
def fnDigitsTellNumbersRow : OpenClaim := { program := "ytiheocddlopfcaa", sum := "776210d750d51449fc3da4f9819d86172a12b50e6e4c0c6e98c612653313848f", func := "loop.example/g01151/laws.FnDigitsTellNumbers", spec := "fnDigitsTellNumbers", unfollowed := true, recurses := true, apart := false }
def FnDigitsTellNumbersSaid : Prop := fnDigitsTellNumbersRow.holds Try.pinned (OpenSpec.ofChange fnDigitsTellNumbersSpec)

/-- ITS FALSE NEIGHBOUR: 'it returns false'. Refute it at one input. -/
def fnDigitsTellNumbersWrong : ChangeSpec := { name := "fnDigitsTellNumbers", fn := fun _ => fun
  | [d1, d2] => { results := [.lit (.bool false)], args := [d1, d2] }
  | _ => none }
def FnDigitsTellNumbersWrongFalsely : Prop := fnDigitsTellNumbersRow.holds Try.pinned (OpenSpec.ofChange fnDigitsTellNumbersWrong)

/-- 'laws.FnSourcesOfSums': WHATEVER THE INPUT: true; the input reads as it did. -/
def fnSourcesOfSumsSpec : ChangeSpec := { name := "fnSourcesOfSums", fn := fun _ => fun
  | [d1, d2] => { results := [.lit (.bool true)], args := [d1, d2] }
  | _ => none }
def fnSourcesOfSumsRow : OpenClaim := { program := "ytiheocddlopfcaa", sum := "776210d750d51449fc3da4f9819d86172a12b50e6e4c0c6e98c612653313848f", func := "loop.example/g01151/laws.FnSourcesOfSums", spec := "fnSourcesOfSums", unfollowed := true, recurses := true, apart := false }
def FnSourcesOfSumsSaid : Prop := fnSourcesOfSumsRow.holds Try.pinned (OpenSpec.ofChange fnSourcesOfSumsSpec)

/-- ITS FALSE NEIGHBOUR: 'it returns false'. Refute it at one input. -/
def fnSourcesOfSumsWrong : ChangeSpec := { name := "fnSourcesOfSums", fn := fun _ => fun
  | [d1, d2] => { results := [.lit (.bool false)], args := [d1, d2] }
  | _ => none }
def FnSourcesOfSumsWrongFalsely : Prop := fnSourcesOfSumsRow.holds Try.pinned (OpenSpec.ofChange fnSourcesOfSumsWrong)

/-- 'laws.FnRunsToSymmetric': WHATEVER THE INPUT: true; the input reads as it did. -/
def fnRunsToSymmetricSpec : ChangeSpec := { name := "fnRunsToSymmetric", fn := fun _ => fun
  | [d1, d2] => { results := [.lit (.bool true)], args := [d1, d2] }
  | _ => none }
def fnRunsToSymmetricRow : OpenClaim := { program := "ytiheocddlopfcaa", sum := "776210d750d51449fc3da4f9819d86172a12b50e6e4c0c6e98c612653313848f", func := "loop.example/g01151/laws.FnRunsToSymmetric", spec := "fnRunsToSymmetric", unfollowed := true, recurses := true, apart := false }
def FnRunsToSymmetricSaid : Prop := fnRunsToSymmetricRow.holds Try.pinned (OpenSpec.ofChange fnRunsToSymmetricSpec)

/-- ITS FALSE NEIGHBOUR: 'it returns false'. Refute it at one input. -/
def fnRunsToSymmetricWrong : ChangeSpec := { name := "fnRunsToSymmetric", fn := fun _ => fun
  | [d1, d2] => { results := [.lit (.bool false)], args := [d1, d2] }
  | _ => none }
def FnRunsToSymmetricWrongFalsely : Prop := fnRunsToSymmetricRow.holds Try.pinned (OpenSpec.ofChange fnRunsToSymmetricWrong)

/-- 'laws.FnPowerRunsEnd': WHATEVER THE INPUT: true; the input reads as it did. -/
def fnPowerRunsEndSpec : ChangeSpec := { name := "fnPowerRunsEnd", fn := fun _ => fun
  | [d1, d2] => { results := [.lit (.bool true)], args := [d1, d2] }
  | _ => none }
def fnPowerRunsEndRow : OpenClaim := { program := "ytiheocddlopfcaa", sum := "776210d750d51449fc3da4f9819d86172a12b50e6e4c0c6e98c612653313848f", func := "loop.example/g01151/laws.FnPowerRunsEnd", spec := "fnPowerRunsEnd", unfollowed := true, recurses := true, apart := false }
def FnPowerRunsEndSaid : Prop := fnPowerRunsEndRow.holds Try.pinned (OpenSpec.ofChange fnPowerRunsEndSpec)

/-- ITS FALSE NEIGHBOUR: 'it returns false'. Refute it at one input. -/
def fnPowerRunsEndWrong : ChangeSpec := { name := "fnPowerRunsEnd", fn := fun _ => fun
  | [d1, d2] => { results := [.lit (.bool false)], args := [d1, d2] }
  | _ => none }
def FnPowerRunsEndWrongFalsely : Prop := fnPowerRunsEndRow.holds Try.pinned (OpenSpec.ofChange fnPowerRunsEndWrong)

/-- 'laws.FnStepsToOne': WHATEVER THE INPUT: true; the input reads as it did. -/
def fnStepsToOneSpec : ChangeSpec := { name := "fnStepsToOne", fn := fun _ => fun
  | [d1, d2] => { results := [.lit (.bool true)], args := [d1, d2] }
  | _ => none }
def fnStepsToOneRow : OpenClaim := { program := "ytiheocddlopfcaa", sum := "776210d750d51449fc3da4f9819d86172a12b50e6e4c0c6e98c612653313848f", func := "loop.example/g01151/laws.FnStepsToOne", spec := "fnStepsToOne", unfollowed := true, recurses := true, apart := false }
def FnStepsToOneSaid : Prop := fnStepsToOneRow.holds Try.pinned (OpenSpec.ofChange fnStepsToOneSpec)

/-- ITS FALSE NEIGHBOUR: 'it returns false'. Refute it at one input. -/
def fnStepsToOneWrong : ChangeSpec := { name := "fnStepsToOne", fn := fun _ => fun
  | [d1, d2] => { results := [.lit (.bool false)], args := [d1, d2] }
  | _ => none }
def FnStepsToOneWrongFalsely : Prop := fnStepsToOneRow.holds Try.pinned (OpenSpec.ofChange fnStepsToOneWrong)

/-- 'laws.FnOtherCycles': WHATEVER THE INPUT: true; the input reads as it did. -/
def fnOtherCyclesSpec : ChangeSpec := { name := "fnOtherCycles", fn := fun _ => fun
  | [d1, d2] => { results := [.lit (.bool true)], args := [d1, d2] }
  | _ => none }
def fnOtherCyclesRow : OpenClaim := { program := "ytiheocddlopfcaa", sum := "776210d750d51449fc3da4f9819d86172a12b50e6e4c0c6e98c612653313848f", func := "loop.example/g01151/laws.FnOtherCycles", spec := "fnOtherCycles", unfollowed := true, recurses := true, apart := false }
def FnOtherCyclesSaid : Prop := fnOtherCyclesRow.holds Try.pinned (OpenSpec.ofChange fnOtherCyclesSpec)

/-- ITS FALSE NEIGHBOUR: 'it returns false'. Refute it at one input. -/
def fnOtherCyclesWrong : ChangeSpec := { name := "fnOtherCycles", fn := fun _ => fun
  | [d1, d2] => { results := [.lit (.bool false)], args := [d1, d2] }
  | _ => none }
def FnOtherCyclesWrongFalsely : Prop := fnOtherCyclesRow.holds Try.pinned (OpenSpec.ofChange fnOtherCyclesWrong)

/-- 'laws.FnDigitsRearranged': WHATEVER THE INPUT: true; the input reads as it did. -/
def fnDigitsRearrangedSpec : ChangeSpec := { name := "fnDigitsRearranged", fn := fun _ => fun
  | [d1, d2] => { results := [.lit (.bool true)], args := [d1, d2] }
  | _ => none }
def fnDigitsRearrangedRow : OpenClaim := { program := "ytiheocddlopfcaa", sum := "776210d750d51449fc3da4f9819d86172a12b50e6e4c0c6e98c612653313848f", func := "loop.example/g01151/laws.FnDigitsRearranged", spec := "fnDigitsRearranged", unfollowed := true, recurses := true, apart := false }
def FnDigitsRearrangedSaid : Prop := fnDigitsRearrangedRow.holds Try.pinned (OpenSpec.ofChange fnDigitsRearrangedSpec)

/-- ITS FALSE NEIGHBOUR: 'it returns false'. Refute it at one input. -/
def fnDigitsRearrangedWrong : ChangeSpec := { name := "fnDigitsRearranged", fn := fun _ => fun
  | [d1, d2] => { results := [.lit (.bool false)], args := [d1, d2] }
  | _ => none }
def FnDigitsRearrangedWrongFalsely : Prop := fnDigitsRearrangedRow.holds Try.pinned (OpenSpec.ofChange fnDigitsRearrangedWrong)

/-- 'laws.FnProductRuns': WHATEVER THE INPUT: true; the input reads as it did. -/
def fnProductRunsSpec : ChangeSpec := { name := "fnProductRuns", fn := fun _ => fun
  | [d1, d2] => { results := [.lit (.bool true)], args := [d1, d2] }
  | _ => none }
def fnProductRunsRow : OpenClaim := { program := "ytiheocddlopfcaa", sum := "776210d750d51449fc3da4f9819d86172a12b50e6e4c0c6e98c612653313848f", func := "loop.example/g01151/laws.FnProductRuns", spec := "fnProductRuns", unfollowed := true, recurses := true, apart := false }
def FnProductRunsSaid : Prop := fnProductRunsRow.holds Try.pinned (OpenSpec.ofChange fnProductRunsSpec)

/-- ITS FALSE NEIGHBOUR: 'it returns false'. Refute it at one input. -/
def fnProductRunsWrong : ChangeSpec := { name := "fnProductRuns", fn := fun _ => fun
  | [d1, d2] => { results := [.lit (.bool false)], args := [d1, d2] }
  | _ => none }
def FnProductRunsWrongFalsely : Prop := fnProductRunsRow.holds Try.pinned (OpenSpec.ofChange fnProductRunsWrong)

/- THE SECOND FORM. 'bulk': how many values and letters a reading holds, each counted each time it is reached (what is shared counts as often as it is met; a slice's spare places count too). A statement '..UptoSaid' is the law's where the arguments, and the package variables that the reading takes, are together of bulk at most 1048576: NARROWER than '..Said'. Prove '..Said' where nothing that the law and all that it calls make is longer than what came in: it says more and counts as full. Else prove '..UptoSaid'. A law counts once. -/
mutual
def uptoBulk {H : Type} : DataW H → Nat
  | .lit (.string bytes) => bytes.length + 1
  | .lit _ => 1
  | .nil => 1
  | .ptr d => uptoBulk d + 1
  | .slice elems spare => uptoBulkAll elems + uptoBulkAll spare + 1
  | .agg parts => uptoBulkAll parts + 1
  | .iface _ d => uptoBulk d + 1
  | .map entries => uptoBulkEntries entries + 1
  | .held _ => 1
def uptoBulkAll {H : Type} : List (DataW H) → Nat
  | [] => 0
  | d :: r => uptoBulk d + uptoBulkAll r
def uptoBulkEntries {H : Type} : List (Lit × DataW H) → Nat
  | [] => 0
  | x :: r => uptoBulkEntry x + uptoBulkEntries r
def uptoBulkEntry {H : Type} : Lit × DataW H → Nat
  | (.string bytes, d) => bytes.length + uptoBulk d + 1
  | (_, d) => uptoBulk d + 1
 end
def uptoSmall : (H : Type) → List (DataW H) → Bool := fun _ ds => decide (uptoBulkAll ds ≤ 1048576)
def OpenSpec.upto (s : _root_.Go.ChangeSpec) : _root_.Go.OpenSpec := { _root_.Go.OpenSpec.ofChange s with cond := some uptoSmall }

/-- 'laws.FnPairsAndPerfect', WHERE WHAT IT READS IS OF BULK AT MOST 1048576: true; the input reads as it did. -/
def fnPairsAndPerfectUptoRow : OpenClaim := { program := "ytiheocddlopfcaa", sum := "776210d750d51449fc3da4f9819d86172a12b50e6e4c0c6e98c612653313848f", func := "loop.example/g01151/laws.FnPairsAndPerfect", spec := "fnPairsAndPerfect", apart := false, narrowed := true }
def FnPairsAndPerfectUptoSaid : Prop := fnPairsAndPerfectUptoRow.holds Try.pinned (OpenSpec.upto fnPairsAndPerfectSpec)

/-- 'laws.FnWordsSay', WHERE WHAT IT READS IS OF BULK AT MOST 1048576: true; the input reads as it did. -/
def fnWordsSayUptoRow : OpenClaim := { program := "ytiheocddlopfcaa", sum := "776210d750d51449fc3da4f9819d86172a12b50e6e4c0c6e98c612653313848f", func := "loop.example/g01151/laws.FnWordsSay", spec := "fnWordsSay", unfollowed := true, recurses := true, apart := false, narrowed := true }
def FnWordsSayUptoSaid : Prop := fnWordsSayUptoRow.holds Try.pinned (OpenSpec.upto fnWordsSaySpec)

/-- 'laws.FnProperRuns', WHERE WHAT IT READS IS OF BULK AT MOST 1048576: true; the input reads as it did. -/
def fnProperRunsUptoRow : OpenClaim := { program := "ytiheocddlopfcaa", sum := "776210d750d51449fc3da4f9819d86172a12b50e6e4c0c6e98c612653313848f", func := "loop.example/g01151/laws.FnProperRuns", spec := "fnProperRuns", apart := false, narrowed := true }
def FnProperRunsUptoSaid : Prop := fnProperRunsUptoRow.holds Try.pinned (OpenSpec.upto fnProperRunsSpec)

/-- 'laws.FnAddedBackwards', WHERE WHAT IT READS IS OF BULK AT MOST 1048576: true; the input reads as it did. -/
def fnAddedBackwardsUptoRow : OpenClaim := { program := "ytiheocddlopfcaa", sum := "776210d750d51449fc3da4f9819d86172a12b50e6e4c0c6e98c612653313848f", func := "loop.example/g01151/laws.FnAddedBackwards", spec := "fnAddedBackwards", unfollowed := true, recurses := true, apart := false, narrowed := true }
def FnAddedBackwardsUptoSaid : Prop := fnAddedBackwardsUptoRow.holds Try.pinned (OpenSpec.upto fnAddedBackwardsSpec)

/-- 'laws.FnDigitsTellNumbers', WHERE WHAT IT READS IS OF BULK AT MOST 1048576: true; the input reads as it did. -/
def fnDigitsTellNumbersUptoRow : OpenClaim := { program := "ytiheocddlopfcaa", sum := "776210d750d51449fc3da4f9819d86172a12b50e6e4c0c6e98c612653313848f", func := "loop.example/g01151/laws.FnDigitsTellNumbers", spec := "fnDigitsTellNumbers", unfollowed := true, recurses := true, apart := false, narrowed := true }
def FnDigitsTellNumbersUptoSaid : Prop := fnDigitsTellNumbersUptoRow.holds Try.pinned (OpenSpec.upto fnDigitsTellNumbersSpec)

/-- 'laws.FnSourcesOfSums', WHERE WHAT IT READS IS OF BULK AT MOST 1048576: true; the input reads as it did. -/
def fnSourcesOfSumsUptoRow : OpenClaim := { program := "ytiheocddlopfcaa", sum := "776210d750d51449fc3da4f9819d86172a12b50e6e4c0c6e98c612653313848f", func := "loop.example/g01151/laws.FnSourcesOfSums", spec := "fnSourcesOfSums", unfollowed := true, recurses := true, apart := false, narrowed := true }
def FnSourcesOfSumsUptoSaid : Prop := fnSourcesOfSumsUptoRow.holds Try.pinned (OpenSpec.upto fnSourcesOfSumsSpec)

/-- 'laws.FnRunsToSymmetric', WHERE WHAT IT READS IS OF BULK AT MOST 1048576: true; the input reads as it did. -/
def fnRunsToSymmetricUptoRow : OpenClaim := { program := "ytiheocddlopfcaa", sum := "776210d750d51449fc3da4f9819d86172a12b50e6e4c0c6e98c612653313848f", func := "loop.example/g01151/laws.FnRunsToSymmetric", spec := "fnRunsToSymmetric", unfollowed := true, recurses := true, apart := false, narrowed := true }
def FnRunsToSymmetricUptoSaid : Prop := fnRunsToSymmetricUptoRow.holds Try.pinned (OpenSpec.upto fnRunsToSymmetricSpec)

/-- 'laws.FnPowerRunsEnd', WHERE WHAT IT READS IS OF BULK AT MOST 1048576: true; the input reads as it did. -/
def fnPowerRunsEndUptoRow : OpenClaim := { program := "ytiheocddlopfcaa", sum := "776210d750d51449fc3da4f9819d86172a12b50e6e4c0c6e98c612653313848f", func := "loop.example/g01151/laws.FnPowerRunsEnd", spec := "fnPowerRunsEnd", unfollowed := true, recurses := true, apart := false, narrowed := true }
def FnPowerRunsEndUptoSaid : Prop := fnPowerRunsEndUptoRow.holds Try.pinned (OpenSpec.upto fnPowerRunsEndSpec)

/-- 'laws.FnStepsToOne', WHERE WHAT IT READS IS OF BULK AT MOST 1048576: true; the input reads as it did. -/
def fnStepsToOneUptoRow : OpenClaim := { program := "ytiheocddlopfcaa", sum := "776210d750d51449fc3da4f9819d86172a12b50e6e4c0c6e98c612653313848f", func := "loop.example/g01151/laws.FnStepsToOne", spec := "fnStepsToOne", unfollowed := true, recurses := true, apart := false, narrowed := true }
def FnStepsToOneUptoSaid : Prop := fnStepsToOneUptoRow.holds Try.pinned (OpenSpec.upto fnStepsToOneSpec)

/-- 'laws.FnOtherCycles', WHERE WHAT IT READS IS OF BULK AT MOST 1048576: true; the input reads as it did. -/
def fnOtherCyclesUptoRow : OpenClaim := { program := "ytiheocddlopfcaa", sum := "776210d750d51449fc3da4f9819d86172a12b50e6e4c0c6e98c612653313848f", func := "loop.example/g01151/laws.FnOtherCycles", spec := "fnOtherCycles", unfollowed := true, recurses := true, apart := false, narrowed := true }
def FnOtherCyclesUptoSaid : Prop := fnOtherCyclesUptoRow.holds Try.pinned (OpenSpec.upto fnOtherCyclesSpec)

/-- 'laws.FnDigitsRearranged', WHERE WHAT IT READS IS OF BULK AT MOST 1048576: true; the input reads as it did. -/
def fnDigitsRearrangedUptoRow : OpenClaim := { program := "ytiheocddlopfcaa", sum := "776210d750d51449fc3da4f9819d86172a12b50e6e4c0c6e98c612653313848f", func := "loop.example/g01151/laws.FnDigitsRearranged", spec := "fnDigitsRearranged", unfollowed := true, recurses := true, apart := false, narrowed := true }
def FnDigitsRearrangedUptoSaid : Prop := fnDigitsRearrangedUptoRow.holds Try.pinned (OpenSpec.upto fnDigitsRearrangedSpec)

/-- 'laws.FnProductRuns', WHERE WHAT IT READS IS OF BULK AT MOST 1048576: true; the input reads as it did. -/
def fnProductRunsUptoRow : OpenClaim := { program := "ytiheocddlopfcaa", sum := "776210d750d51449fc3da4f9819d86172a12b50e6e4c0c6e98c612653313848f", func := "loop.example/g01151/laws.FnProductRuns", spec := "fnProductRuns", unfollowed := true, recurses := true, apart := false, narrowed := true }
def FnProductRunsUptoSaid : Prop := fnProductRunsUptoRow.holds Try.pinned (OpenSpec.upto fnProductRunsSpec)

end Rows
end Go.Proofs.Ytiheocddlopfcaa
