/-
  No cell of these rows narrows 'for every input' (looked for: loops, veiled, ifaces, maps, wideKeys, modest, calm, conditions, laid).
  DERIVED. THE GIVEN ROWS OF THIS SEAT. 12 by the template 'for every input the law returns true; each argument reads behind the call as it read before'; 0 by the template 'total and deterministic' (their statements: YtibahokfomihbaaTotals.lean).
  GIVEN WITH THE SEED: the statements are not yours to turn. If you find one false, say at which input.
  Laid BY PROGRAM, IN A SANDBOX (cutbox-rows.mjs): the forced cells as the released guide's own fill.sh prints them over the translation f7c6f45b9b822798… (all of the seat's roots in one cut). By AI agents, Wed Nov 11 2026. No macro, syntax, notation, axiom, sorry.
-/
import Derived.Test.YtibahokfomihbaaChecked
import GoSem.Claim
import GoSem.ClaimJoined
import GoSem.ClaimMapViews
import Derived.JoinedTies
import Derived.KernelRfl
namespace Go.Proofs.Ytibahokfomihbaa
/- THE CELL 'sum', in the pinned program and in every row, IS THE sha256 OF THE DUMP (.gsa) THAT YtibahokfomihbaaProg.lean LOADS. Nothing in Lean hashes anything: it is a label: what it is worth is what the hold of that sum in a sandbox is worth. -/
noncomputable def Try.pinned : Pinned := { name := "ytibahokfomihbaa", sum := "f7c6f45b9b8227983fd5a99203f59343315c8fe9c6ab7bab5ce27099c0586bd5", checked := Try.checked }
namespace Rows
def none {H : Type} : Left H := { results := [], args := [] }

/-- 'laws.FnExactFirstDesk': WHATEVER THE INPUT: true; the input reads as it did. -/
def fnExactFirstDeskSpec : ChangeSpec := { name := "fnExactFirstDesk", fn := fun _ => fun
  | [] => { results := [.lit (.bool true)], args := [] }
  | _ => none }
def fnExactFirstDeskRow : OpenClaim := { program := "ytibahokfomihbaa", sum := "f7c6f45b9b8227983fd5a99203f59343315c8fe9c6ab7bab5ce27099c0586bd5", func := "loop.example/g01151/laws.FnExactFirstDesk", spec := "fnExactFirstDesk", apart := false }
def FnExactFirstDeskSaid : Prop := fnExactFirstDeskRow.holds Try.pinned (OpenSpec.ofChange fnExactFirstDeskSpec)

/-- ITS FALSE NEIGHBOUR: 'it returns false'. Refute it at one input. -/
def fnExactFirstDeskWrong : ChangeSpec := { name := "fnExactFirstDesk", fn := fun _ => fun
  | [] => { results := [.lit (.bool false)], args := [] }
  | _ => none }
def FnExactFirstDeskWrongFalsely : Prop := fnExactFirstDeskRow.holds Try.pinned (OpenSpec.ofChange fnExactFirstDeskWrong)

/-- 'laws.FnExactIsDesk': WHATEVER THE INPUT: true; the input reads as it did. -/
def fnExactIsDeskSpec : ChangeSpec := { name := "fnExactIsDesk", fn := fun _ => fun
  | [d] => { results := [.lit (.bool true)], args := [d] }
  | _ => none }
def fnExactIsDeskRow : OpenClaim := { program := "ytibahokfomihbaa", sum := "f7c6f45b9b8227983fd5a99203f59343315c8fe9c6ab7bab5ce27099c0586bd5", func := "loop.example/g01151/laws.FnExactIsDesk", spec := "fnExactIsDesk", apart := false }
def FnExactIsDeskSaid : Prop := fnExactIsDeskRow.holds Try.pinned (OpenSpec.ofChange fnExactIsDeskSpec)

/-- ITS FALSE NEIGHBOUR: 'it returns false'. Refute it at one input. -/
def fnExactIsDeskWrong : ChangeSpec := { name := "fnExactIsDesk", fn := fun _ => fun
  | [d] => { results := [.lit (.bool false)], args := [d] }
  | _ => none }
def FnExactIsDeskWrongFalsely : Prop := fnExactIsDeskRow.holds Try.pinned (OpenSpec.ofChange fnExactIsDeskWrong)

/-- 'laws.FnExactOrderOf': WHATEVER THE INPUT: true; the input reads as it did. -/
def fnExactOrderOfSpec : ChangeSpec := { name := "fnExactOrderOf", fn := fun _ => fun
  | [d1, d2] => { results := [.lit (.bool true)], args := [d1, d2] }
  | _ => none }
def fnExactOrderOfRow : OpenClaim := { program := "ytibahokfomihbaa", sum := "f7c6f45b9b8227983fd5a99203f59343315c8fe9c6ab7bab5ce27099c0586bd5", func := "loop.example/g01151/laws.FnExactOrderOf", spec := "fnExactOrderOf", apart := false }
def FnExactOrderOfSaid : Prop := fnExactOrderOfRow.holds Try.pinned (OpenSpec.ofChange fnExactOrderOfSpec)

/-- ITS FALSE NEIGHBOUR: 'it returns false'. Refute it at one input. -/
def fnExactOrderOfWrong : ChangeSpec := { name := "fnExactOrderOf", fn := fun _ => fun
  | [d1, d2] => { results := [.lit (.bool false)], args := [d1, d2] }
  | _ => none }
def FnExactOrderOfWrongFalsely : Prop := fnExactOrderOfRow.holds Try.pinned (OpenSpec.ofChange fnExactOrderOfWrong)

/-- 'laws.FnExactPeriodOf': WHATEVER THE INPUT: true; the input reads as it did. -/
def fnExactPeriodOfSpec : ChangeSpec := { name := "fnExactPeriodOf", fn := fun _ => fun
  | [d1, d2, d3] => { results := [.lit (.bool true)], args := [d1, d2, d3] }
  | _ => none }
def fnExactPeriodOfRow : OpenClaim := { program := "ytibahokfomihbaa", sum := "f7c6f45b9b8227983fd5a99203f59343315c8fe9c6ab7bab5ce27099c0586bd5", func := "loop.example/g01151/laws.FnExactPeriodOf", spec := "fnExactPeriodOf", unfollowed := true, recurses := true, apart := false }
def FnExactPeriodOfSaid : Prop := fnExactPeriodOfRow.holds Try.pinned (OpenSpec.ofChange fnExactPeriodOfSpec)

/-- ITS FALSE NEIGHBOUR: 'it returns false'. Refute it at one input. -/
def fnExactPeriodOfWrong : ChangeSpec := { name := "fnExactPeriodOf", fn := fun _ => fun
  | [d1, d2, d3] => { results := [.lit (.bool false)], args := [d1, d2, d3] }
  | _ => none }
def FnExactPeriodOfWrongFalsely : Prop := fnExactPeriodOfRow.holds Try.pinned (OpenSpec.ofChange fnExactPeriodOfWrong)

/-- 'laws.FnExactFractionDigits': WHATEVER THE INPUT: true; the input reads as it did. -/
def fnExactFractionDigitsSpec : ChangeSpec := { name := "fnExactFractionDigits", fn := fun _ => fun
  | [d1, d2, d3, d4] => { results := [.lit (.bool true)], args := [d1, d2, d3, d4] }
  | _ => none }
def fnExactFractionDigitsRow : OpenClaim := { program := "ytibahokfomihbaa", sum := "f7c6f45b9b8227983fd5a99203f59343315c8fe9c6ab7bab5ce27099c0586bd5", func := "loop.example/g01151/laws.FnExactFractionDigits", spec := "fnExactFractionDigits", apart := false }
def FnExactFractionDigitsSaid : Prop := fnExactFractionDigitsRow.holds Try.pinned (OpenSpec.ofChange fnExactFractionDigitsSpec)

/-- ITS FALSE NEIGHBOUR: 'it returns false'. Refute it at one input. -/
def fnExactFractionDigitsWrong : ChangeSpec := { name := "fnExactFractionDigits", fn := fun _ => fun
  | [d1, d2, d3, d4] => { results := [.lit (.bool false)], args := [d1, d2, d3, d4] }
  | _ => none }
def FnExactFractionDigitsWrongFalsely : Prop := fnExactFractionDigitsRow.holds Try.pinned (OpenSpec.ofChange fnExactFractionDigitsWrong)

/-- 'laws.FnExactTellCounts': WHATEVER THE INPUT: true; the input reads as it did. -/
def fnExactTellCountsSpec : ChangeSpec := { name := "fnExactTellCounts", fn := fun _ => fun
  | [d] => { results := [.lit (.bool true)], args := [d] }
  | _ => none }
def fnExactTellCountsRow : OpenClaim := { program := "ytibahokfomihbaa", sum := "f7c6f45b9b8227983fd5a99203f59343315c8fe9c6ab7bab5ce27099c0586bd5", func := "loop.example/g01151/laws.FnExactTellCounts", spec := "fnExactTellCounts", apart := false }
def FnExactTellCountsSaid : Prop := fnExactTellCountsRow.holds Try.pinned (OpenSpec.ofChange fnExactTellCountsSpec)

/-- ITS FALSE NEIGHBOUR: 'it returns false'. Refute it at one input. -/
def fnExactTellCountsWrong : ChangeSpec := { name := "fnExactTellCounts", fn := fun _ => fun
  | [d] => { results := [.lit (.bool false)], args := [d] }
  | _ => none }
def FnExactTellCountsWrongFalsely : Prop := fnExactTellCountsRow.holds Try.pinned (OpenSpec.ofChange fnExactTellCountsWrong)

/-- 'laws.FnExactIsSelfTelling': WHATEVER THE INPUT: true; the input reads as it did. -/
def fnExactIsSelfTellingSpec : ChangeSpec := { name := "fnExactIsSelfTelling", fn := fun _ => fun
  | [d] => { results := [.lit (.bool true)], args := [d] }
  | _ => none }
def fnExactIsSelfTellingRow : OpenClaim := { program := "ytibahokfomihbaa", sum := "f7c6f45b9b8227983fd5a99203f59343315c8fe9c6ab7bab5ce27099c0586bd5", func := "loop.example/g01151/laws.FnExactIsSelfTelling", spec := "fnExactIsSelfTelling", apart := false }
def FnExactIsSelfTellingSaid : Prop := fnExactIsSelfTellingRow.holds Try.pinned (OpenSpec.ofChange fnExactIsSelfTellingSpec)

/-- ITS FALSE NEIGHBOUR: 'it returns false'. Refute it at one input. -/
def fnExactIsSelfTellingWrong : ChangeSpec := { name := "fnExactIsSelfTelling", fn := fun _ => fun
  | [d] => { results := [.lit (.bool false)], args := [d] }
  | _ => none }
def FnExactIsSelfTellingWrongFalsely : Prop := fnExactIsSelfTellingRow.holds Try.pinned (OpenSpec.ofChange fnExactIsSelfTellingWrong)

/-- 'laws.FnExactSumOfDivisors': WHATEVER THE INPUT: true; the input reads as it did. -/
def fnExactSumOfDivisorsSpec : ChangeSpec := { name := "fnExactSumOfDivisors", fn := fun _ => fun
  | [d] => { results := [.lit (.bool true)], args := [d] }
  | _ => none }
def fnExactSumOfDivisorsRow : OpenClaim := { program := "ytibahokfomihbaa", sum := "f7c6f45b9b8227983fd5a99203f59343315c8fe9c6ab7bab5ce27099c0586bd5", func := "loop.example/g01151/laws.FnExactSumOfDivisors", spec := "fnExactSumOfDivisors", apart := false }
def FnExactSumOfDivisorsSaid : Prop := fnExactSumOfDivisorsRow.holds Try.pinned (OpenSpec.ofChange fnExactSumOfDivisorsSpec)

/-- ITS FALSE NEIGHBOUR: 'it returns false'. Refute it at one input. -/
def fnExactSumOfDivisorsWrong : ChangeSpec := { name := "fnExactSumOfDivisors", fn := fun _ => fun
  | [d] => { results := [.lit (.bool false)], args := [d] }
  | _ => none }
def FnExactSumOfDivisorsWrongFalsely : Prop := fnExactSumOfDivisorsRow.holds Try.pinned (OpenSpec.ofChange fnExactSumOfDivisorsWrong)

/-- 'laws.FnExactProperSum': WHATEVER THE INPUT: true; the input reads as it did. -/
def fnExactProperSumSpec : ChangeSpec := { name := "fnExactProperSum", fn := fun _ => fun
  | [d] => { results := [.lit (.bool true)], args := [d] }
  | _ => none }
def fnExactProperSumRow : OpenClaim := { program := "ytibahokfomihbaa", sum := "f7c6f45b9b8227983fd5a99203f59343315c8fe9c6ab7bab5ce27099c0586bd5", func := "loop.example/g01151/laws.FnExactProperSum", spec := "fnExactProperSum", apart := false }
def FnExactProperSumSaid : Prop := fnExactProperSumRow.holds Try.pinned (OpenSpec.ofChange fnExactProperSumSpec)

/-- ITS FALSE NEIGHBOUR: 'it returns false'. Refute it at one input. -/
def fnExactProperSumWrong : ChangeSpec := { name := "fnExactProperSum", fn := fun _ => fun
  | [d] => { results := [.lit (.bool false)], args := [d] }
  | _ => none }
def FnExactProperSumWrongFalsely : Prop := fnExactProperSumRow.holds Try.pinned (OpenSpec.ofChange fnExactProperSumWrong)

/-- 'laws.FnExactKindOfNumber': WHATEVER THE INPUT: true; the input reads as it did. -/
def fnExactKindOfNumberSpec : ChangeSpec := { name := "fnExactKindOfNumber", fn := fun _ => fun
  | [d] => { results := [.lit (.bool true)], args := [d] }
  | _ => none }
def fnExactKindOfNumberRow : OpenClaim := { program := "ytibahokfomihbaa", sum := "f7c6f45b9b8227983fd5a99203f59343315c8fe9c6ab7bab5ce27099c0586bd5", func := "loop.example/g01151/laws.FnExactKindOfNumber", spec := "fnExactKindOfNumber", apart := false }
def FnExactKindOfNumberSaid : Prop := fnExactKindOfNumberRow.holds Try.pinned (OpenSpec.ofChange fnExactKindOfNumberSpec)

/-- ITS FALSE NEIGHBOUR: 'it returns false'. Refute it at one input. -/
def fnExactKindOfNumberWrong : ChangeSpec := { name := "fnExactKindOfNumber", fn := fun _ => fun
  | [d] => { results := [.lit (.bool false)], args := [d] }
  | _ => none }
def FnExactKindOfNumberWrongFalsely : Prop := fnExactKindOfNumberRow.holds Try.pinned (OpenSpec.ofChange fnExactKindOfNumberWrong)

/-- 'laws.FnExactPartnerOf': WHATEVER THE INPUT: true; the input reads as it did. -/
def fnExactPartnerOfSpec : ChangeSpec := { name := "fnExactPartnerOf", fn := fun _ => fun
  | [d] => { results := [.lit (.bool true)], args := [d] }
  | _ => none }
def fnExactPartnerOfRow : OpenClaim := { program := "ytibahokfomihbaa", sum := "f7c6f45b9b8227983fd5a99203f59343315c8fe9c6ab7bab5ce27099c0586bd5", func := "loop.example/g01151/laws.FnExactPartnerOf", spec := "fnExactPartnerOf", apart := false }
def FnExactPartnerOfSaid : Prop := fnExactPartnerOfRow.holds Try.pinned (OpenSpec.ofChange fnExactPartnerOfSpec)

/-- ITS FALSE NEIGHBOUR: 'it returns false'. Refute it at one input. -/
def fnExactPartnerOfWrong : ChangeSpec := { name := "fnExactPartnerOf", fn := fun _ => fun
  | [d] => { results := [.lit (.bool false)], args := [d] }
  | _ => none }
def FnExactPartnerOfWrongFalsely : Prop := fnExactPartnerOfRow.holds Try.pinned (OpenSpec.ofChange fnExactPartnerOfWrong)

/-- 'laws.FnExactTurnsOf': WHATEVER THE INPUT: true; the input reads as it did. -/
def fnExactTurnsOfSpec : ChangeSpec := { name := "fnExactTurnsOf", fn := fun _ => fun
  | [d1, d2] => { results := [.lit (.bool true)], args := [d1, d2] }
  | _ => none }
def fnExactTurnsOfRow : OpenClaim := { program := "ytibahokfomihbaa", sum := "f7c6f45b9b8227983fd5a99203f59343315c8fe9c6ab7bab5ce27099c0586bd5", func := "loop.example/g01151/laws.FnExactTurnsOf", spec := "fnExactTurnsOf", apart := false }
def FnExactTurnsOfSaid : Prop := fnExactTurnsOfRow.holds Try.pinned (OpenSpec.ofChange fnExactTurnsOfSpec)

/-- ITS FALSE NEIGHBOUR: 'it returns false'. Refute it at one input. -/
def fnExactTurnsOfWrong : ChangeSpec := { name := "fnExactTurnsOf", fn := fun _ => fun
  | [d1, d2] => { results := [.lit (.bool false)], args := [d1, d2] }
  | _ => none }
def FnExactTurnsOfWrongFalsely : Prop := fnExactTurnsOfRow.holds Try.pinned (OpenSpec.ofChange fnExactTurnsOfWrong)

/- THE SECOND FORM. 'bulk': how many values and letters a reading holds, each counted each time it is reached (what is shared counts as often as it is met; a slice's spare places count too). A statement '..UptoSaid' is the law's where the arguments, and the package variables that the reading takes, are together of bulk at most 1048576: NARROWER than '..Said'. Prove '..Said' where nothing that the law and all that it calls make is longer than what came in: it says more and counts as full. Else prove '..UptoSaid'. A law counts once. -/
mutual
def uptoBulk {H : Type} : DataW H → Nat
  | .lit (.string bytes) => bytes.length + 1
  | .lit _ => 1
  | .nil => 1
  | .ptr d => uptoBulk d + 1
  | .slice elems spare => uptoBulkAll elems + uptoBulkAll spare + 1
  | .agg parts => uptoBulkAll parts + 1
  | .iface _ d => uptoBulk d + 1
  | .map entries => uptoBulkEntries entries + 1
  | .held _ => 1
def uptoBulkAll {H : Type} : List (DataW H) → Nat
  | [] => 0
  | d :: r => uptoBulk d + uptoBulkAll r
def uptoBulkEntries {H : Type} : List (Lit × DataW H) → Nat
  | [] => 0
  | x :: r => uptoBulkEntry x + uptoBulkEntries r
def uptoBulkEntry {H : Type} : Lit × DataW H → Nat
  | (.string bytes, d) => bytes.length + uptoBulk d + 1
  | (_, d) => uptoBulk d + 1
 end
def uptoSmall : (H : Type) → List (DataW H) → Bool := fun _ ds => decide (uptoBulkAll ds ≤ 1048576)
def OpenSpec.upto (s : _root_.Go.ChangeSpec) : _root_.Go.OpenSpec := { _root_.Go.OpenSpec.ofChange s with cond := some uptoSmall }

/-- 'laws.FnExactFirstDesk', WHERE WHAT IT READS IS OF BULK AT MOST 1048576: true; the input reads as it did. -/
def fnExactFirstDeskUptoRow : OpenClaim := { program := "ytibahokfomihbaa", sum := "f7c6f45b9b8227983fd5a99203f59343315c8fe9c6ab7bab5ce27099c0586bd5", func := "loop.example/g01151/laws.FnExactFirstDesk", spec := "fnExactFirstDesk", apart := false, narrowed := true }
def FnExactFirstDeskUptoSaid : Prop := fnExactFirstDeskUptoRow.holds Try.pinned (OpenSpec.upto fnExactFirstDeskSpec)

/-- 'laws.FnExactIsDesk', WHERE WHAT IT READS IS OF BULK AT MOST 1048576: true; the input reads as it did. -/
def fnExactIsDeskUptoRow : OpenClaim := { program := "ytibahokfomihbaa", sum := "f7c6f45b9b8227983fd5a99203f59343315c8fe9c6ab7bab5ce27099c0586bd5", func := "loop.example/g01151/laws.FnExactIsDesk", spec := "fnExactIsDesk", apart := false, narrowed := true }
def FnExactIsDeskUptoSaid : Prop := fnExactIsDeskUptoRow.holds Try.pinned (OpenSpec.upto fnExactIsDeskSpec)

/-- 'laws.FnExactOrderOf', WHERE WHAT IT READS IS OF BULK AT MOST 1048576: true; the input reads as it did. -/
def fnExactOrderOfUptoRow : OpenClaim := { program := "ytibahokfomihbaa", sum := "f7c6f45b9b8227983fd5a99203f59343315c8fe9c6ab7bab5ce27099c0586bd5", func := "loop.example/g01151/laws.FnExactOrderOf", spec := "fnExactOrderOf", apart := false, narrowed := true }
def FnExactOrderOfUptoSaid : Prop := fnExactOrderOfUptoRow.holds Try.pinned (OpenSpec.upto fnExactOrderOfSpec)

/-- 'laws.FnExactPeriodOf', WHERE WHAT IT READS IS OF BULK AT MOST 1048576: true; the input reads as it did. -/
def fnExactPeriodOfUptoRow : OpenClaim := { program := "ytibahokfomihbaa", sum := "f7c6f45b9b8227983fd5a99203f59343315c8fe9c6ab7bab5ce27099c0586bd5", func := "loop.example/g01151/laws.FnExactPeriodOf", spec := "fnExactPeriodOf", unfollowed := true, recurses := true, apart := false, narrowed := true }
def FnExactPeriodOfUptoSaid : Prop := fnExactPeriodOfUptoRow.holds Try.pinned (OpenSpec.upto fnExactPeriodOfSpec)

/-- 'laws.FnExactFractionDigits', WHERE WHAT IT READS IS OF BULK AT MOST 1048576: true; the input reads as it did. -/
def fnExactFractionDigitsUptoRow : OpenClaim := { program := "ytibahokfomihbaa", sum := "f7c6f45b9b8227983fd5a99203f59343315c8fe9c6ab7bab5ce27099c0586bd5", func := "loop.example/g01151/laws.FnExactFractionDigits", spec := "fnExactFractionDigits", apart := false, narrowed := true }
def FnExactFractionDigitsUptoSaid : Prop := fnExactFractionDigitsUptoRow.holds Try.pinned (OpenSpec.upto fnExactFractionDigitsSpec)

/-- 'laws.FnExactTellCounts', WHERE WHAT IT READS IS OF BULK AT MOST 1048576: true; the input reads as it did. -/
def fnExactTellCountsUptoRow : OpenClaim := { program := "ytibahokfomihbaa", sum := "f7c6f45b9b8227983fd5a99203f59343315c8fe9c6ab7bab5ce27099c0586bd5", func := "loop.example/g01151/laws.FnExactTellCounts", spec := "fnExactTellCounts", apart := false, narrowed := true }
def FnExactTellCountsUptoSaid : Prop := fnExactTellCountsUptoRow.holds Try.pinned (OpenSpec.upto fnExactTellCountsSpec)

/-- 'laws.FnExactIsSelfTelling', WHERE WHAT IT READS IS OF BULK AT MOST 1048576: true; the input reads as it did. -/
def fnExactIsSelfTellingUptoRow : OpenClaim := { program := "ytibahokfomihbaa", sum := "f7c6f45b9b8227983fd5a99203f59343315c8fe9c6ab7bab5ce27099c0586bd5", func := "loop.example/g01151/laws.FnExactIsSelfTelling", spec := "fnExactIsSelfTelling", apart := false, narrowed := true }
def FnExactIsSelfTellingUptoSaid : Prop := fnExactIsSelfTellingUptoRow.holds Try.pinned (OpenSpec.upto fnExactIsSelfTellingSpec)

/-- 'laws.FnExactSumOfDivisors', WHERE WHAT IT READS IS OF BULK AT MOST 1048576: true; the input reads as it did. -/
def fnExactSumOfDivisorsUptoRow : OpenClaim := { program := "ytibahokfomihbaa", sum := "f7c6f45b9b8227983fd5a99203f59343315c8fe9c6ab7bab5ce27099c0586bd5", func := "loop.example/g01151/laws.FnExactSumOfDivisors", spec := "fnExactSumOfDivisors", apart := false, narrowed := true }
def FnExactSumOfDivisorsUptoSaid : Prop := fnExactSumOfDivisorsUptoRow.holds Try.pinned (OpenSpec.upto fnExactSumOfDivisorsSpec)

/-- 'laws.FnExactProperSum', WHERE WHAT IT READS IS OF BULK AT MOST 1048576: true; the input reads as it did. -/
def fnExactProperSumUptoRow : OpenClaim := { program := "ytibahokfomihbaa", sum := "f7c6f45b9b8227983fd5a99203f59343315c8fe9c6ab7bab5ce27099c0586bd5", func := "loop.example/g01151/laws.FnExactProperSum", spec := "fnExactProperSum", apart := false, narrowed := true }
def FnExactProperSumUptoSaid : Prop := fnExactProperSumUptoRow.holds Try.pinned (OpenSpec.upto fnExactProperSumSpec)

/-- 'laws.FnExactKindOfNumber', WHERE WHAT IT READS IS OF BULK AT MOST 1048576: true; the input reads as it did. -/
def fnExactKindOfNumberUptoRow : OpenClaim := { program := "ytibahokfomihbaa", sum := "f7c6f45b9b8227983fd5a99203f59343315c8fe9c6ab7bab5ce27099c0586bd5", func := "loop.example/g01151/laws.FnExactKindOfNumber", spec := "fnExactKindOfNumber", apart := false, narrowed := true }
def FnExactKindOfNumberUptoSaid : Prop := fnExactKindOfNumberUptoRow.holds Try.pinned (OpenSpec.upto fnExactKindOfNumberSpec)

/-- 'laws.FnExactPartnerOf', WHERE WHAT IT READS IS OF BULK AT MOST 1048576: true; the input reads as it did. -/
def fnExactPartnerOfUptoRow : OpenClaim := { program := "ytibahokfomihbaa", sum := "f7c6f45b9b8227983fd5a99203f59343315c8fe9c6ab7bab5ce27099c0586bd5", func := "loop.example/g01151/laws.FnExactPartnerOf", spec := "fnExactPartnerOf", apart := false, narrowed := true }
def FnExactPartnerOfUptoSaid : Prop := fnExactPartnerOfUptoRow.holds Try.pinned (OpenSpec.upto fnExactPartnerOfSpec)

/-- 'laws.FnExactTurnsOf', WHERE WHAT IT READS IS OF BULK AT MOST 1048576: true; the input reads as it did. -/
def fnExactTurnsOfUptoRow : OpenClaim := { program := "ytibahokfomihbaa", sum := "f7c6f45b9b8227983fd5a99203f59343315c8fe9c6ab7bab5ce27099c0586bd5", func := "loop.example/g01151/laws.FnExactTurnsOf", spec := "fnExactTurnsOf", apart := false, narrowed := true }
def FnExactTurnsOfUptoSaid : Prop := fnExactTurnsOfUptoRow.holds Try.pinned (OpenSpec.upto fnExactTurnsOfSpec)

end Rows
end Go.Proofs.Ytibahokfomihbaa
