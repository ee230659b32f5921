/-
  No cell of these rows narrows 'for every input' (looked for: loops, veiled, ifaces, maps, wideKeys, modest, calm, conditions, laid).
  DERIVED. THE GIVEN ROWS OF THIS SEAT. 12 by the template 'for every input the law returns true; each argument reads behind the call as it read before'; 0 by the template 'total and deterministic' (their statements: YtikkpehjleoplaaTotals.lean).
  GIVEN WITH THE SEED: the statements are not yours to turn. If you find one false, say at which input.
  Laid BY PROGRAM, IN A SANDBOX (cutbox-rows.mjs): the forced cells as the released guide's own fill.sh prints them over the translation a21148ed357d793f… (all of the seat's roots in one cut). By AI agents, Wed Nov 11 2026. No macro, syntax, notation, axiom, sorry.
-/
import Derived.Test.YtikkpehjleoplaaChecked
import GoSem.Claim
import GoSem.ClaimJoined
import GoSem.ClaimMapViews
import Derived.JoinedTies
import Derived.KernelRfl
namespace Go.Proofs.Ytikkpehjleoplaa
/- THE CELL 'sum', in the pinned program and in every row, IS THE sha256 OF THE DUMP (.gsa) THAT YtikkpehjleoplaaProg.lean LOADS. Nothing in Lean hashes anything: it is a label: what it is worth is what the hold of that sum in a sandbox is worth. -/
noncomputable def Try.pinned : Pinned := { name := "ytikkpehjleoplaa", sum := "a21148ed357d793f600002fa8be06640e60ba6f89f31fae506a38ac25fcad7c2", checked := Try.checked }
namespace Rows
def none {H : Type} : Left H := { results := [], args := [] }

/-- 'laws.FnExactSayRun': WHATEVER THE INPUT: true; the input reads as it did. -/
def fnExactSayRunSpec : ChangeSpec := { name := "fnExactSayRun", fn := fun _ => fun
  | [d1, d2] => { results := [.lit (.bool true)], args := [d1, d2] }
  | _ => none }
def fnExactSayRunRow : OpenClaim := { program := "ytikkpehjleoplaa", sum := "a21148ed357d793f600002fa8be06640e60ba6f89f31fae506a38ac25fcad7c2", func := "loop.example/g01151/laws.FnExactSayRun", spec := "fnExactSayRun", unfollowed := true, recurses := true, apart := false }
def FnExactSayRunSaid : Prop := fnExactSayRunRow.holds Try.pinned (OpenSpec.ofChange fnExactSayRunSpec)

/-- ITS FALSE NEIGHBOUR: 'it returns false'. Refute it at one input. -/
def fnExactSayRunWrong : ChangeSpec := { name := "fnExactSayRun", fn := fun _ => fun
  | [d1, d2] => { results := [.lit (.bool false)], args := [d1, d2] }
  | _ => none }
def FnExactSayRunWrongFalsely : Prop := fnExactSayRunRow.holds Try.pinned (OpenSpec.ofChange fnExactSayRunWrong)

/-- 'laws.FnExactEndOfRun': WHATEVER THE INPUT: true; the input reads as it did. -/
def fnExactEndOfRunSpec : ChangeSpec := { name := "fnExactEndOfRun", fn := fun _ => fun
  | [d1, d2] => { results := [.lit (.bool true)], args := [d1, d2] }
  | _ => none }
def fnExactEndOfRunRow : OpenClaim := { program := "ytikkpehjleoplaa", sum := "a21148ed357d793f600002fa8be06640e60ba6f89f31fae506a38ac25fcad7c2", func := "loop.example/g01151/laws.FnExactEndOfRun", spec := "fnExactEndOfRun", apart := false }
def FnExactEndOfRunSaid : Prop := fnExactEndOfRunRow.holds Try.pinned (OpenSpec.ofChange fnExactEndOfRunSpec)

/-- ITS FALSE NEIGHBOUR: 'it returns false'. Refute it at one input. -/
def fnExactEndOfRunWrong : ChangeSpec := { name := "fnExactEndOfRun", fn := fun _ => fun
  | [d1, d2] => { results := [.lit (.bool false)], args := [d1, d2] }
  | _ => none }
def FnExactEndOfRunWrongFalsely : Prop := fnExactEndOfRunRow.holds Try.pinned (OpenSpec.ofChange fnExactEndOfRunWrong)

/-- 'laws.FnSelfTellingLists': WHATEVER THE INPUT: true; the input reads as it did. -/
def fnSelfTellingListsSpec : ChangeSpec := { name := "fnSelfTellingLists", fn := fun _ => fun
  | [d1, d2] => { results := [.lit (.bool true)], args := [d1, d2] }
  | _ => none }
def fnSelfTellingListsRow : OpenClaim := { program := "ytikkpehjleoplaa", sum := "a21148ed357d793f600002fa8be06640e60ba6f89f31fae506a38ac25fcad7c2", func := "loop.example/g01151/laws.FnSelfTellingLists", spec := "fnSelfTellingLists", unfollowed := true, recurses := true, apart := false }
def FnSelfTellingListsSaid : Prop := fnSelfTellingListsRow.holds Try.pinned (OpenSpec.ofChange fnSelfTellingListsSpec)

/-- ITS FALSE NEIGHBOUR: 'it returns false'. Refute it at one input. -/
def fnSelfTellingListsWrong : ChangeSpec := { name := "fnSelfTellingLists", fn := fun _ => fun
  | [d1, d2] => { results := [.lit (.bool false)], args := [d1, d2] }
  | _ => none }
def FnSelfTellingListsWrongFalsely : Prop := fnSelfTellingListsRow.holds Try.pinned (OpenSpec.ofChange fnSelfTellingListsWrong)

/-- 'laws.FnDivisorsSum': WHATEVER THE INPUT: true; the input reads as it did. -/
def fnDivisorsSumSpec : ChangeSpec := { name := "fnDivisorsSum", fn := fun _ => fun
  | [d1, d2] => { results := [.lit (.bool true)], args := [d1, d2] }
  | _ => none }
def fnDivisorsSumRow : OpenClaim := { program := "ytikkpehjleoplaa", sum := "a21148ed357d793f600002fa8be06640e60ba6f89f31fae506a38ac25fcad7c2", func := "loop.example/g01151/laws.FnDivisorsSum", spec := "fnDivisorsSum", apart := false }
def FnDivisorsSumSaid : Prop := fnDivisorsSumRow.holds Try.pinned (OpenSpec.ofChange fnDivisorsSumSpec)

/-- ITS FALSE NEIGHBOUR: 'it returns false'. Refute it at one input. -/
def fnDivisorsSumWrong : ChangeSpec := { name := "fnDivisorsSum", fn := fun _ => fun
  | [d1, d2] => { results := [.lit (.bool false)], args := [d1, d2] }
  | _ => none }
def FnDivisorsSumWrongFalsely : Prop := fnDivisorsSumRow.holds Try.pinned (OpenSpec.ofChange fnDivisorsSumWrong)

/-- 'laws.FnNumbersByDigits': WHATEVER THE INPUT: true; the input reads as it did. -/
def fnNumbersByDigitsSpec : ChangeSpec := { name := "fnNumbersByDigits", fn := fun _ => fun
  | [d1, d2] => { results := [.lit (.bool true)], args := [d1, d2] }
  | _ => none }
def fnNumbersByDigitsRow : OpenClaim := { program := "ytikkpehjleoplaa", sum := "a21148ed357d793f600002fa8be06640e60ba6f89f31fae506a38ac25fcad7c2", func := "loop.example/g01151/laws.FnNumbersByDigits", spec := "fnNumbersByDigits", apart := false }
def FnNumbersByDigitsSaid : Prop := fnNumbersByDigitsRow.holds Try.pinned (OpenSpec.ofChange fnNumbersByDigitsSpec)

/-- ITS FALSE NEIGHBOUR: 'it returns false'. Refute it at one input. -/
def fnNumbersByDigitsWrong : ChangeSpec := { name := "fnNumbersByDigits", fn := fun _ => fun
  | [d1, d2] => { results := [.lit (.bool false)], args := [d1, d2] }
  | _ => none }
def FnNumbersByDigitsWrongFalsely : Prop := fnNumbersByDigitsRow.holds Try.pinned (OpenSpec.ofChange fnNumbersByDigitsWrong)

/-- 'laws.FnPeriodsOfFractions': WHATEVER THE INPUT: true; the input reads as it did. -/
def fnPeriodsOfFractionsSpec : ChangeSpec := { name := "fnPeriodsOfFractions", fn := fun _ => fun
  | [d1, d2] => { results := [.lit (.bool true)], args := [d1, d2] }
  | _ => none }
def fnPeriodsOfFractionsRow : OpenClaim := { program := "ytikkpehjleoplaa", sum := "a21148ed357d793f600002fa8be06640e60ba6f89f31fae506a38ac25fcad7c2", func := "loop.example/g01151/laws.FnPeriodsOfFractions", spec := "fnPeriodsOfFractions", unfollowed := true, recurses := true, apart := false }
def FnPeriodsOfFractionsSaid : Prop := fnPeriodsOfFractionsRow.holds Try.pinned (OpenSpec.ofChange fnPeriodsOfFractionsSpec)

/-- ITS FALSE NEIGHBOUR: 'it returns false'. Refute it at one input. -/
def fnPeriodsOfFractionsWrong : ChangeSpec := { name := "fnPeriodsOfFractions", fn := fun _ => fun
  | [d1, d2] => { results := [.lit (.bool false)], args := [d1, d2] }
  | _ => none }
def FnPeriodsOfFractionsWrongFalsely : Prop := fnPeriodsOfFractionsRow.holds Try.pinned (OpenSpec.ofChange fnPeriodsOfFractionsWrong)

/-- 'laws.FnExactCircleOf': WHATEVER THE INPUT: true; the input reads as it did. -/
def fnExactCircleOfSpec : ChangeSpec := { name := "fnExactCircleOf", fn := fun _ => fun
  | [d1, d2] => { results := [.lit (.bool true)], args := [d1, d2] }
  | _ => none }
def fnExactCircleOfRow : OpenClaim := { program := "ytikkpehjleoplaa", sum := "a21148ed357d793f600002fa8be06640e60ba6f89f31fae506a38ac25fcad7c2", func := "loop.example/g01151/laws.FnExactCircleOf", spec := "fnExactCircleOf", apart := false }
def FnExactCircleOfSaid : Prop := fnExactCircleOfRow.holds Try.pinned (OpenSpec.ofChange fnExactCircleOfSpec)

/-- ITS FALSE NEIGHBOUR: 'it returns false'. Refute it at one input. -/
def fnExactCircleOfWrong : ChangeSpec := { name := "fnExactCircleOf", fn := fun _ => fun
  | [d1, d2] => { results := [.lit (.bool false)], args := [d1, d2] }
  | _ => none }
def FnExactCircleOfWrongFalsely : Prop := fnExactCircleOfRow.holds Try.pinned (OpenSpec.ofChange fnExactCircleOfWrong)

/-- 'laws.FnSumsOfDigitsRun': WHATEVER THE INPUT: true; the input reads as it did. -/
def fnSumsOfDigitsRunSpec : ChangeSpec := { name := "fnSumsOfDigitsRun", fn := fun _ => fun
  | [d1, d2] => { results := [.lit (.bool true)], args := [d1, d2] }
  | _ => none }
def fnSumsOfDigitsRunRow : OpenClaim := { program := "ytikkpehjleoplaa", sum := "a21148ed357d793f600002fa8be06640e60ba6f89f31fae506a38ac25fcad7c2", func := "loop.example/g01151/laws.FnSumsOfDigitsRun", spec := "fnSumsOfDigitsRun", unfollowed := true, recurses := true, apart := false }
def FnSumsOfDigitsRunSaid : Prop := fnSumsOfDigitsRunRow.holds Try.pinned (OpenSpec.ofChange fnSumsOfDigitsRunSpec)

/-- ITS FALSE NEIGHBOUR: 'it returns false'. Refute it at one input. -/
def fnSumsOfDigitsRunWrong : ChangeSpec := { name := "fnSumsOfDigitsRun", fn := fun _ => fun
  | [d1, d2] => { results := [.lit (.bool false)], args := [d1, d2] }
  | _ => none }
def FnSumsOfDigitsRunWrongFalsely : Prop := fnSumsOfDigitsRunRow.holds Try.pinned (OpenSpec.ofChange fnSumsOfDigitsRunWrong)

/-- 'laws.FnParityWords': WHATEVER THE INPUT: true; the input reads as it did. -/
def fnParityWordsSpec : ChangeSpec := { name := "fnParityWords", fn := fun _ => fun
  | [d1, d2] => { results := [.lit (.bool true)], args := [d1, d2] }
  | _ => none }
def fnParityWordsRow : OpenClaim := { program := "ytikkpehjleoplaa", sum := "a21148ed357d793f600002fa8be06640e60ba6f89f31fae506a38ac25fcad7c2", func := "loop.example/g01151/laws.FnParityWords", spec := "fnParityWords", recurses := true, apart := false }
def FnParityWordsSaid : Prop := fnParityWordsRow.holds Try.pinned (OpenSpec.ofChange fnParityWordsSpec)

/-- ITS FALSE NEIGHBOUR: 'it returns false'. Refute it at one input. -/
def fnParityWordsWrong : ChangeSpec := { name := "fnParityWords", fn := fun _ => fun
  | [d1, d2] => { results := [.lit (.bool false)], args := [d1, d2] }
  | _ => none }
def FnParityWordsWrongFalsely : Prop := fnParityWordsRow.holds Try.pinned (OpenSpec.ofChange fnParityWordsWrong)

/-- 'laws.FnCyclicNumbers': WHATEVER THE INPUT: true; the input reads as it did. -/
def fnCyclicNumbersSpec : ChangeSpec := { name := "fnCyclicNumbers", fn := fun _ => fun
  | [d1, d2] => { results := [.lit (.bool true)], args := [d1, d2] }
  | _ => none }
def fnCyclicNumbersRow : OpenClaim := { program := "ytikkpehjleoplaa", sum := "a21148ed357d793f600002fa8be06640e60ba6f89f31fae506a38ac25fcad7c2", func := "loop.example/g01151/laws.FnCyclicNumbers", spec := "fnCyclicNumbers", unfollowed := true, recurses := true, apart := false }
def FnCyclicNumbersSaid : Prop := fnCyclicNumbersRow.holds Try.pinned (OpenSpec.ofChange fnCyclicNumbersSpec)

/-- ITS FALSE NEIGHBOUR: 'it returns false'. Refute it at one input. -/
def fnCyclicNumbersWrong : ChangeSpec := { name := "fnCyclicNumbers", fn := fun _ => fun
  | [d1, d2] => { results := [.lit (.bool false)], args := [d1, d2] }
  | _ => none }
def FnCyclicNumbersWrongFalsely : Prop := fnCyclicNumbersRow.holds Try.pinned (OpenSpec.ofChange fnCyclicNumbersWrong)

/-- 'laws.FnPalindromes': WHATEVER THE INPUT: true; the input reads as it did. -/
def fnPalindromesSpec : ChangeSpec := { name := "fnPalindromes", fn := fun _ => fun
  | [d1, d2] => { results := [.lit (.bool true)], args := [d1, d2] }
  | _ => none }
def fnPalindromesRow : OpenClaim := { program := "ytikkpehjleoplaa", sum := "a21148ed357d793f600002fa8be06640e60ba6f89f31fae506a38ac25fcad7c2", func := "loop.example/g01151/laws.FnPalindromes", spec := "fnPalindromes", apart := false }
def FnPalindromesSaid : Prop := fnPalindromesRow.holds Try.pinned (OpenSpec.ofChange fnPalindromesSpec)

/-- ITS FALSE NEIGHBOUR: 'it returns false'. Refute it at one input. -/
def fnPalindromesWrong : ChangeSpec := { name := "fnPalindromes", fn := fun _ => fun
  | [d1, d2] => { results := [.lit (.bool false)], args := [d1, d2] }
  | _ => none }
def FnPalindromesWrongFalsely : Prop := fnPalindromesRow.holds Try.pinned (OpenSpec.ofChange fnPalindromesWrong)

/-- 'laws.FnHappyCounted': WHATEVER THE INPUT: true; the input reads as it did. -/
def fnHappyCountedSpec : ChangeSpec := { name := "fnHappyCounted", fn := fun _ => fun
  | [d1, d2] => { results := [.lit (.bool true)], args := [d1, d2] }
  | _ => none }
def fnHappyCountedRow : OpenClaim := { program := "ytikkpehjleoplaa", sum := "a21148ed357d793f600002fa8be06640e60ba6f89f31fae506a38ac25fcad7c2", func := "loop.example/g01151/laws.FnHappyCounted", spec := "fnHappyCounted", unfollowed := true, recurses := true, apart := false }
def FnHappyCountedSaid : Prop := fnHappyCountedRow.holds Try.pinned (OpenSpec.ofChange fnHappyCountedSpec)

/-- ITS FALSE NEIGHBOUR: 'it returns false'. Refute it at one input. -/
def fnHappyCountedWrong : ChangeSpec := { name := "fnHappyCounted", fn := fun _ => fun
  | [d1, d2] => { results := [.lit (.bool false)], args := [d1, d2] }
  | _ => none }
def FnHappyCountedWrongFalsely : Prop := fnHappyCountedRow.holds Try.pinned (OpenSpec.ofChange fnHappyCountedWrong)

/- THE SECOND FORM. 'bulk': how many values and letters a reading holds, each counted each time it is reached (what is shared counts as often as it is met; a slice's spare places count too). A statement '..UptoSaid' is the law's where the arguments, and the package variables that the reading takes, are together of bulk at most 1048576: NARROWER than '..Said'. Prove '..Said' where nothing that the law and all that it calls make is longer than what came in: it says more and counts as full. Else prove '..UptoSaid'. A law counts once. -/
mutual
def uptoBulk {H : Type} : DataW H → Nat
  | .lit (.string bytes) => bytes.length + 1
  | .lit _ => 1
  | .nil => 1
  | .ptr d => uptoBulk d + 1
  | .slice elems spare => uptoBulkAll elems + uptoBulkAll spare + 1
  | .agg parts => uptoBulkAll parts + 1
  | .iface _ d => uptoBulk d + 1
  | .map entries => uptoBulkEntries entries + 1
  | .held _ => 1
def uptoBulkAll {H : Type} : List (DataW H) → Nat
  | [] => 0
  | d :: r => uptoBulk d + uptoBulkAll r
def uptoBulkEntries {H : Type} : List (Lit × DataW H) → Nat
  | [] => 0
  | x :: r => uptoBulkEntry x + uptoBulkEntries r
def uptoBulkEntry {H : Type} : Lit × DataW H → Nat
  | (.string bytes, d) => bytes.length + uptoBulk d + 1
  | (_, d) => uptoBulk d + 1
 end
def uptoSmall : (H : Type) → List (DataW H) → Bool := fun _ ds => decide (uptoBulkAll ds ≤ 1048576)
def OpenSpec.upto (s : _root_.Go.ChangeSpec) : _root_.Go.OpenSpec := { _root_.Go.OpenSpec.ofChange s with cond := some uptoSmall }

/-- 'laws.FnExactSayRun', WHERE WHAT IT READS IS OF BULK AT MOST 1048576: true; the input reads as it did. -/
def fnExactSayRunUptoRow : OpenClaim := { program := "ytikkpehjleoplaa", sum := "a21148ed357d793f600002fa8be06640e60ba6f89f31fae506a38ac25fcad7c2", func := "loop.example/g01151/laws.FnExactSayRun", spec := "fnExactSayRun", unfollowed := true, recurses := true, apart := false, narrowed := true }
def FnExactSayRunUptoSaid : Prop := fnExactSayRunUptoRow.holds Try.pinned (OpenSpec.upto fnExactSayRunSpec)

/-- 'laws.FnExactEndOfRun', WHERE WHAT IT READS IS OF BULK AT MOST 1048576: true; the input reads as it did. -/
def fnExactEndOfRunUptoRow : OpenClaim := { program := "ytikkpehjleoplaa", sum := "a21148ed357d793f600002fa8be06640e60ba6f89f31fae506a38ac25fcad7c2", func := "loop.example/g01151/laws.FnExactEndOfRun", spec := "fnExactEndOfRun", apart := false, narrowed := true }
def FnExactEndOfRunUptoSaid : Prop := fnExactEndOfRunUptoRow.holds Try.pinned (OpenSpec.upto fnExactEndOfRunSpec)

/-- 'laws.FnSelfTellingLists', WHERE WHAT IT READS IS OF BULK AT MOST 1048576: true; the input reads as it did. -/
def fnSelfTellingListsUptoRow : OpenClaim := { program := "ytikkpehjleoplaa", sum := "a21148ed357d793f600002fa8be06640e60ba6f89f31fae506a38ac25fcad7c2", func := "loop.example/g01151/laws.FnSelfTellingLists", spec := "fnSelfTellingLists", unfollowed := true, recurses := true, apart := false, narrowed := true }
def FnSelfTellingListsUptoSaid : Prop := fnSelfTellingListsUptoRow.holds Try.pinned (OpenSpec.upto fnSelfTellingListsSpec)

/-- 'laws.FnDivisorsSum', WHERE WHAT IT READS IS OF BULK AT MOST 1048576: true; the input reads as it did. -/
def fnDivisorsSumUptoRow : OpenClaim := { program := "ytikkpehjleoplaa", sum := "a21148ed357d793f600002fa8be06640e60ba6f89f31fae506a38ac25fcad7c2", func := "loop.example/g01151/laws.FnDivisorsSum", spec := "fnDivisorsSum", apart := false, narrowed := true }
def FnDivisorsSumUptoSaid : Prop := fnDivisorsSumUptoRow.holds Try.pinned (OpenSpec.upto fnDivisorsSumSpec)

/-- 'laws.FnNumbersByDigits', WHERE WHAT IT READS IS OF BULK AT MOST 1048576: true; the input reads as it did. -/
def fnNumbersByDigitsUptoRow : OpenClaim := { program := "ytikkpehjleoplaa", sum := "a21148ed357d793f600002fa8be06640e60ba6f89f31fae506a38ac25fcad7c2", func := "loop.example/g01151/laws.FnNumbersByDigits", spec := "fnNumbersByDigits", apart := false, narrowed := true }
def FnNumbersByDigitsUptoSaid : Prop := fnNumbersByDigitsUptoRow.holds Try.pinned (OpenSpec.upto fnNumbersByDigitsSpec)

/-- 'laws.FnPeriodsOfFractions', WHERE WHAT IT READS IS OF BULK AT MOST 1048576: true; the input reads as it did. -/
def fnPeriodsOfFractionsUptoRow : OpenClaim := { program := "ytikkpehjleoplaa", sum := "a21148ed357d793f600002fa8be06640e60ba6f89f31fae506a38ac25fcad7c2", func := "loop.example/g01151/laws.FnPeriodsOfFractions", spec := "fnPeriodsOfFractions", unfollowed := true, recurses := true, apart := false, narrowed := true }
def FnPeriodsOfFractionsUptoSaid : Prop := fnPeriodsOfFractionsUptoRow.holds Try.pinned (OpenSpec.upto fnPeriodsOfFractionsSpec)

/-- 'laws.FnExactCircleOf', WHERE WHAT IT READS IS OF BULK AT MOST 1048576: true; the input reads as it did. -/
def fnExactCircleOfUptoRow : OpenClaim := { program := "ytikkpehjleoplaa", sum := "a21148ed357d793f600002fa8be06640e60ba6f89f31fae506a38ac25fcad7c2", func := "loop.example/g01151/laws.FnExactCircleOf", spec := "fnExactCircleOf", apart := false, narrowed := true }
def FnExactCircleOfUptoSaid : Prop := fnExactCircleOfUptoRow.holds Try.pinned (OpenSpec.upto fnExactCircleOfSpec)

/-- 'laws.FnSumsOfDigitsRun', WHERE WHAT IT READS IS OF BULK AT MOST 1048576: true; the input reads as it did. -/
def fnSumsOfDigitsRunUptoRow : OpenClaim := { program := "ytikkpehjleoplaa", sum := "a21148ed357d793f600002fa8be06640e60ba6f89f31fae506a38ac25fcad7c2", func := "loop.example/g01151/laws.FnSumsOfDigitsRun", spec := "fnSumsOfDigitsRun", unfollowed := true, recurses := true, apart := false, narrowed := true }
def FnSumsOfDigitsRunUptoSaid : Prop := fnSumsOfDigitsRunUptoRow.holds Try.pinned (OpenSpec.upto fnSumsOfDigitsRunSpec)

/-- 'laws.FnParityWords', WHERE WHAT IT READS IS OF BULK AT MOST 1048576: true; the input reads as it did. -/
def fnParityWordsUptoRow : OpenClaim := { program := "ytikkpehjleoplaa", sum := "a21148ed357d793f600002fa8be06640e60ba6f89f31fae506a38ac25fcad7c2", func := "loop.example/g01151/laws.FnParityWords", spec := "fnParityWords", recurses := true, apart := false, narrowed := true }
def FnParityWordsUptoSaid : Prop := fnParityWordsUptoRow.holds Try.pinned (OpenSpec.upto fnParityWordsSpec)

/-- 'laws.FnCyclicNumbers', WHERE WHAT IT READS IS OF BULK AT MOST 1048576: true; the input reads as it did. -/
def fnCyclicNumbersUptoRow : OpenClaim := { program := "ytikkpehjleoplaa", sum := "a21148ed357d793f600002fa8be06640e60ba6f89f31fae506a38ac25fcad7c2", func := "loop.example/g01151/laws.FnCyclicNumbers", spec := "fnCyclicNumbers", unfollowed := true, recurses := true, apart := false, narrowed := true }
def FnCyclicNumbersUptoSaid : Prop := fnCyclicNumbersUptoRow.holds Try.pinned (OpenSpec.upto fnCyclicNumbersSpec)

/-- 'laws.FnPalindromes', WHERE WHAT IT READS IS OF BULK AT MOST 1048576: true; the input reads as it did. -/
def fnPalindromesUptoRow : OpenClaim := { program := "ytikkpehjleoplaa", sum := "a21148ed357d793f600002fa8be06640e60ba6f89f31fae506a38ac25fcad7c2", func := "loop.example/g01151/laws.FnPalindromes", spec := "fnPalindromes", apart := false, narrowed := true }
def FnPalindromesUptoSaid : Prop := fnPalindromesUptoRow.holds Try.pinned (OpenSpec.upto fnPalindromesSpec)

/-- 'laws.FnHappyCounted', WHERE WHAT IT READS IS OF BULK AT MOST 1048576: true; the input reads as it did. -/
def fnHappyCountedUptoRow : OpenClaim := { program := "ytikkpehjleoplaa", sum := "a21148ed357d793f600002fa8be06640e60ba6f89f31fae506a38ac25fcad7c2", func := "loop.example/g01151/laws.FnHappyCounted", spec := "fnHappyCounted", unfollowed := true, recurses := true, apart := false, narrowed := true }
def FnHappyCountedUptoSaid : Prop := fnHappyCountedUptoRow.holds Try.pinned (OpenSpec.upto fnHappyCountedSpec)

end Rows
end Go.Proofs.Ytikkpehjleoplaa
