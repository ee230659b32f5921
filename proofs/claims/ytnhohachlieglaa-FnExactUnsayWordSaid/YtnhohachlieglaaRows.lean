/-
  No cell of these rows narrows 'for every input' (looked for: loops, veiled, ifaces, maps, wideKeys, modest, calm, conditions, laid).
  DERIVED. THE GIVEN ROWS OF THIS SEAT. 12 by the template 'for every input the law returns true; each argument reads behind the call as it read before'; 0 by the template 'total and deterministic' (their statements: YtnhohachlieglaaTotals.lean).
  GIVEN WITH THE SEED: the statements are not yours to turn. If you find one false, say at which input.
  Laid BY PROGRAM, IN A SANDBOX (cutbox-rows.mjs): the forced cells as the released guide's own fill.sh prints them over the translation 9d69e3e3495378ed… (all of the seat's roots in one cut). By AI agents, Wed Nov 11 2026. No macro, syntax, notation, axiom, sorry.
-/
import Derived.Test.YtnhohachlieglaaChecked
import GoSem.Claim
import GoSem.ClaimJoined
import GoSem.ClaimMapViews
import Derived.JoinedTies
import Derived.KernelRfl
namespace Go.Proofs.Ytnhohachlieglaa
/- THE CELL 'sum', in the pinned program and in every row, IS THE sha256 OF THE DUMP (.gsa) THAT YtnhohachlieglaaProg.lean LOADS. Nothing in Lean hashes anything: it is a label: what it is worth is what the hold of that sum in a sandbox is worth. -/
noncomputable def Try.pinned : Pinned := { name := "ytnhohachlieglaa", sum := "9d69e3e3495378ed56a6878f6f1d9e290bd059d98252e806755cb34b8201cae1", checked := Try.checked }
namespace Rows
def none {H : Type} : Left H := { results := [], args := [] }

/-- 'laws.FnExactFullPrimes': WHATEVER THE INPUT: true; the input reads as it did. -/
def fnExactFullPrimesSpec : ChangeSpec := { name := "fnExactFullPrimes", fn := fun _ => fun
  | [d1, d2] => { results := [.lit (.bool true)], args := [d1, d2] }
  | _ => none }
def fnExactFullPrimesRow : OpenClaim := { program := "ytnhohachlieglaa", sum := "9d69e3e3495378ed56a6878f6f1d9e290bd059d98252e806755cb34b8201cae1", func := "loop.example/g01151/laws.FnExactFullPrimes", spec := "fnExactFullPrimes", apart := false }
def FnExactFullPrimesSaid : Prop := fnExactFullPrimesRow.holds Try.pinned (OpenSpec.ofChange fnExactFullPrimesSpec)

/-- ITS FALSE NEIGHBOUR: 'it returns false'. Refute it at one input. -/
def fnExactFullPrimesWrong : ChangeSpec := { name := "fnExactFullPrimes", fn := fun _ => fun
  | [d1, d2] => { results := [.lit (.bool false)], args := [d1, d2] }
  | _ => none }
def FnExactFullPrimesWrongFalsely : Prop := fnExactFullPrimesRow.holds Try.pinned (OpenSpec.ofChange fnExactFullPrimesWrong)

/-- 'laws.FnExactRepetendOf': WHATEVER THE INPUT: true; the input reads as it did. -/
def fnExactRepetendOfSpec : ChangeSpec := { name := "fnExactRepetendOf", fn := fun _ => fun
  | [d1, d2, d3] => { results := [.lit (.bool true)], args := [d1, d2, d3] }
  | _ => none }
def fnExactRepetendOfRow : OpenClaim := { program := "ytnhohachlieglaa", sum := "9d69e3e3495378ed56a6878f6f1d9e290bd059d98252e806755cb34b8201cae1", func := "loop.example/g01151/laws.FnExactRepetendOf", spec := "fnExactRepetendOf", unfollowed := true, recurses := true, apart := false }
def FnExactRepetendOfSaid : Prop := fnExactRepetendOfRow.holds Try.pinned (OpenSpec.ofChange fnExactRepetendOfSpec)

/-- ITS FALSE NEIGHBOUR: 'it returns false'. Refute it at one input. -/
def fnExactRepetendOfWrong : ChangeSpec := { name := "fnExactRepetendOf", fn := fun _ => fun
  | [d1, d2, d3] => { results := [.lit (.bool false)], args := [d1, d2, d3] }
  | _ => none }
def FnExactRepetendOfWrongFalsely : Prop := fnExactRepetendOfRow.holds Try.pinned (OpenSpec.ofChange fnExactRepetendOfWrong)

/-- 'laws.FnExactSayWord': WHATEVER THE INPUT: true; the input reads as it did. -/
def fnExactSayWordSpec : ChangeSpec := { name := "fnExactSayWord", fn := fun _ => fun
  | [d] => { results := [.lit (.bool true)], args := [d] }
  | _ => none }
def fnExactSayWordRow : OpenClaim := { program := "ytnhohachlieglaa", sum := "9d69e3e3495378ed56a6878f6f1d9e290bd059d98252e806755cb34b8201cae1", func := "loop.example/g01151/laws.FnExactSayWord", spec := "fnExactSayWord", unfollowed := true, recurses := true, apart := false }
def FnExactSayWordSaid : Prop := fnExactSayWordRow.holds Try.pinned (OpenSpec.ofChange fnExactSayWordSpec)

/-- ITS FALSE NEIGHBOUR: 'it returns false'. Refute it at one input. -/
def fnExactSayWordWrong : ChangeSpec := { name := "fnExactSayWord", fn := fun _ => fun
  | [d] => { results := [.lit (.bool false)], args := [d] }
  | _ => none }
def FnExactSayWordWrongFalsely : Prop := fnExactSayWordRow.holds Try.pinned (OpenSpec.ofChange fnExactSayWordWrong)

/-- 'laws.FnExactSourcesOf': WHATEVER THE INPUT: true; the input reads as it did. -/
def fnExactSourcesOfSpec : ChangeSpec := { name := "fnExactSourcesOf", fn := fun _ => fun
  | [d] => { results := [.lit (.bool true)], args := [d] }
  | _ => none }
def fnExactSourcesOfRow : OpenClaim := { program := "ytnhohachlieglaa", sum := "9d69e3e3495378ed56a6878f6f1d9e290bd059d98252e806755cb34b8201cae1", func := "loop.example/g01151/laws.FnExactSourcesOf", spec := "fnExactSourcesOf", apart := false }
def FnExactSourcesOfSaid : Prop := fnExactSourcesOfRow.holds Try.pinned (OpenSpec.ofChange fnExactSourcesOfSpec)

/-- ITS FALSE NEIGHBOUR: 'it returns false'. Refute it at one input. -/
def fnExactSourcesOfWrong : ChangeSpec := { name := "fnExactSourcesOf", fn := fun _ => fun
  | [d] => { results := [.lit (.bool false)], args := [d] }
  | _ => none }
def FnExactSourcesOfWrongFalsely : Prop := fnExactSourcesOfRow.holds Try.pinned (OpenSpec.ofChange fnExactSourcesOfWrong)

/-- 'laws.FnExactNoSources': WHATEVER THE INPUT: true; the input reads as it did. -/
def fnExactNoSourcesSpec : ChangeSpec := { name := "fnExactNoSources", fn := fun _ => fun
  | [d] => { results := [.lit (.bool true)], args := [d] }
  | _ => none }
def fnExactNoSourcesRow : OpenClaim := { program := "ytnhohachlieglaa", sum := "9d69e3e3495378ed56a6878f6f1d9e290bd059d98252e806755cb34b8201cae1", func := "loop.example/g01151/laws.FnExactNoSources", spec := "fnExactNoSources", apart := false }
def FnExactNoSourcesSaid : Prop := fnExactNoSourcesRow.holds Try.pinned (OpenSpec.ofChange fnExactNoSourcesSpec)

/-- ITS FALSE NEIGHBOUR: 'it returns false'. Refute it at one input. -/
def fnExactNoSourcesWrong : ChangeSpec := { name := "fnExactNoSources", fn := fun _ => fun
  | [d] => { results := [.lit (.bool false)], args := [d] }
  | _ => none }
def FnExactNoSourcesWrongFalsely : Prop := fnExactNoSourcesRow.holds Try.pinned (OpenSpec.ofChange fnExactNoSourcesWrong)

/-- 'laws.FnExactUnsayWord': WHATEVER THE INPUT: true; the input reads as it did. -/
def fnExactUnsayWordSpec : ChangeSpec := { name := "fnExactUnsayWord", fn := fun _ => fun
  | [d] => { results := [.lit (.bool true)], args := [d] }
  | _ => none }
def fnExactUnsayWordRow : OpenClaim := { program := "ytnhohachlieglaa", sum := "9d69e3e3495378ed56a6878f6f1d9e290bd059d98252e806755cb34b8201cae1", func := "loop.example/g01151/laws.FnExactUnsayWord", spec := "fnExactUnsayWord", unfollowed := true, recurses := true, apart := false }
def FnExactUnsayWordSaid : Prop := fnExactUnsayWordRow.holds Try.pinned (OpenSpec.ofChange fnExactUnsayWordSpec)

/-- ITS FALSE NEIGHBOUR: 'it returns false'. Refute it at one input. -/
def fnExactUnsayWordWrong : ChangeSpec := { name := "fnExactUnsayWord", fn := fun _ => fun
  | [d] => { results := [.lit (.bool false)], args := [d] }
  | _ => none }
def FnExactUnsayWordWrongFalsely : Prop := fnExactUnsayWordRow.holds Try.pinned (OpenSpec.ofChange fnExactUnsayWordWrong)

/-- 'laws.FnExactCyclicOf': WHATEVER THE INPUT: true; the input reads as it did. -/
def fnExactCyclicOfSpec : ChangeSpec := { name := "fnExactCyclicOf", fn := fun _ => fun
  | [d1, d2] => { results := [.lit (.bool true)], args := [d1, d2] }
  | _ => none }
def fnExactCyclicOfRow : OpenClaim := { program := "ytnhohachlieglaa", sum := "9d69e3e3495378ed56a6878f6f1d9e290bd059d98252e806755cb34b8201cae1", func := "loop.example/g01151/laws.FnExactCyclicOf", spec := "fnExactCyclicOf", unfollowed := true, recurses := true, apart := false }
def FnExactCyclicOfSaid : Prop := fnExactCyclicOfRow.holds Try.pinned (OpenSpec.ofChange fnExactCyclicOfSpec)

/-- ITS FALSE NEIGHBOUR: 'it returns false'. Refute it at one input. -/
def fnExactCyclicOfWrong : ChangeSpec := { name := "fnExactCyclicOf", fn := fun _ => fun
  | [d1, d2] => { results := [.lit (.bool false)], args := [d1, d2] }
  | _ => none }
def FnExactCyclicOfWrongFalsely : Prop := fnExactCyclicOfRow.holds Try.pinned (OpenSpec.ofChange fnExactCyclicOfWrong)

/-- 'laws.FnExactProperRun': WHATEVER THE INPUT: true; the input reads as it did. -/
def fnExactProperRunSpec : ChangeSpec := { name := "fnExactProperRun", fn := fun _ => fun
  | [d1, d2] => { results := [.lit (.bool true)], args := [d1, d2] }
  | _ => none }
def fnExactProperRunRow : OpenClaim := { program := "ytnhohachlieglaa", sum := "9d69e3e3495378ed56a6878f6f1d9e290bd059d98252e806755cb34b8201cae1", func := "loop.example/g01151/laws.FnExactProperRun", spec := "fnExactProperRun", apart := false }
def FnExactProperRunSaid : Prop := fnExactProperRunRow.holds Try.pinned (OpenSpec.ofChange fnExactProperRunSpec)

/-- ITS FALSE NEIGHBOUR: 'it returns false'. Refute it at one input. -/
def fnExactProperRunWrong : ChangeSpec := { name := "fnExactProperRun", fn := fun _ => fun
  | [d1, d2] => { results := [.lit (.bool false)], args := [d1, d2] }
  | _ => none }
def FnExactProperRunWrongFalsely : Prop := fnExactProperRunRow.holds Try.pinned (OpenSpec.ofChange fnExactProperRunWrong)

/-- 'laws.FnExactHalvesOf': WHATEVER THE INPUT: true; the input reads as it did. -/
def fnExactHalvesOfSpec : ChangeSpec := { name := "fnExactHalvesOf", fn := fun _ => fun
  | [d1, d2, d3] => { results := [.lit (.bool true)], args := [d1, d2, d3] }
  | _ => none }
def fnExactHalvesOfRow : OpenClaim := { program := "ytnhohachlieglaa", sum := "9d69e3e3495378ed56a6878f6f1d9e290bd059d98252e806755cb34b8201cae1", func := "loop.example/g01151/laws.FnExactHalvesOf", spec := "fnExactHalvesOf", unfollowed := true, recurses := true, apart := false }
def FnExactHalvesOfSaid : Prop := fnExactHalvesOfRow.holds Try.pinned (OpenSpec.ofChange fnExactHalvesOfSpec)

/-- ITS FALSE NEIGHBOUR: 'it returns false'. Refute it at one input. -/
def fnExactHalvesOfWrong : ChangeSpec := { name := "fnExactHalvesOf", fn := fun _ => fun
  | [d1, d2, d3] => { results := [.lit (.bool false)], args := [d1, d2, d3] }
  | _ => none }
def FnExactHalvesOfWrongFalsely : Prop := fnExactHalvesOfRow.holds Try.pinned (OpenSpec.ofChange fnExactHalvesOfWrong)

/-- 'laws.FnExactSelfTelling': WHATEVER THE INPUT: true; the input reads as it did. -/
def fnExactSelfTellingSpec : ChangeSpec := { name := "fnExactSelfTelling", fn := fun _ => fun
  | [d] => { results := [.lit (.bool true)], args := [d] }
  | _ => none }
def fnExactSelfTellingRow : OpenClaim := { program := "ytnhohachlieglaa", sum := "9d69e3e3495378ed56a6878f6f1d9e290bd059d98252e806755cb34b8201cae1", func := "loop.example/g01151/laws.FnExactSelfTelling", spec := "fnExactSelfTelling", unfollowed := true, recurses := true, apart := false }
def FnExactSelfTellingSaid : Prop := fnExactSelfTellingRow.holds Try.pinned (OpenSpec.ofChange fnExactSelfTellingSpec)

/-- ITS FALSE NEIGHBOUR: 'it returns false'. Refute it at one input. -/
def fnExactSelfTellingWrong : ChangeSpec := { name := "fnExactSelfTelling", fn := fun _ => fun
  | [d] => { results := [.lit (.bool false)], args := [d] }
  | _ => none }
def FnExactSelfTellingWrongFalsely : Prop := fnExactSelfTellingRow.holds Try.pinned (OpenSpec.ofChange fnExactSelfTellingWrong)

/-- 'laws.FnExactPairsUpTo': WHATEVER THE INPUT: true; the input reads as it did. -/
def fnExactPairsUpToSpec : ChangeSpec := { name := "fnExactPairsUpTo", fn := fun _ => fun
  | [d] => { results := [.lit (.bool true)], args := [d] }
  | _ => none }
def fnExactPairsUpToRow : OpenClaim := { program := "ytnhohachlieglaa", sum := "9d69e3e3495378ed56a6878f6f1d9e290bd059d98252e806755cb34b8201cae1", func := "loop.example/g01151/laws.FnExactPairsUpTo", spec := "fnExactPairsUpTo", apart := false }
def FnExactPairsUpToSaid : Prop := fnExactPairsUpToRow.holds Try.pinned (OpenSpec.ofChange fnExactPairsUpToSpec)

/-- ITS FALSE NEIGHBOUR: 'it returns false'. Refute it at one input. -/
def fnExactPairsUpToWrong : ChangeSpec := { name := "fnExactPairsUpTo", fn := fun _ => fun
  | [d] => { results := [.lit (.bool false)], args := [d] }
  | _ => none }
def FnExactPairsUpToWrongFalsely : Prop := fnExactPairsUpToRow.holds Try.pinned (OpenSpec.ofChange fnExactPairsUpToWrong)

/-- 'laws.FnExactLengthsOfSay': WHATEVER THE INPUT: true; the input reads as it did. -/
def fnExactLengthsOfSaySpec : ChangeSpec := { name := "fnExactLengthsOfSay", fn := fun _ => fun
  | [d1, d2] => { results := [.lit (.bool true)], args := [d1, d2] }
  | _ => none }
def fnExactLengthsOfSayRow : OpenClaim := { program := "ytnhohachlieglaa", sum := "9d69e3e3495378ed56a6878f6f1d9e290bd059d98252e806755cb34b8201cae1", func := "loop.example/g01151/laws.FnExactLengthsOfSay", spec := "fnExactLengthsOfSay", unfollowed := true, recurses := true, apart := false }
def FnExactLengthsOfSaySaid : Prop := fnExactLengthsOfSayRow.holds Try.pinned (OpenSpec.ofChange fnExactLengthsOfSaySpec)

/-- ITS FALSE NEIGHBOUR: 'it returns false'. Refute it at one input. -/
def fnExactLengthsOfSayWrong : ChangeSpec := { name := "fnExactLengthsOfSay", fn := fun _ => fun
  | [d1, d2] => { results := [.lit (.bool false)], args := [d1, d2] }
  | _ => none }
def FnExactLengthsOfSayWrongFalsely : Prop := fnExactLengthsOfSayRow.holds Try.pinned (OpenSpec.ofChange fnExactLengthsOfSayWrong)

/- THE SECOND FORM. 'bulk': how many values and letters a reading holds, each counted each time it is reached (what is shared counts as often as it is met; a slice's spare places count too). A statement '..UptoSaid' is the law's where the arguments, and the package variables that the reading takes, are together of bulk at most 1048576: NARROWER than '..Said'. Prove '..Said' where nothing that the law and all that it calls make is longer than what came in: it says more and counts as full. Else prove '..UptoSaid'. A law counts once. -/
mutual
def uptoBulk {H : Type} : DataW H → Nat
  | .lit (.string bytes) => bytes.length + 1
  | .lit _ => 1
  | .nil => 1
  | .ptr d => uptoBulk d + 1
  | .slice elems spare => uptoBulkAll elems + uptoBulkAll spare + 1
  | .agg parts => uptoBulkAll parts + 1
  | .iface _ d => uptoBulk d + 1
  | .map entries => uptoBulkEntries entries + 1
  | .held _ => 1
def uptoBulkAll {H : Type} : List (DataW H) → Nat
  | [] => 0
  | d :: r => uptoBulk d + uptoBulkAll r
def uptoBulkEntries {H : Type} : List (Lit × DataW H) → Nat
  | [] => 0
  | x :: r => uptoBulkEntry x + uptoBulkEntries r
def uptoBulkEntry {H : Type} : Lit × DataW H → Nat
  | (.string bytes, d) => bytes.length + uptoBulk d + 1
  | (_, d) => uptoBulk d + 1
 end
def uptoSmall : (H : Type) → List (DataW H) → Bool := fun _ ds => decide (uptoBulkAll ds ≤ 1048576)
def OpenSpec.upto (s : _root_.Go.ChangeSpec) : _root_.Go.OpenSpec := { _root_.Go.OpenSpec.ofChange s with cond := some uptoSmall }

/-- 'laws.FnExactFullPrimes', WHERE WHAT IT READS IS OF BULK AT MOST 1048576: true; the input reads as it did. -/
def fnExactFullPrimesUptoRow : OpenClaim := { program := "ytnhohachlieglaa", sum := "9d69e3e3495378ed56a6878f6f1d9e290bd059d98252e806755cb34b8201cae1", func := "loop.example/g01151/laws.FnExactFullPrimes", spec := "fnExactFullPrimes", apart := false, narrowed := true }
def FnExactFullPrimesUptoSaid : Prop := fnExactFullPrimesUptoRow.holds Try.pinned (OpenSpec.upto fnExactFullPrimesSpec)

/-- 'laws.FnExactRepetendOf', WHERE WHAT IT READS IS OF BULK AT MOST 1048576: true; the input reads as it did. -/
def fnExactRepetendOfUptoRow : OpenClaim := { program := "ytnhohachlieglaa", sum := "9d69e3e3495378ed56a6878f6f1d9e290bd059d98252e806755cb34b8201cae1", func := "loop.example/g01151/laws.FnExactRepetendOf", spec := "fnExactRepetendOf", unfollowed := true, recurses := true, apart := false, narrowed := true }
def FnExactRepetendOfUptoSaid : Prop := fnExactRepetendOfUptoRow.holds Try.pinned (OpenSpec.upto fnExactRepetendOfSpec)

/-- 'laws.FnExactSayWord', WHERE WHAT IT READS IS OF BULK AT MOST 1048576: true; the input reads as it did. -/
def fnExactSayWordUptoRow : OpenClaim := { program := "ytnhohachlieglaa", sum := "9d69e3e3495378ed56a6878f6f1d9e290bd059d98252e806755cb34b8201cae1", func := "loop.example/g01151/laws.FnExactSayWord", spec := "fnExactSayWord", unfollowed := true, recurses := true, apart := false, narrowed := true }
def FnExactSayWordUptoSaid : Prop := fnExactSayWordUptoRow.holds Try.pinned (OpenSpec.upto fnExactSayWordSpec)

/-- 'laws.FnExactSourcesOf', WHERE WHAT IT READS IS OF BULK AT MOST 1048576: true; the input reads as it did. -/
def fnExactSourcesOfUptoRow : OpenClaim := { program := "ytnhohachlieglaa", sum := "9d69e3e3495378ed56a6878f6f1d9e290bd059d98252e806755cb34b8201cae1", func := "loop.example/g01151/laws.FnExactSourcesOf", spec := "fnExactSourcesOf", apart := false, narrowed := true }
def FnExactSourcesOfUptoSaid : Prop := fnExactSourcesOfUptoRow.holds Try.pinned (OpenSpec.upto fnExactSourcesOfSpec)

/-- 'laws.FnExactNoSources', WHERE WHAT IT READS IS OF BULK AT MOST 1048576: true; the input reads as it did. -/
def fnExactNoSourcesUptoRow : OpenClaim := { program := "ytnhohachlieglaa", sum := "9d69e3e3495378ed56a6878f6f1d9e290bd059d98252e806755cb34b8201cae1", func := "loop.example/g01151/laws.FnExactNoSources", spec := "fnExactNoSources", apart := false, narrowed := true }
def FnExactNoSourcesUptoSaid : Prop := fnExactNoSourcesUptoRow.holds Try.pinned (OpenSpec.upto fnExactNoSourcesSpec)

/-- 'laws.FnExactUnsayWord', WHERE WHAT IT READS IS OF BULK AT MOST 1048576: true; the input reads as it did. -/
def fnExactUnsayWordUptoRow : OpenClaim := { program := "ytnhohachlieglaa", sum := "9d69e3e3495378ed56a6878f6f1d9e290bd059d98252e806755cb34b8201cae1", func := "loop.example/g01151/laws.FnExactUnsayWord", spec := "fnExactUnsayWord", unfollowed := true, recurses := true, apart := false, narrowed := true }
def FnExactUnsayWordUptoSaid : Prop := fnExactUnsayWordUptoRow.holds Try.pinned (OpenSpec.upto fnExactUnsayWordSpec)

/-- 'laws.FnExactCyclicOf', WHERE WHAT IT READS IS OF BULK AT MOST 1048576: true; the input reads as it did. -/
def fnExactCyclicOfUptoRow : OpenClaim := { program := "ytnhohachlieglaa", sum := "9d69e3e3495378ed56a6878f6f1d9e290bd059d98252e806755cb34b8201cae1", func := "loop.example/g01151/laws.FnExactCyclicOf", spec := "fnExactCyclicOf", unfollowed := true, recurses := true, apart := false, narrowed := true }
def FnExactCyclicOfUptoSaid : Prop := fnExactCyclicOfUptoRow.holds Try.pinned (OpenSpec.upto fnExactCyclicOfSpec)

/-- 'laws.FnExactProperRun', WHERE WHAT IT READS IS OF BULK AT MOST 1048576: true; the input reads as it did. -/
def fnExactProperRunUptoRow : OpenClaim := { program := "ytnhohachlieglaa", sum := "9d69e3e3495378ed56a6878f6f1d9e290bd059d98252e806755cb34b8201cae1", func := "loop.example/g01151/laws.FnExactProperRun", spec := "fnExactProperRun", apart := false, narrowed := true }
def FnExactProperRunUptoSaid : Prop := fnExactProperRunUptoRow.holds Try.pinned (OpenSpec.upto fnExactProperRunSpec)

/-- 'laws.FnExactHalvesOf', WHERE WHAT IT READS IS OF BULK AT MOST 1048576: true; the input reads as it did. -/
def fnExactHalvesOfUptoRow : OpenClaim := { program := "ytnhohachlieglaa", sum := "9d69e3e3495378ed56a6878f6f1d9e290bd059d98252e806755cb34b8201cae1", func := "loop.example/g01151/laws.FnExactHalvesOf", spec := "fnExactHalvesOf", unfollowed := true, recurses := true, apart := false, narrowed := true }
def FnExactHalvesOfUptoSaid : Prop := fnExactHalvesOfUptoRow.holds Try.pinned (OpenSpec.upto fnExactHalvesOfSpec)

/-- 'laws.FnExactSelfTelling', WHERE WHAT IT READS IS OF BULK AT MOST 1048576: true; the input reads as it did. -/
def fnExactSelfTellingUptoRow : OpenClaim := { program := "ytnhohachlieglaa", sum := "9d69e3e3495378ed56a6878f6f1d9e290bd059d98252e806755cb34b8201cae1", func := "loop.example/g01151/laws.FnExactSelfTelling", spec := "fnExactSelfTelling", unfollowed := true, recurses := true, apart := false, narrowed := true }
def FnExactSelfTellingUptoSaid : Prop := fnExactSelfTellingUptoRow.holds Try.pinned (OpenSpec.upto fnExactSelfTellingSpec)

/-- 'laws.FnExactPairsUpTo', WHERE WHAT IT READS IS OF BULK AT MOST 1048576: true; the input reads as it did. -/
def fnExactPairsUpToUptoRow : OpenClaim := { program := "ytnhohachlieglaa", sum := "9d69e3e3495378ed56a6878f6f1d9e290bd059d98252e806755cb34b8201cae1", func := "loop.example/g01151/laws.FnExactPairsUpTo", spec := "fnExactPairsUpTo", apart := false, narrowed := true }
def FnExactPairsUpToUptoSaid : Prop := fnExactPairsUpToUptoRow.holds Try.pinned (OpenSpec.upto fnExactPairsUpToSpec)

/-- 'laws.FnExactLengthsOfSay', WHERE WHAT IT READS IS OF BULK AT MOST 1048576: true; the input reads as it did. -/
def fnExactLengthsOfSayUptoRow : OpenClaim := { program := "ytnhohachlieglaa", sum := "9d69e3e3495378ed56a6878f6f1d9e290bd059d98252e806755cb34b8201cae1", func := "loop.example/g01151/laws.FnExactLengthsOfSay", spec := "fnExactLengthsOfSay", unfollowed := true, recurses := true, apart := false, narrowed := true }
def FnExactLengthsOfSayUptoSaid : Prop := fnExactLengthsOfSayUptoRow.holds Try.pinned (OpenSpec.upto fnExactLengthsOfSaySpec)

end Rows
end Go.Proofs.Ytnhohachlieglaa
