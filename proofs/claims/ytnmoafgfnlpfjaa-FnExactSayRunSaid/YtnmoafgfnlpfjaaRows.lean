/-
  No cell of these rows narrows 'for every input' (looked for: loops, veiled, ifaces, maps, wideKeys, modest, calm, conditions, laid).
  DERIVED. THE GIVEN ROWS OF THIS SEAT. 4 by the template 'for every input the law returns true; each argument reads behind the call as it read before'; 0 by the template 'total and deterministic' (their statements: YtnmoafgfnlpfjaaTotals.lean).
  GIVEN WITH THE SEED: the statements are not yours to turn. If you find one false, say at which input.
  Laid BY PROGRAM, IN A SANDBOX (cutbox-rows.mjs): the forced cells as the released guide's own fill.sh prints them over the translation 44c02ddb24dce003… (all of the seat's roots in one cut). By AI agents, Wed Nov 11 2026. No macro, syntax, notation, axiom, sorry.
-/
import Derived.Test.YtnmoafgfnlpfjaaChecked
import GoSem.Claim
import GoSem.ClaimJoined
import GoSem.ClaimMapViews
import Derived.JoinedTies
import Derived.KernelRfl
namespace Go.Proofs.Ytnmoafgfnlpfjaa
/- THE CELL 'sum', in the pinned program and in every row, IS THE sha256 OF THE DUMP (.gsa) THAT YtnmoafgfnlpfjaaProg.lean LOADS. Nothing in Lean hashes anything: it is a label: what it is worth is what the hold of that sum in a sandbox is worth. -/
noncomputable def Try.pinned : Pinned := { name := "ytnmoafgfnlpfjaa", sum := "44c02ddb24dce0039f3fe92d7e4fa44ccfd28dcbb02df6ca1fe42f5878475ed3", checked := Try.checked }
namespace Rows
def none {H : Type} : Left H := { results := [], args := [] }

/-- 'laws.FnExactNoSources': WHATEVER THE INPUT: true; the input reads as it did. -/
def fnExactNoSourcesSpec : ChangeSpec := { name := "fnExactNoSources", fn := fun _ => fun
  | [d] => { results := [.lit (.bool true)], args := [d] }
  | _ => none }
def fnExactNoSourcesRow : OpenClaim := { program := "ytnmoafgfnlpfjaa", sum := "44c02ddb24dce0039f3fe92d7e4fa44ccfd28dcbb02df6ca1fe42f5878475ed3", func := "loop.example/g01151/laws.FnExactNoSources", spec := "fnExactNoSources", apart := false }
def FnExactNoSourcesSaid : Prop := fnExactNoSourcesRow.holds Try.pinned (OpenSpec.ofChange fnExactNoSourcesSpec)

/-- ITS FALSE NEIGHBOUR: 'it returns false'. Refute it at one input. -/
def fnExactNoSourcesWrong : ChangeSpec := { name := "fnExactNoSources", fn := fun _ => fun
  | [d] => { results := [.lit (.bool false)], args := [d] }
  | _ => none }
def FnExactNoSourcesWrongFalsely : Prop := fnExactNoSourcesRow.holds Try.pinned (OpenSpec.ofChange fnExactNoSourcesWrong)

/-- 'laws.FnExactPairsUpTo': WHATEVER THE INPUT: true; the input reads as it did. -/
def fnExactPairsUpToSpec : ChangeSpec := { name := "fnExactPairsUpTo", fn := fun _ => fun
  | [d] => { results := [.lit (.bool true)], args := [d] }
  | _ => none }
def fnExactPairsUpToRow : OpenClaim := { program := "ytnmoafgfnlpfjaa", sum := "44c02ddb24dce0039f3fe92d7e4fa44ccfd28dcbb02df6ca1fe42f5878475ed3", func := "loop.example/g01151/laws.FnExactPairsUpTo", spec := "fnExactPairsUpTo", apart := false }
def FnExactPairsUpToSaid : Prop := fnExactPairsUpToRow.holds Try.pinned (OpenSpec.ofChange fnExactPairsUpToSpec)

/-- ITS FALSE NEIGHBOUR: 'it returns false'. Refute it at one input. -/
def fnExactPairsUpToWrong : ChangeSpec := { name := "fnExactPairsUpTo", fn := fun _ => fun
  | [d] => { results := [.lit (.bool false)], args := [d] }
  | _ => none }
def FnExactPairsUpToWrongFalsely : Prop := fnExactPairsUpToRow.holds Try.pinned (OpenSpec.ofChange fnExactPairsUpToWrong)

/-- 'laws.FnExactLengthsOfSay': WHATEVER THE INPUT: true; the input reads as it did. -/
def fnExactLengthsOfSaySpec : ChangeSpec := { name := "fnExactLengthsOfSay", fn := fun _ => fun
  | [d1, d2] => { results := [.lit (.bool true)], args := [d1, d2] }
  | _ => none }
def fnExactLengthsOfSayRow : OpenClaim := { program := "ytnmoafgfnlpfjaa", sum := "44c02ddb24dce0039f3fe92d7e4fa44ccfd28dcbb02df6ca1fe42f5878475ed3", func := "loop.example/g01151/laws.FnExactLengthsOfSay", spec := "fnExactLengthsOfSay", unfollowed := true, recurses := true, apart := false }
def FnExactLengthsOfSaySaid : Prop := fnExactLengthsOfSayRow.holds Try.pinned (OpenSpec.ofChange fnExactLengthsOfSaySpec)

/-- ITS FALSE NEIGHBOUR: 'it returns false'. Refute it at one input. -/
def fnExactLengthsOfSayWrong : ChangeSpec := { name := "fnExactLengthsOfSay", fn := fun _ => fun
  | [d1, d2] => { results := [.lit (.bool false)], args := [d1, d2] }
  | _ => none }
def FnExactLengthsOfSayWrongFalsely : Prop := fnExactLengthsOfSayRow.holds Try.pinned (OpenSpec.ofChange fnExactLengthsOfSayWrong)

/-- 'laws.FnExactSayRun': WHATEVER THE INPUT: true; the input reads as it did. -/
def fnExactSayRunSpec : ChangeSpec := { name := "fnExactSayRun", fn := fun _ => fun
  | [d1, d2] => { results := [.lit (.bool true)], args := [d1, d2] }
  | _ => none }
def fnExactSayRunRow : OpenClaim := { program := "ytnmoafgfnlpfjaa", sum := "44c02ddb24dce0039f3fe92d7e4fa44ccfd28dcbb02df6ca1fe42f5878475ed3", func := "loop.example/g01151/laws.FnExactSayRun", spec := "fnExactSayRun", unfollowed := true, recurses := true, apart := false }
def FnExactSayRunSaid : Prop := fnExactSayRunRow.holds Try.pinned (OpenSpec.ofChange fnExactSayRunSpec)

/-- ITS FALSE NEIGHBOUR: 'it returns false'. Refute it at one input. -/
def fnExactSayRunWrong : ChangeSpec := { name := "fnExactSayRun", fn := fun _ => fun
  | [d1, d2] => { results := [.lit (.bool false)], args := [d1, d2] }
  | _ => none }
def FnExactSayRunWrongFalsely : Prop := fnExactSayRunRow.holds Try.pinned (OpenSpec.ofChange fnExactSayRunWrong)

/- THE SECOND FORM. 'bulk': how many values and letters a reading holds, each counted each time it is reached (what is shared counts as often as it is met; a slice's spare places count too). A statement '..UptoSaid' is the law's where the arguments, and the package variables that the reading takes, are together of bulk at most 1048576: NARROWER than '..Said'. Prove '..Said' where nothing that the law and all that it calls make is longer than what came in: it says more and counts as full. Else prove '..UptoSaid'. A law counts once. -/
mutual
def uptoBulk {H : Type} : DataW H → Nat
  | .lit (.string bytes) => bytes.length + 1
  | .lit _ => 1
  | .nil => 1
  | .ptr d => uptoBulk d + 1
  | .slice elems spare => uptoBulkAll elems + uptoBulkAll spare + 1
  | .agg parts => uptoBulkAll parts + 1
  | .iface _ d => uptoBulk d + 1
  | .map entries => uptoBulkEntries entries + 1
  | .held _ => 1
def uptoBulkAll {H : Type} : List (DataW H) → Nat
  | [] => 0
  | d :: r => uptoBulk d + uptoBulkAll r
def uptoBulkEntries {H : Type} : List (Lit × DataW H) → Nat
  | [] => 0
  | x :: r => uptoBulkEntry x + uptoBulkEntries r
def uptoBulkEntry {H : Type} : Lit × DataW H → Nat
  | (.string bytes, d) => bytes.length + uptoBulk d + 1
  | (_, d) => uptoBulk d + 1
 end
def uptoSmall : (H : Type) → List (DataW H) → Bool := fun _ ds => decide (uptoBulkAll ds ≤ 1048576)
def OpenSpec.upto (s : _root_.Go.ChangeSpec) : _root_.Go.OpenSpec := { _root_.Go.OpenSpec.ofChange s with cond := some uptoSmall }

/-- 'laws.FnExactNoSources', WHERE WHAT IT READS IS OF BULK AT MOST 1048576: true; the input reads as it did. -/
def fnExactNoSourcesUptoRow : OpenClaim := { program := "ytnmoafgfnlpfjaa", sum := "44c02ddb24dce0039f3fe92d7e4fa44ccfd28dcbb02df6ca1fe42f5878475ed3", func := "loop.example/g01151/laws.FnExactNoSources", spec := "fnExactNoSources", apart := false, narrowed := true }
def FnExactNoSourcesUptoSaid : Prop := fnExactNoSourcesUptoRow.holds Try.pinned (OpenSpec.upto fnExactNoSourcesSpec)

/-- 'laws.FnExactPairsUpTo', WHERE WHAT IT READS IS OF BULK AT MOST 1048576: true; the input reads as it did. -/
def fnExactPairsUpToUptoRow : OpenClaim := { program := "ytnmoafgfnlpfjaa", sum := "44c02ddb24dce0039f3fe92d7e4fa44ccfd28dcbb02df6ca1fe42f5878475ed3", func := "loop.example/g01151/laws.FnExactPairsUpTo", spec := "fnExactPairsUpTo", apart := false, narrowed := true }
def FnExactPairsUpToUptoSaid : Prop := fnExactPairsUpToUptoRow.holds Try.pinned (OpenSpec.upto fnExactPairsUpToSpec)

/-- 'laws.FnExactLengthsOfSay', WHERE WHAT IT READS IS OF BULK AT MOST 1048576: true; the input reads as it did. -/
def fnExactLengthsOfSayUptoRow : OpenClaim := { program := "ytnmoafgfnlpfjaa", sum := "44c02ddb24dce0039f3fe92d7e4fa44ccfd28dcbb02df6ca1fe42f5878475ed3", func := "loop.example/g01151/laws.FnExactLengthsOfSay", spec := "fnExactLengthsOfSay", unfollowed := true, recurses := true, apart := false, narrowed := true }
def FnExactLengthsOfSayUptoSaid : Prop := fnExactLengthsOfSayUptoRow.holds Try.pinned (OpenSpec.upto fnExactLengthsOfSaySpec)

/-- 'laws.FnExactSayRun', WHERE WHAT IT READS IS OF BULK AT MOST 1048576: true; the input reads as it did. -/
def fnExactSayRunUptoRow : OpenClaim := { program := "ytnmoafgfnlpfjaa", sum := "44c02ddb24dce0039f3fe92d7e4fa44ccfd28dcbb02df6ca1fe42f5878475ed3", func := "loop.example/g01151/laws.FnExactSayRun", spec := "fnExactSayRun", unfollowed := true, recurses := true, apart := false, narrowed := true }
def FnExactSayRunUptoSaid : Prop := fnExactSayRunUptoRow.holds Try.pinned (OpenSpec.upto fnExactSayRunSpec)

end Rows
end Go.Proofs.Ytnmoafgfnlpfjaa
