-- out of the kit's print, turned by wip/own_print.py
import Derived.Test.YtiheocddlopfcaaRows
import Derived.Test.YtiheocddlopfcaaLawAFnPairsAndPerfect
import Derived.WalkKit
import Derived.ProofKit
import Derived.OpenShut
import Derived.ShutString
import Derived.ChangeOld
import Derived.Below
import Derived.SizedLaws
import Derived.Test.YtiheocddlopfcaaWSized
namespace Go.Proofs.Ytiheocddlopfcaa.fnPairsAndPerfect
open Go.ChangeShapes Go.WideShapes Go.ChangeAt Go.RowKit
open Go.ChangeMaps (open_string shut_string)
set_option linter.unusedVariables false
theorem over : Rows.fnPairsAndPerfectRow.holds Try.pinned (OpenSpec.ofChange Rows.fnPairsAndPerfectSpec) :=
  OpenClaim.holds_of_wide 3 Try.f3 rfl rfl rfl rfl rfl rfl rfl ⟨rfl, rfl, rfl, rfl, rfl⟩ rfl rfl rfl rfl rfl (by kernel_rfl) Try.func3 (by kernel_rfl)
    (of_decide_eq_true (by kernel_rfl)) (by unfold Func.isWrapper; first | (rw [if_pos (by decide +kernel)]; kernel_rfl) | (rw [if_neg (by decide +kernel)]; exact ⟨rfl, rfl⟩))
    (fun os started H enc _ => lifted os started H enc)
theorem proved : Rows.FnPairsAndPerfectSaid := over
#print axioms proved
end Go.Proofs.Ytiheocddlopfcaa.fnPairsAndPerfect
namespace Go.Proofs.Ytiheocddlopfcaa
/-- The row, under a short name, for the claim. -/
theorem fnPairsAndPerfect_holds : Rows.FnPairsAndPerfectSaid := fnPairsAndPerfect.proved
end Go.Proofs.Ytiheocddlopfcaa
