-- out of the kit's print, turned by wip/own_print.py
import Derived.Test.YtjkhgigmhmghbaaProg
import Derived.Below
import Derived.Deep.Draws
import Derived.Deep.AppendLies
import Derived.Maps.AppendAt
import Derived.OwnWalk
import Derived.Laws.BytesArg
import Derived.Laws.MakeOwn
import Derived.Laws.OwnMore
import Derived.Deep.OwnRows
import Derived.Tactics
import Derived.Lib.ConvBytes
import Derived.Laws.Slices
import Derived.WalkKit
import Derived.KernelRfl
import Derived.RowKit3
import Derived.Deep.LoopGhost
import Derived.Deep.QuietTactic
import Derived.BigQuiet
import Derived.WideLaws
import Derived.Deep.DeepCutAuto
import Derived.Deep.CutBlock
import Derived.Deep.RegionHeld3
import Derived.Laws.Rows
import Derived.Lib.AppendStr
import Derived.ArgAppend
import Derived.Laws.IdiomCopy
import Derived.OrdersHeld
import Derived.Laws.BitsLemmas
import Derived.RowKit
import Derived.Shelf.Abstract
import Derived.Lib.SliceRun
import Derived.Maps.OwnSet
import Derived.Laws.CopyOwn
import Derived.Shelf.Bits.Mul64
import Derived.Lib.SlBytesConst
import Derived.Laws.Cover3
import Derived.Shelf.Sort.Plain
import Derived.Shelf.Slices.In.SortNone
import Derived.Sort.OwnSortedInts
import Derived.Test.YtjkhgigmhmghbaaWWords
import Derived.Test.YtjkhgigmhmghbaaWLast
import Derived.Test.YtjkhgigmhmghbaaWTab
import Derived.Test.YtjkhgigmhmghbaaWQPut
import Derived.Test.YtjkhgigmhmghbaaWApart
import Derived.Test.YtjkhgigmhmghbaaWArr
import Derived.Test.YtjkhgigmhmghbaaWZeros
import Derived.Test.YtjkhgigmhmghbaaWFoot
import Derived.Test.YtjkhgigmhmghbaaWKept
import Derived.Test.YtjkhgigmhmghbaaWShare
import Derived.Test.YtjkhgigmhmghbaaWN
import Derived.Test.YtjkhgigmhmghbaaWRepsOne
import Derived.Test.YtjkhgigmhmghbaaWGuard
import Derived.Test.YtjkhgigmhmghbaaWNEv
import Derived.Test.YtjkhgigmhmghbaaWMore
namespace Go.Proofs.Ytjkhgigmhmghbaa.PFnProductRuns
open Go.RowKit Go.Proofs.YtjkhgigmhmghbaaW.PrintWords Go.Proofs.YtjkhgigmhmghbaaW.PrintLast Go.Proofs.YtjkhgigmhmghbaaW.PrintMore
attribute [local go_sem] max2_int min2_int max_two min_two max_three min_three max_four min_four   -- for this text's walks alone
set_option linter.unusedVariables false
set_option linter.unusedSimpArgs false



def errW : Option Int → Value
 | none => .nilIface
 | some c => .iface 0 (.int .i64 c)
theorem errW_none : errW none = .nilIface := rfl
theorem errW_some (c : Int) : errW (some c) = .iface 0 (.int .i64 c) := rfl

theorem info3 : (Try.prog.info? 3).map (fun i => (i.zero, i.size, i.bytes)) = some (some (.int .i64 0), 1, 8) := by kernel_rfl
-- the values' own types

end Go.Proofs.Ytjkhgigmhmghbaa.PFnProductRuns
