-- out of the kit's print, turned by wip/own_print.py
import Derived.Test.YtjkhgigmhmghbaaPFnProductRunsx0
import Derived.Test.YtjkhgigmhmghbaaPFnProductRunsx1
import Derived.Test.YtjkhgigmhmghbaaPFnProductRunsx2
import Derived.Test.YtjkhgigmhmghbaaPFnProductRunsx3
import Derived.Test.YtjkhgigmhmghbaaPFnProductRunsx4
import Derived.Test.YtjkhgigmhmghbaaPFnProductRunsx5
import Derived.Test.YtjkhgigmhmghbaaPFnProductRunsx6
import Derived.Test.YtjkhgigmhmghbaaPFnProductRunsx7
import Derived.Test.YtjkhgigmhmghbaaPFnProductRunsx9
import Derived.Test.YtjkhgigmhmghbaaPFnProductRunsx10
import Derived.Test.YtjkhgigmhmghbaaPFnProductRunsx11
namespace Go.Proofs.Ytjkhgigmhmghbaa.PFnProductRuns
open Go.RowKit Go.Proofs.YtjkhgigmhmghbaaW.PrintWords Go.Proofs.YtjkhgigmhmghbaaW.PrintLast Go.Proofs.YtjkhgigmhmghbaaW.PrintMore
attribute [local go_sem] max2_int min2_int max_two min_two max_three min_three max_four min_four   -- for this text's walks alone
set_option linter.unusedVariables false
set_option linter.unusedSimpArgs false

/-! ### laws_FnProductRuns: function 3 -/
mutual
def laws_FnProductRuns.j0 : Nat → List Int → Int → Int → List Int → Bool → Int → Int → Bool → Option (Bool)
 | 0, _, _, _, _, _, _, _, _ => none
 | k + 1, x1, x5, x6, x7, x8, x11, x15, x134 => if x134 = true then (some false) else (if x8 = true then (if (x7.length : Int) = (wrap64 (x11 + 1)) then (if 0 < (x7.length : Int) then (if (rd x7 0) = x5 then (if 0 ≤ x11 then (if x11 < (x7.length : Int) then (if (rd x7 x11) = x15 then (laws_FnProductRuns.j1 k x1 x5 x6 x7 x15 (decide (x15 ≥ x6))) else (laws_FnProductRuns.j1 k x1 x5 x6 x7 x15 true)) else (none)) else (none)) else (laws_FnProductRuns.j1 k x1 x5 x6 x7 x15 true)) else (none)) else (laws_FnProductRuns.j1 k x1 x5 x6 x7 x15 true)) else (laws_FnProductRuns.j3 k x1))
def laws_FnProductRuns.j3 : Nat → List Int → Option (Bool)
 | 0, _ => none
 | k + 1, x1 => (spec_DrawLeastWithProduct.f k x1).bind fun bt396 => ((impl_LeastWithProduct.f k bt396.1 bt396.2).bind fun bt398 => ((spec_LeastWithProduct.f k bt396.1 bt396.2).bind fun bt400 => ((impl_IsSmooth.f k bt396.1 bt396.2).bind fun bt402 => ((spec_IsSmooth.f k bt396.1 bt396.2).bind fun bt404 => ((impl_CountWithProduct.f k bt396.1 bt396.2).bind fun bt406 => ((spec_CountWithProduct.f k bt396.1 bt396.2).bind fun bt408 => (if (bt398.2 != bt400.2) = true then (laws_FnProductRuns.j4 k x1 bt396.1 bt396.2 bt398.1 bt398.2 bt402.1 bt406.1 bt406.2 true) else (if bt398.1 = bt400.1 then (if (bt402.2 != bt404.2) = true then (laws_FnProductRuns.j4 k x1 bt396.1 bt396.2 bt398.1 bt398.2 bt402.1 bt406.1 bt406.2 true) else (if (bt402.1 != bt404.1) = true then (laws_FnProductRuns.j4 k x1 bt396.1 bt396.2 bt398.1 bt398.2 bt402.1 bt406.1 bt406.2 true) else (if (bt406.2 != bt408.2) = true then (laws_FnProductRuns.j4 k x1 bt396.1 bt396.2 bt398.1 bt398.2 bt402.1 bt406.1 bt406.2 true) else (if bt406.1 = bt408.1 then (if bt398.2 = true then (laws_FnProductRuns.j4 k x1 bt396.1 bt396.2 bt398.1 bt398.2 bt402.1 bt406.1 bt406.2 (!bt402.1)) else (laws_FnProductRuns.j4 k x1 bt396.1 bt396.2 bt398.1 bt398.2 bt402.1 bt406.1 bt406.2 false)) else (laws_FnProductRuns.j4 k x1 bt396.1 bt396.2 bt398.1 bt398.2 bt402.1 bt406.1 bt406.2 true))))) else (laws_FnProductRuns.j4 k x1 bt396.1 bt396.2 bt398.1 bt398.2 bt402.1 bt406.1 bt406.2 true)))))))))
def laws_FnProductRuns.j4 : Nat → List Int → Int → Int → Int → Bool → Bool → Int → Bool → Bool → Option (Bool)
 | 0, _, _, _, _, _, _, _, _, _ => none
 | k + 1, x1, x28, x29, x30, x31, x34, x38, x39, x316 => if x316 = true then (some false) else (if x31 = true then ((impl_DigitProduct.f k x30 x29).bind fun bt410 => (if bt410.2 = true then (if bt410.1 = x28 then (laws_FnProductRuns.j5 k x1 x34 x38 x39) else (some false)) else (some false))) else (laws_FnProductRuns.j5 k x1 x34 x38 x39))
def laws_FnProductRuns.j5 : Nat → List Int → Bool → Int → Bool → Option (Bool)
 | 0, _, _, _, _ => none
 | k + 1, x1, x34, x38, x39 => if x39 = true then (laws_FnProductRuns.j6 k x1 (x34 != (decide (x38 > 0)))) else (laws_FnProductRuns.j6 k x1 false)
def laws_FnProductRuns.j6 : Nat → List Int → Bool → Option (Bool)
 | 0, _, _ => none
 | k + 1, x1, x337 => if x337 = true then (some false) else ((spec_DrawLeastPersistent.f x1).bind fun bt412 => ((impl_LeastPersistent.f k bt412.1 bt412.2).bind fun bt414 => ((spec_LeastPersistent.f k bt412.1 bt412.2).bind fun bt416 => (if (bt414.2 != bt416.2) = true then (laws_FnProductRuns.j7 k bt412.1 bt412.2 bt414.1 bt414.2 true) else (laws_FnProductRuns.j7 k bt412.1 bt412.2 bt414.1 bt414.2 (bt414.1 != bt416.1))))))
def laws_FnProductRuns.j7 : Nat → Int → Int → Int → Bool → Bool → Option (Bool)
 | 0, _, _, _, _, _ => none
 | k + 1, x44, x45, x46, x47, x362 => if x362 = true then (some false) else (if x47 = true then ((impl_PersistenceOf.f k x46 x45).bind fun bt418 => (if bt418.2 = true then (some (bt418.1 == x44)) else (some false))) else (some true))
def laws_FnProductRuns.j1 : Nat → List Int → Int → Int → List Int → Int → Bool → Option (Bool)
 | 0, _, _, _, _, _, _ => none
 | k + 1, x1, x5, x6, x7, x15, x160 => if x160 = true then (some false) else (laws_FnProductRuns.l0 k x1 x5 x6 x7 x15 1)
def laws_FnProductRuns.l0 : Nat → List Int → Int → Int → List Int → Int → Int → Option (Bool)
 | 0, _, _, _, _, _, _ => none
 | k + 1, x1, x5, x6, x7, x15, x19 => if x19 < (x7.length : Int) then (if 0 ≤ (wrap64 (x19 - 1)) then (if (wrap64 (x19 - 1)) < (x7.length : Int) then ((impl_DigitProduct.f k (rd x7 (wrap64 (x19 - 1))) x6).bind fun bt385 => (if bt385.2 = true then (if 0 ≤ x19 then (if bt385.1 = (rd x7 x19) then (if (rd x7 x19) ≥ (rd x7 (wrap64 (x19 - 1))) then (some false) else (laws_FnProductRuns.l0 k x1 x5 x6 x7 x15 (wrap64 (x19 + 1)))) else (some false)) else (none)) else (some false))) else (none)) else (none)) else ((impl_SortedUp.f k x5 x6).bind fun bt390 => ((impl_ProductRoot.f k bt390.1 x6).bind fun bt392 => ((impl_DigitProduct.f k x5 x6).bind fun bt394 => (if bt390.2 = true then (if bt392.2 = true then (if bt394.2 = true then (if bt394.1 > 0 then (if x5 ≥ x6 then (if bt392.1 = x15 then (laws_FnProductRuns.j3 k x1) else (some false)) else (laws_FnProductRuns.j3 k x1)) else (laws_FnProductRuns.j3 k x1)) else (some false)) else (some false)) else (some false)))))
end
def laws_FnProductRuns.f (k : Nat) (l0 : List Int) (l1 : List Int) : Option (Bool) := (laws_big.f l0 l1).bind fun t362 => (if t362 = true then (some true) else ((spec_DrawProductRun.f k l0).bind fun bt363 => ((impl_ProductRun.f k bt363.1 bt363.2).bind fun bt365 => ((spec_ProductRun.f k bt363.1 bt363.2).bind fun bt369 => ((impl_PersistenceOf.f k bt363.1 bt363.2).bind fun bt373 => ((spec_PersistenceOf.f k bt363.1 bt363.2).bind fun bt375 => ((impl_ProductRoot.f k bt363.1 bt363.2).bind fun bt377 => ((spec_ProductRoot.f k bt363.1 bt363.2).bind fun bt379 => (if (bt365.2 != bt369.2) = true then (laws_FnProductRuns.j0 k l1 bt363.1 bt363.2 bt365.1 bt365.2 bt373.1 bt377.1 true) else ((laws_qSame.f k bt365.1 bt369.1).bind fun t381 => (if t381 = true then (if (bt373.2 != bt375.2) = true then (laws_FnProductRuns.j0 k l1 bt363.1 bt363.2 bt365.1 bt365.2 bt373.1 bt377.1 true) else (if bt373.1 = bt375.1 then (if (bt377.2 != bt379.2) = true then (laws_FnProductRuns.j0 k l1 bt363.1 bt363.2 bt365.1 bt365.2 bt373.1 bt377.1 true) else (if bt377.1 = bt379.1 then (if (bt373.2 != bt365.2) = true then (laws_FnProductRuns.j0 k l1 bt363.1 bt363.2 bt365.1 bt365.2 bt373.1 bt377.1 true) else (laws_FnProductRuns.j0 k l1 bt363.1 bt363.2 bt365.1 bt365.2 bt373.1 bt377.1 (bt377.2 != bt365.2))) else (laws_FnProductRuns.j0 k l1 bt363.1 bt363.2 bt365.1 bt365.2 bt373.1 bt377.1 true))) else (laws_FnProductRuns.j0 k l1 bt363.1 bt363.2 bt365.1 bt365.2 bt373.1 bt377.1 true))) else (laws_FnProductRuns.j0 k l1 bt363.1 bt363.2 bt365.1 bt365.2 bt373.1 bt377.1 true))))))))))))
theorem laws_FnProductRuns.mono_l : ∀ k, (∀ y0 y1 y2 y3 y4 y5 y6 y7, LeO (laws_FnProductRuns.j0 k y0 y1 y2 y3 y4 y5 y6 y7) (laws_FnProductRuns.j0 (k + 1) y0 y1 y2 y3 y4 y5 y6 y7)) ∧ (∀ y0, LeO (laws_FnProductRuns.j3 k y0) (laws_FnProductRuns.j3 (k + 1) y0)) ∧ (∀ y0 y1 y2 y3 y4 y5 y6 y7 y8, LeO (laws_FnProductRuns.j4 k y0 y1 y2 y3 y4 y5 y6 y7 y8) (laws_FnProductRuns.j4 (k + 1) y0 y1 y2 y3 y4 y5 y6 y7 y8)) ∧ (∀ y0 y1 y2 y3, LeO (laws_FnProductRuns.j5 k y0 y1 y2 y3) (laws_FnProductRuns.j5 (k + 1) y0 y1 y2 y3)) ∧ (∀ y0 y1, LeO (laws_FnProductRuns.j6 k y0 y1) (laws_FnProductRuns.j6 (k + 1) y0 y1)) ∧ (∀ y0 y1 y2 y3 y4, LeO (laws_FnProductRuns.j7 k y0 y1 y2 y3 y4) (laws_FnProductRuns.j7 (k + 1) y0 y1 y2 y3 y4)) ∧ (∀ y0 y1 y2 y3 y4 y5, LeO (laws_FnProductRuns.j1 k y0 y1 y2 y3 y4 y5) (laws_FnProductRuns.j1 (k + 1) y0 y1 y2 y3 y4 y5)) ∧ (∀ y0 y1 y2 y3 y4 y5, LeO (laws_FnProductRuns.l0 k y0 y1 y2 y3 y4 y5) (laws_FnProductRuns.l0 (k + 1) y0 y1 y2 y3 y4 y5))
 | 0 => ⟨fun _ _ _ _ _ _ _ _ r h => by simp [laws_FnProductRuns.j0] at h, fun _ r h => by simp [laws_FnProductRuns.j3] at h, fun _ _ _ _ _ _ _ _ _ r h => by simp [laws_FnProductRuns.j4] at h, fun _ _ _ _ r h => by simp [laws_FnProductRuns.j5] at h, fun _ _ r h => by simp [laws_FnProductRuns.j6] at h, fun _ _ _ _ _ r h => by simp [laws_FnProductRuns.j7] at h, fun _ _ _ _ _ _ r h => by simp [laws_FnProductRuns.j1] at h, fun _ _ _ _ _ _ r h => by simp [laws_FnProductRuns.l0] at h⟩
 | k + 1 => by
  obtain ⟨ih0, ih1, ih2, ih3, ih4, ih5, ih6, ih7⟩ := laws_FnProductRuns.mono_l k
  refine ⟨?_, ?_, ?_, ?_, ?_, ?_, ?_, ?_⟩
  ·intro y0 y1 y2 y3 y4 y5 y6 y7
   unfold laws_FnProductRuns.j0
   repeat' first
   | (with_reducible exact ih0 _ _ _ _ _ _ _ _)
   | (with_reducible exact ih1 _)
   | (with_reducible exact ih2 _ _ _ _ _ _ _ _ _)
   | (with_reducible exact ih3 _ _ _ _)
   | (with_reducible exact ih4 _ _)
   | (with_reducible exact ih5 _ _ _ _ _)
   | (with_reducible exact ih6 _ _ _ _ _ _)
   | (with_reducible exact ih7 _ _ _ _ _ _)
   | (with_reducible exact impl_CountWithProduct.mono _ _ _)
   | (with_reducible exact impl_DigitProduct.mono _ _ _)
   | (with_reducible exact impl_IsSmooth.mono _ _ _)
   | (with_reducible exact impl_LeastPersistent.mono _ _ _)
   | (with_reducible exact impl_LeastWithProduct.mono _ _ _)
   | (with_reducible exact impl_PersistenceOf.mono _ _ _)
   | (with_reducible exact impl_ProductRoot.mono _ _ _)
   | (with_reducible exact impl_ProductRun.mono _ _ _)
   | (with_reducible exact impl_SortedUp.mono _ _ _)
   | (with_reducible exact laws_qSame.mono _ _ _)
   | (with_reducible exact spec_CountWithProduct.mono _ _ _)
   | (with_reducible exact spec_DrawLeastWithProduct.mono _ _)
   | (with_reducible exact spec_DrawProductRun.mono _ _)
   | (with_reducible exact spec_IsSmooth.mono _ _ _)
   | (with_reducible exact spec_LeastPersistent.mono _ _ _)
   | (with_reducible exact spec_LeastWithProduct.mono _ _ _)
   | (with_reducible exact spec_PersistenceOf.mono _ _ _)
   | (with_reducible exact spec_ProductRoot.mono _ _ _)
   | (with_reducible exact spec_ProductRun.mono _ _ _)
   | (with_reducible exact LeO.refl _)
   | (with_reducible exact LeO.none _)
   | (with_reducible refine LeO.ite ?_ ?_)
   | (with_reducible refine LeO.bind ?_ (fun _ => ?_))
   | exact ih0 _ _ _ _ _ _ _ _
   | exact ih1 _
   | exact ih2 _ _ _ _ _ _ _ _ _
   | exact ih3 _ _ _ _
   | exact ih4 _ _
   | exact ih5 _ _ _ _ _
   | exact ih6 _ _ _ _ _ _
   | exact ih7 _ _ _ _ _ _
   | exact impl_CountWithProduct.mono _ _ _
   | exact impl_DigitProduct.mono _ _ _
   | exact impl_IsSmooth.mono _ _ _
   | exact impl_LeastPersistent.mono _ _ _
   | exact impl_LeastWithProduct.mono _ _ _
   | exact impl_PersistenceOf.mono _ _ _
   | exact impl_ProductRoot.mono _ _ _
   | exact impl_ProductRun.mono _ _ _
   | exact impl_SortedUp.mono _ _ _
   | exact laws_qSame.mono _ _ _
   | exact spec_CountWithProduct.mono _ _ _
   | exact spec_DrawLeastWithProduct.mono _ _
   | exact spec_DrawProductRun.mono _ _
   | exact spec_IsSmooth.mono _ _ _
   | exact spec_LeastPersistent.mono _ _ _
   | exact spec_LeastWithProduct.mono _ _ _
   | exact spec_PersistenceOf.mono _ _ _
   | exact spec_ProductRoot.mono _ _ _
   | exact spec_ProductRun.mono _ _ _
   | exact LeO.none _
   | refine LeO.ite ?_ ?_
   | refine LeO.bind ?_ (fun _ => ?_)
  ·intro y0
   unfold laws_FnProductRuns.j3
   repeat' first
   | (with_reducible exact ih0 _ _ _ _ _ _ _ _)
   | (with_reducible exact ih1 _)
   | (with_reducible exact ih2 _ _ _ _ _ _ _ _ _)
   | (with_reducible exact ih3 _ _ _ _)
   | (with_reducible exact ih4 _ _)
   | (with_reducible exact ih5 _ _ _ _ _)
   | (with_reducible exact ih6 _ _ _ _ _ _)
   | (with_reducible exact ih7 _ _ _ _ _ _)
   | (with_reducible exact impl_CountWithProduct.mono _ _ _)
   | (with_reducible exact impl_DigitProduct.mono _ _ _)
   | (with_reducible exact impl_IsSmooth.mono _ _ _)
   | (with_reducible exact impl_LeastPersistent.mono _ _ _)
   | (with_reducible exact impl_LeastWithProduct.mono _ _ _)
   | (with_reducible exact impl_PersistenceOf.mono _ _ _)
   | (with_reducible exact impl_ProductRoot.mono _ _ _)
   | (with_reducible exact impl_ProductRun.mono _ _ _)
   | (with_reducible exact impl_SortedUp.mono _ _ _)
   | (with_reducible exact laws_qSame.mono _ _ _)
   | (with_reducible exact spec_CountWithProduct.mono _ _ _)
   | (with_reducible exact spec_DrawLeastWithProduct.mono _ _)
   | (with_reducible exact spec_DrawProductRun.mono _ _)
   | (with_reducible exact spec_IsSmooth.mono _ _ _)
   | (with_reducible exact spec_LeastPersistent.mono _ _ _)
   | (with_reducible exact spec_LeastWithProduct.mono _ _ _)
   | (with_reducible exact spec_PersistenceOf.mono _ _ _)
   | (with_reducible exact spec_ProductRoot.mono _ _ _)
   | (with_reducible exact spec_ProductRun.mono _ _ _)
   | (with_reducible exact LeO.refl _)
   | (with_reducible exact LeO.none _)
   | (with_reducible refine LeO.ite ?_ ?_)
   | (with_reducible refine LeO.bind ?_ (fun _ => ?_))
   | exact ih0 _ _ _ _ _ _ _ _
   | exact ih1 _
   | exact ih2 _ _ _ _ _ _ _ _ _
   | exact ih3 _ _ _ _
   | exact ih4 _ _
   | exact ih5 _ _ _ _ _
   | exact ih6 _ _ _ _ _ _
   | exact ih7 _ _ _ _ _ _
   | exact impl_CountWithProduct.mono _ _ _
   | exact impl_DigitProduct.mono _ _ _
   | exact impl_IsSmooth.mono _ _ _
   | exact impl_LeastPersistent.mono _ _ _
   | exact impl_LeastWithProduct.mono _ _ _
   | exact impl_PersistenceOf.mono _ _ _
   | exact impl_ProductRoot.mono _ _ _
   | exact impl_ProductRun.mono _ _ _
   | exact impl_SortedUp.mono _ _ _
   | exact laws_qSame.mono _ _ _
   | exact spec_CountWithProduct.mono _ _ _
   | exact spec_DrawLeastWithProduct.mono _ _
   | exact spec_DrawProductRun.mono _ _
   | exact spec_IsSmooth.mono _ _ _
   | exact spec_LeastPersistent.mono _ _ _
   | exact spec_LeastWithProduct.mono _ _ _
   | exact spec_PersistenceOf.mono _ _ _
   | exact spec_ProductRoot.mono _ _ _
   | exact spec_ProductRun.mono _ _ _
   | exact LeO.none _
   | refine LeO.ite ?_ ?_
   | refine LeO.bind ?_ (fun _ => ?_)
  ·intro y0 y1 y2 y3 y4 y5 y6 y7 y8
   unfold laws_FnProductRuns.j4
   repeat' first
   | (with_reducible exact ih0 _ _ _ _ _ _ _ _)
   | (with_reducible exact ih1 _)
   | (with_reducible exact ih2 _ _ _ _ _ _ _ _ _)
   | (with_reducible exact ih3 _ _ _ _)
   | (with_reducible exact ih4 _ _)
   | (with_reducible exact ih5 _ _ _ _ _)
   | (with_reducible exact ih6 _ _ _ _ _ _)
   | (with_reducible exact ih7 _ _ _ _ _ _)
   | (with_reducible exact impl_CountWithProduct.mono _ _ _)
   | (with_reducible exact impl_DigitProduct.mono _ _ _)
   | (with_reducible exact impl_IsSmooth.mono _ _ _)
   | (with_reducible exact impl_LeastPersistent.mono _ _ _)
   | (with_reducible exact impl_LeastWithProduct.mono _ _ _)
   | (with_reducible exact impl_PersistenceOf.mono _ _ _)
   | (with_reducible exact impl_ProductRoot.mono _ _ _)
   | (with_reducible exact impl_ProductRun.mono _ _ _)
   | (with_reducible exact impl_SortedUp.mono _ _ _)
   | (with_reducible exact laws_qSame.mono _ _ _)
   | (with_reducible exact spec_CountWithProduct.mono _ _ _)
   | (with_reducible exact spec_DrawLeastWithProduct.mono _ _)
   | (with_reducible exact spec_DrawProductRun.mono _ _)
   | (with_reducible exact spec_IsSmooth.mono _ _ _)
   | (with_reducible exact spec_LeastPersistent.mono _ _ _)
   | (with_reducible exact spec_LeastWithProduct.mono _ _ _)
   | (with_reducible exact spec_PersistenceOf.mono _ _ _)
   | (with_reducible exact spec_ProductRoot.mono _ _ _)
   | (with_reducible exact spec_ProductRun.mono _ _ _)
   | (with_reducible exact LeO.refl _)
   | (with_reducible exact LeO.none _)
   | (with_reducible refine LeO.ite ?_ ?_)
   | (with_reducible refine LeO.bind ?_ (fun _ => ?_))
   | exact ih0 _ _ _ _ _ _ _ _
   | exact ih1 _
   | exact ih2 _ _ _ _ _ _ _ _ _
   | exact ih3 _ _ _ _
   | exact ih4 _ _
   | exact ih5 _ _ _ _ _
   | exact ih6 _ _ _ _ _ _
   | exact ih7 _ _ _ _ _ _
   | exact impl_CountWithProduct.mono _ _ _
   | exact impl_DigitProduct.mono _ _ _
   | exact impl_IsSmooth.mono _ _ _
   | exact impl_LeastPersistent.mono _ _ _
   | exact impl_LeastWithProduct.mono _ _ _
   | exact impl_PersistenceOf.mono _ _ _
   | exact impl_ProductRoot.mono _ _ _
   | exact impl_ProductRun.mono _ _ _
   | exact impl_SortedUp.mono _ _ _
   | exact laws_qSame.mono _ _ _
   | exact spec_CountWithProduct.mono _ _ _
   | exact spec_DrawLeastWithProduct.mono _ _
   | exact spec_DrawProductRun.mono _ _
   | exact spec_IsSmooth.mono _ _ _
   | exact spec_LeastPersistent.mono _ _ _
   | exact spec_LeastWithProduct.mono _ _ _
   | exact spec_PersistenceOf.mono _ _ _
   | exact spec_ProductRoot.mono _ _ _
   | exact spec_ProductRun.mono _ _ _
   | exact LeO.none _
   | refine LeO.ite ?_ ?_
   | refine LeO.bind ?_ (fun _ => ?_)
  ·intro y0 y1 y2 y3
   unfold laws_FnProductRuns.j5
   repeat' first
   | (with_reducible exact ih0 _ _ _ _ _ _ _ _)
   | (with_reducible exact ih1 _)
   | (with_reducible exact ih2 _ _ _ _ _ _ _ _ _)
   | (with_reducible exact ih3 _ _ _ _)
   | (with_reducible exact ih4 _ _)
   | (with_reducible exact ih5 _ _ _ _ _)
   | (with_reducible exact ih6 _ _ _ _ _ _)
   | (with_reducible exact ih7 _ _ _ _ _ _)
   | (with_reducible exact impl_CountWithProduct.mono _ _ _)
   | (with_reducible exact impl_DigitProduct.mono _ _ _)
   | (with_reducible exact impl_IsSmooth.mono _ _ _)
   | (with_reducible exact impl_LeastPersistent.mono _ _ _)
   | (with_reducible exact impl_LeastWithProduct.mono _ _ _)
   | (with_reducible exact impl_PersistenceOf.mono _ _ _)
   | (with_reducible exact impl_ProductRoot.mono _ _ _)
   | (with_reducible exact impl_ProductRun.mono _ _ _)
   | (with_reducible exact impl_SortedUp.mono _ _ _)
   | (with_reducible exact laws_qSame.mono _ _ _)
   | (with_reducible exact spec_CountWithProduct.mono _ _ _)
   | (with_reducible exact spec_DrawLeastWithProduct.mono _ _)
   | (with_reducible exact spec_DrawProductRun.mono _ _)
   | (with_reducible exact spec_IsSmooth.mono _ _ _)
   | (with_reducible exact spec_LeastPersistent.mono _ _ _)
   | (with_reducible exact spec_LeastWithProduct.mono _ _ _)
   | (with_reducible exact spec_PersistenceOf.mono _ _ _)
   | (with_reducible exact spec_ProductRoot.mono _ _ _)
   | (with_reducible exact spec_ProductRun.mono _ _ _)
   | (with_reducible exact LeO.refl _)
   | (with_reducible exact LeO.none _)
   | (with_reducible refine LeO.ite ?_ ?_)
   | (with_reducible refine LeO.bind ?_ (fun _ => ?_))
   | exact ih0 _ _ _ _ _ _ _ _
   | exact ih1 _
   | exact ih2 _ _ _ _ _ _ _ _ _
   | exact ih3 _ _ _ _
   | exact ih4 _ _
   | exact ih5 _ _ _ _ _
   | exact ih6 _ _ _ _ _ _
   | exact ih7 _ _ _ _ _ _
   | exact impl_CountWithProduct.mono _ _ _
   | exact impl_DigitProduct.mono _ _ _
   | exact impl_IsSmooth.mono _ _ _
   | exact impl_LeastPersistent.mono _ _ _
   | exact impl_LeastWithProduct.mono _ _ _
   | exact impl_PersistenceOf.mono _ _ _
   | exact impl_ProductRoot.mono _ _ _
   | exact impl_ProductRun.mono _ _ _
   | exact impl_SortedUp.mono _ _ _
   | exact laws_qSame.mono _ _ _
   | exact spec_CountWithProduct.mono _ _ _
   | exact spec_DrawLeastWithProduct.mono _ _
   | exact spec_DrawProductRun.mono _ _
   | exact spec_IsSmooth.mono _ _ _
   | exact spec_LeastPersistent.mono _ _ _
   | exact spec_LeastWithProduct.mono _ _ _
   | exact spec_PersistenceOf.mono _ _ _
   | exact spec_ProductRoot.mono _ _ _
   | exact spec_ProductRun.mono _ _ _
   | exact LeO.none _
   | refine LeO.ite ?_ ?_
   | refine LeO.bind ?_ (fun _ => ?_)
  ·intro y0 y1
   unfold laws_FnProductRuns.j6
   repeat' first
   | (with_reducible exact ih0 _ _ _ _ _ _ _ _)
   | (with_reducible exact ih1 _)
   | (with_reducible exact ih2 _ _ _ _ _ _ _ _ _)
   | (with_reducible exact ih3 _ _ _ _)
   | (with_reducible exact ih4 _ _)
   | (with_reducible exact ih5 _ _ _ _ _)
   | (with_reducible exact ih6 _ _ _ _ _ _)
   | (with_reducible exact ih7 _ _ _ _ _ _)
   | (with_reducible exact impl_CountWithProduct.mono _ _ _)
   | (with_reducible exact impl_DigitProduct.mono _ _ _)
   | (with_reducible exact impl_IsSmooth.mono _ _ _)
   | (with_reducible exact impl_LeastPersistent.mono _ _ _)
   | (with_reducible exact impl_LeastWithProduct.mono _ _ _)
   | (with_reducible exact impl_PersistenceOf.mono _ _ _)
   | (with_reducible exact impl_ProductRoot.mono _ _ _)
   | (with_reducible exact impl_ProductRun.mono _ _ _)
   | (with_reducible exact impl_SortedUp.mono _ _ _)
   | (with_reducible exact laws_qSame.mono _ _ _)
   | (with_reducible exact spec_CountWithProduct.mono _ _ _)
   | (with_reducible exact spec_DrawLeastWithProduct.mono _ _)
   | (with_reducible exact spec_DrawProductRun.mono _ _)
   | (with_reducible exact spec_IsSmooth.mono _ _ _)
   | (with_reducible exact spec_LeastPersistent.mono _ _ _)
   | (with_reducible exact spec_LeastWithProduct.mono _ _ _)
   | (with_reducible exact spec_PersistenceOf.mono _ _ _)
   | (with_reducible exact spec_ProductRoot.mono _ _ _)
   | (with_reducible exact spec_ProductRun.mono _ _ _)
   | (with_reducible exact LeO.refl _)
   | (with_reducible exact LeO.none _)
   | (with_reducible refine LeO.ite ?_ ?_)
   | (with_reducible refine LeO.bind ?_ (fun _ => ?_))
   | exact ih0 _ _ _ _ _ _ _ _
   | exact ih1 _
   | exact ih2 _ _ _ _ _ _ _ _ _
   | exact ih3 _ _ _ _
   | exact ih4 _ _
   | exact ih5 _ _ _ _ _
   | exact ih6 _ _ _ _ _ _
   | exact ih7 _ _ _ _ _ _
   | exact impl_CountWithProduct.mono _ _ _
   | exact impl_DigitProduct.mono _ _ _
   | exact impl_IsSmooth.mono _ _ _
   | exact impl_LeastPersistent.mono _ _ _
   | exact impl_LeastWithProduct.mono _ _ _
   | exact impl_PersistenceOf.mono _ _ _
   | exact impl_ProductRoot.mono _ _ _
   | exact impl_ProductRun.mono _ _ _
   | exact impl_SortedUp.mono _ _ _
   | exact laws_qSame.mono _ _ _
   | exact spec_CountWithProduct.mono _ _ _
   | exact spec_DrawLeastWithProduct.mono _ _
   | exact spec_DrawProductRun.mono _ _
   | exact spec_IsSmooth.mono _ _ _
   | exact spec_LeastPersistent.mono _ _ _
   | exact spec_LeastWithProduct.mono _ _ _
   | exact spec_PersistenceOf.mono _ _ _
   | exact spec_ProductRoot.mono _ _ _
   | exact spec_ProductRun.mono _ _ _
   | exact LeO.none _
   | refine LeO.ite ?_ ?_
   | refine LeO.bind ?_ (fun _ => ?_)
  ·intro y0 y1 y2 y3 y4
   unfold laws_FnProductRuns.j7
   repeat' first
   | (with_reducible exact ih0 _ _ _ _ _ _ _ _)
   | (with_reducible exact ih1 _)
   | (with_reducible exact ih2 _ _ _ _ _ _ _ _ _)
   | (with_reducible exact ih3 _ _ _ _)
   | (with_reducible exact ih4 _ _)
   | (with_reducible exact ih5 _ _ _ _ _)
   | (with_reducible exact ih6 _ _ _ _ _ _)
   | (with_reducible exact ih7 _ _ _ _ _ _)
   | (with_reducible exact impl_CountWithProduct.mono _ _ _)
   | (with_reducible exact impl_DigitProduct.mono _ _ _)
   | (with_reducible exact impl_IsSmooth.mono _ _ _)
   | (with_reducible exact impl_LeastPersistent.mono _ _ _)
   | (with_reducible exact impl_LeastWithProduct.mono _ _ _)
   | (with_reducible exact impl_PersistenceOf.mono _ _ _)
   | (with_reducible exact impl_ProductRoot.mono _ _ _)
   | (with_reducible exact impl_ProductRun.mono _ _ _)
   | (with_reducible exact impl_SortedUp.mono _ _ _)
   | (with_reducible exact laws_qSame.mono _ _ _)
   | (with_reducible exact spec_CountWithProduct.mono _ _ _)
   | (with_reducible exact spec_DrawLeastWithProduct.mono _ _)
   | (with_reducible exact spec_DrawProductRun.mono _ _)
   | (with_reducible exact spec_IsSmooth.mono _ _ _)
   | (with_reducible exact spec_LeastPersistent.mono _ _ _)
   | (with_reducible exact spec_LeastWithProduct.mono _ _ _)
   | (with_reducible exact spec_PersistenceOf.mono _ _ _)
   | (with_reducible exact spec_ProductRoot.mono _ _ _)
   | (with_reducible exact spec_ProductRun.mono _ _ _)
   | (with_reducible exact LeO.refl _)
   | (with_reducible exact LeO.none _)
   | (with_reducible refine LeO.ite ?_ ?_)
   | (with_reducible refine LeO.bind ?_ (fun _ => ?_))
   | exact ih0 _ _ _ _ _ _ _ _
   | exact ih1 _
   | exact ih2 _ _ _ _ _ _ _ _ _
   | exact ih3 _ _ _ _
   | exact ih4 _ _
   | exact ih5 _ _ _ _ _
   | exact ih6 _ _ _ _ _ _
   | exact ih7 _ _ _ _ _ _
   | exact impl_CountWithProduct.mono _ _ _
   | exact impl_DigitProduct.mono _ _ _
   | exact impl_IsSmooth.mono _ _ _
   | exact impl_LeastPersistent.mono _ _ _
   | exact impl_LeastWithProduct.mono _ _ _
   | exact impl_PersistenceOf.mono _ _ _
   | exact impl_ProductRoot.mono _ _ _
   | exact impl_ProductRun.mono _ _ _
   | exact impl_SortedUp.mono _ _ _
   | exact laws_qSame.mono _ _ _
   | exact spec_CountWithProduct.mono _ _ _
   | exact spec_DrawLeastWithProduct.mono _ _
   | exact spec_DrawProductRun.mono _ _
   | exact spec_IsSmooth.mono _ _ _
   | exact spec_LeastPersistent.mono _ _ _
   | exact spec_LeastWithProduct.mono _ _ _
   | exact spec_PersistenceOf.mono _ _ _
   | exact spec_ProductRoot.mono _ _ _
   | exact spec_ProductRun.mono _ _ _
   | exact LeO.none _
   | refine LeO.ite ?_ ?_
   | refine LeO.bind ?_ (fun _ => ?_)
  ·intro y0 y1 y2 y3 y4 y5
   unfold laws_FnProductRuns.j1
   repeat' first
   | (with_reducible exact ih0 _ _ _ _ _ _ _ _)
   | (with_reducible exact ih1 _)
   | (with_reducible exact ih2 _ _ _ _ _ _ _ _ _)
   | (with_reducible exact ih3 _ _ _ _)
   | (with_reducible exact ih4 _ _)
   | (with_reducible exact ih5 _ _ _ _ _)
   | (with_reducible exact ih6 _ _ _ _ _ _)
   | (with_reducible exact ih7 _ _ _ _ _ _)
   | (with_reducible exact impl_CountWithProduct.mono _ _ _)
   | (with_reducible exact impl_DigitProduct.mono _ _ _)
   | (with_reducible exact impl_IsSmooth.mono _ _ _)
   | (with_reducible exact impl_LeastPersistent.mono _ _ _)
   | (with_reducible exact impl_LeastWithProduct.mono _ _ _)
   | (with_reducible exact impl_PersistenceOf.mono _ _ _)
   | (with_reducible exact impl_ProductRoot.mono _ _ _)
   | (with_reducible exact impl_ProductRun.mono _ _ _)
   | (with_reducible exact impl_SortedUp.mono _ _ _)
   | (with_reducible exact laws_qSame.mono _ _ _)
   | (with_reducible exact spec_CountWithProduct.mono _ _ _)
   | (with_reducible exact spec_DrawLeastWithProduct.mono _ _)
   | (with_reducible exact spec_DrawProductRun.mono _ _)
   | (with_reducible exact spec_IsSmooth.mono _ _ _)
   | (with_reducible exact spec_LeastPersistent.mono _ _ _)
   | (with_reducible exact spec_LeastWithProduct.mono _ _ _)
   | (with_reducible exact spec_PersistenceOf.mono _ _ _)
   | (with_reducible exact spec_ProductRoot.mono _ _ _)
   | (with_reducible exact spec_ProductRun.mono _ _ _)
   | (with_reducible exact LeO.refl _)
   | (with_reducible exact LeO.none _)
   | (with_reducible refine LeO.ite ?_ ?_)
   | (with_reducible refine LeO.bind ?_ (fun _ => ?_))
   | exact ih0 _ _ _ _ _ _ _ _
   | exact ih1 _
   | exact ih2 _ _ _ _ _ _ _ _ _
   | exact ih3 _ _ _ _
   | exact ih4 _ _
   | exact ih5 _ _ _ _ _
   | exact ih6 _ _ _ _ _ _
   | exact ih7 _ _ _ _ _ _
   | exact impl_CountWithProduct.mono _ _ _
   | exact impl_DigitProduct.mono _ _ _
   | exact impl_IsSmooth.mono _ _ _
   | exact impl_LeastPersistent.mono _ _ _
   | exact impl_LeastWithProduct.mono _ _ _
   | exact impl_PersistenceOf.mono _ _ _
   | exact impl_ProductRoot.mono _ _ _
   | exact impl_ProductRun.mono _ _ _
   | exact impl_SortedUp.mono _ _ _
   | exact laws_qSame.mono _ _ _
   | exact spec_CountWithProduct.mono _ _ _
   | exact spec_DrawLeastWithProduct.mono _ _
   | exact spec_DrawProductRun.mono _ _
   | exact spec_IsSmooth.mono _ _ _
   | exact spec_LeastPersistent.mono _ _ _
   | exact spec_LeastWithProduct.mono _ _ _
   | exact spec_PersistenceOf.mono _ _ _
   | exact spec_ProductRoot.mono _ _ _
   | exact spec_ProductRun.mono _ _ _
   | exact LeO.none _
   | refine LeO.ite ?_ ?_
   | refine LeO.bind ?_ (fun _ => ?_)
  ·intro y0 y1 y2 y3 y4 y5
   unfold laws_FnProductRuns.l0
   repeat' first
   | (with_reducible exact ih0 _ _ _ _ _ _ _ _)
   | (with_reducible exact ih1 _)
   | (with_reducible exact ih2 _ _ _ _ _ _ _ _ _)
   | (with_reducible exact ih3 _ _ _ _)
   | (with_reducible exact ih4 _ _)
   | (with_reducible exact ih5 _ _ _ _ _)
   | (with_reducible exact ih6 _ _ _ _ _ _)
   | (with_reducible exact ih7 _ _ _ _ _ _)
   | (with_reducible exact impl_CountWithProduct.mono _ _ _)
   | (with_reducible exact impl_DigitProduct.mono _ _ _)
   | (with_reducible exact impl_IsSmooth.mono _ _ _)
   | (with_reducible exact impl_LeastPersistent.mono _ _ _)
   | (with_reducible exact impl_LeastWithProduct.mono _ _ _)
   | (with_reducible exact impl_PersistenceOf.mono _ _ _)
   | (with_reducible exact impl_ProductRoot.mono _ _ _)
   | (with_reducible exact impl_ProductRun.mono _ _ _)
   | (with_reducible exact impl_SortedUp.mono _ _ _)
   | (with_reducible exact laws_qSame.mono _ _ _)
   | (with_reducible exact spec_CountWithProduct.mono _ _ _)
   | (with_reducible exact spec_DrawLeastWithProduct.mono _ _)
   | (with_reducible exact spec_DrawProductRun.mono _ _)
   | (with_reducible exact spec_IsSmooth.mono _ _ _)
   | (with_reducible exact spec_LeastPersistent.mono _ _ _)
   | (with_reducible exact spec_LeastWithProduct.mono _ _ _)
   | (with_reducible exact spec_PersistenceOf.mono _ _ _)
   | (with_reducible exact spec_ProductRoot.mono _ _ _)
   | (with_reducible exact spec_ProductRun.mono _ _ _)
   | (with_reducible exact LeO.refl _)
   | (with_reducible exact LeO.none _)
   | (with_reducible refine LeO.ite ?_ ?_)
   | (with_reducible refine LeO.bind ?_ (fun _ => ?_))
   | exact ih0 _ _ _ _ _ _ _ _
   | exact ih1 _
   | exact ih2 _ _ _ _ _ _ _ _ _
   | exact ih3 _ _ _ _
   | exact ih4 _ _
   | exact ih5 _ _ _ _ _
   | exact ih6 _ _ _ _ _ _
   | exact ih7 _ _ _ _ _ _
   | exact impl_CountWithProduct.mono _ _ _
   | exact impl_DigitProduct.mono _ _ _
   | exact impl_IsSmooth.mono _ _ _
   | exact impl_LeastPersistent.mono _ _ _
   | exact impl_LeastWithProduct.mono _ _ _
   | exact impl_PersistenceOf.mono _ _ _
   | exact impl_ProductRoot.mono _ _ _
   | exact impl_ProductRun.mono _ _ _
   | exact impl_SortedUp.mono _ _ _
   | exact laws_qSame.mono _ _ _
   | exact spec_CountWithProduct.mono _ _ _
   | exact spec_DrawLeastWithProduct.mono _ _
   | exact spec_DrawProductRun.mono _ _
   | exact spec_IsSmooth.mono _ _ _
   | exact spec_LeastPersistent.mono _ _ _
   | exact spec_LeastWithProduct.mono _ _ _
   | exact spec_PersistenceOf.mono _ _ _
   | exact spec_ProductRoot.mono _ _ _
   | exact spec_ProductRun.mono _ _ _
   | exact LeO.none _
   | refine LeO.ite ?_ ?_
   | refine LeO.bind ?_ (fun _ => ?_)
theorem laws_FnProductRuns.mono : ∀ a0 a1 k, LeO (laws_FnProductRuns.f k a0 a1) (laws_FnProductRuns.f (k + 1) a0 a1) := by
 intro a0 a1 k
 obtain ⟨ih0, ih1, ih2, ih3, ih4, ih5, ih6, ih7⟩ := laws_FnProductRuns.mono_l k
 unfold laws_FnProductRuns.f
 repeat' first
   | (with_reducible exact ih0 _ _ _ _ _ _ _ _)
   | (with_reducible exact ih1 _)
   | (with_reducible exact ih2 _ _ _ _ _ _ _ _ _)
   | (with_reducible exact ih3 _ _ _ _)
   | (with_reducible exact ih4 _ _)
   | (with_reducible exact ih5 _ _ _ _ _)
   | (with_reducible exact ih6 _ _ _ _ _ _)
   | (with_reducible exact ih7 _ _ _ _ _ _)
   | (with_reducible exact impl_CountWithProduct.mono _ _ _)
   | (with_reducible exact impl_DigitProduct.mono _ _ _)
   | (with_reducible exact impl_IsSmooth.mono _ _ _)
   | (with_reducible exact impl_LeastPersistent.mono _ _ _)
   | (with_reducible exact impl_LeastWithProduct.mono _ _ _)
   | (with_reducible exact impl_PersistenceOf.mono _ _ _)
   | (with_reducible exact impl_ProductRoot.mono _ _ _)
   | (with_reducible exact impl_ProductRun.mono _ _ _)
   | (with_reducible exact impl_SortedUp.mono _ _ _)
   | (with_reducible exact laws_qSame.mono _ _ _)
   | (with_reducible exact spec_CountWithProduct.mono _ _ _)
   | (with_reducible exact spec_DrawLeastWithProduct.mono _ _)
   | (with_reducible exact spec_DrawProductRun.mono _ _)
   | (with_reducible exact spec_IsSmooth.mono _ _ _)
   | (with_reducible exact spec_LeastPersistent.mono _ _ _)
   | (with_reducible exact spec_LeastWithProduct.mono _ _ _)
   | (with_reducible exact spec_PersistenceOf.mono _ _ _)
   | (with_reducible exact spec_ProductRoot.mono _ _ _)
   | (with_reducible exact spec_ProductRun.mono _ _ _)
   | (with_reducible exact LeO.refl _)
   | (with_reducible exact LeO.none _)
   | (with_reducible refine LeO.ite ?_ ?_)
   | (with_reducible refine LeO.bind ?_ (fun _ => ?_))
   | exact ih0 _ _ _ _ _ _ _ _
   | exact ih1 _
   | exact ih2 _ _ _ _ _ _ _ _ _
   | exact ih3 _ _ _ _
   | exact ih4 _ _
   | exact ih5 _ _ _ _ _
   | exact ih6 _ _ _ _ _ _
   | exact ih7 _ _ _ _ _ _
   | exact impl_CountWithProduct.mono _ _ _
   | exact impl_DigitProduct.mono _ _ _
   | exact impl_IsSmooth.mono _ _ _
   | exact impl_LeastPersistent.mono _ _ _
   | exact impl_LeastWithProduct.mono _ _ _
   | exact impl_PersistenceOf.mono _ _ _
   | exact impl_ProductRoot.mono _ _ _
   | exact impl_ProductRun.mono _ _ _
   | exact impl_SortedUp.mono _ _ _
   | exact laws_qSame.mono _ _ _
   | exact spec_CountWithProduct.mono _ _ _
   | exact spec_DrawLeastWithProduct.mono _ _
   | exact spec_DrawProductRun.mono _ _
   | exact spec_IsSmooth.mono _ _ _
   | exact spec_LeastPersistent.mono _ _ _
   | exact spec_LeastWithProduct.mono _ _ _
   | exact spec_PersistenceOf.mono _ _ _
   | exact spec_ProductRoot.mono _ _ _
   | exact spec_ProductRun.mono _ _ _
   | exact LeO.none _
   | refine LeO.ite ?_ ?_
   | refine LeO.bind ?_ (fun _ => ?_)
theorem laws_FnProductRuns.j0_no {r : Bool} (hr : r = true) (k : Nat) (x1 : List Int) (x5 : Int) (x6 : Int) (x7 : List Int) (x8 : Bool) (x11 : Int) (x15 : Int) (h : laws_FnProductRuns.j0 k x1 x5 x6 x7 x8 x11 x15 true = some r) : False := by
 subst hr
 cases k with
 | zero => simp [laws_FnProductRuns.j0] at h
 | succ k => simp [laws_FnProductRuns.j0] at h
theorem laws_FnProductRuns.j4_no {r : Bool} (hr : r = true) (k : Nat) (x1 : List Int) (x28 : Int) (x29 : Int) (x30 : Int) (x31 : Bool) (x34 : Bool) (x38 : Int) (x39 : Bool) (h : laws_FnProductRuns.j4 k x1 x28 x29 x30 x31 x34 x38 x39 true = some r) : False := by
 subst hr
 cases k with
 | zero => simp [laws_FnProductRuns.j4] at h
 | succ k => simp [laws_FnProductRuns.j4] at h
theorem laws_FnProductRuns.j6_no {r : Bool} (hr : r = true) (k : Nat) (x1 : List Int) (h : laws_FnProductRuns.j6 k x1 true = some r) : False := by
 subst hr
 cases k with
 | zero => simp [laws_FnProductRuns.j6] at h
 | succ k => simp [laws_FnProductRuns.j6] at h
theorem laws_FnProductRuns.j7_no {r : Bool} (hr : r = true) (k : Nat) (x44 : Int) (x45 : Int) (x46 : Int) (x47 : Bool) (h : laws_FnProductRuns.j7 k x44 x45 x46 x47 true = some r) : False := by
 subst hr
 cases k with
 | zero => simp [laws_FnProductRuns.j7] at h
 | succ k => simp [laws_FnProductRuns.j7] at h
theorem laws_FnProductRuns.j1_no {r : Bool} (hr : r = true) (k : Nat) (x1 : List Int) (x5 : Int) (x6 : Int) (x7 : List Int) (x15 : Int) (h : laws_FnProductRuns.j1 k x1 x5 x6 x7 x15 true = some r) : False := by
 subst hr
 cases k with
 | zero => simp [laws_FnProductRuns.j1] at h
 | succ k => simp [laws_FnProductRuns.j1] at h
set_option maxHeartbeats 8000000 in
set_option maxRecDepth 100000 in
theorem laws_FnProductRuns.calls (k : Nat) (A0 : Option Addr) (c0 : Nat) (l0 : List Int) (A1 : Option Addr) (c1 : Nat) (l1 : List Int) (r : Bool) (w : World) (hr0 : Kd.C (Kd.int .u8) w A0 l0.length l0) (hc0 : l0.length ≤ c0) (hr1 : Kd.C (Kd.int .u8) w A1 l1.length l1) (hc1 : l1.length ≤ c1) (h : laws_FnProductRuns.f k l0 l1 = some r) (hr_ : r = true) :
  Calls Try.prog 3 #[.slice A0 l0.length c0, .slice A1 l1.length c1] w fun e w' => e = .returned (.bool r) ∧ Below w.heap.size w w' := by
 have HR0 := Aside0.mk hr0
 have HC0 := Aside0.mk hc0
 clear hr0 hc0
 have HR1 := Aside0.mk hr1
 have HC1 := Aside0.mk hc1
 clear hr1 hc1
 have HB := Aside0.mk (Below.refl w.heap.size w)
 have H : ((laws_big.f l0 l1).bind fun t362 => (if t362 = true then (some true) else ((spec_DrawProductRun.f k l0).bind fun bt363 => ((impl_ProductRun.f k bt363.1 bt363.2).bind fun bt365 => ((spec_ProductRun.f k bt363.1 bt363.2).bind fun bt369 => ((impl_PersistenceOf.f k bt363.1 bt363.2).bind fun bt373 => ((spec_PersistenceOf.f k bt363.1 bt363.2).bind fun bt375 => ((impl_ProductRoot.f k bt363.1 bt363.2).bind fun bt377 => ((spec_ProductRoot.f k bt363.1 bt363.2).bind fun bt379 => (if (bt365.2 != bt369.2) = true then (laws_FnProductRuns.j0 k l1 bt363.1 bt363.2 bt365.1 bt365.2 bt373.1 bt377.1 true) else ((laws_qSame.f k bt365.1 bt369.1).bind fun t381 => (if t381 = true then (if (bt373.2 != bt375.2) = true then (laws_FnProductRuns.j0 k l1 bt363.1 bt363.2 bt365.1 bt365.2 bt373.1 bt377.1 true) else (if bt373.1 = bt375.1 then (if (bt377.2 != bt379.2) = true then (laws_FnProductRuns.j0 k l1 bt363.1 bt363.2 bt365.1 bt365.2 bt373.1 bt377.1 true) else (if bt377.1 = bt379.1 then (if (bt373.2 != bt365.2) = true then (laws_FnProductRuns.j0 k l1 bt363.1 bt363.2 bt365.1 bt365.2 bt373.1 bt377.1 true) else (laws_FnProductRuns.j0 k l1 bt363.1 bt363.2 bt365.1 bt365.2 bt373.1 bt377.1 (bt377.2 != bt365.2))) else (laws_FnProductRuns.j0 k l1 bt363.1 bt363.2 bt365.1 bt365.2 bt373.1 bt377.1 true))) else (laws_FnProductRuns.j0 k l1 bt363.1 bt363.2 bt365.1 bt365.2 bt373.1 bt377.1 true))) else (laws_FnProductRuns.j0 k l1 bt363.1 bt363.2 bt365.1 bt365.2 bt373.1 bt377.1 true))))))))))))) = some r := h
 clear h
 have HR_ := Aside0.mk hr_
 clear hr_
 replace H := Option.bind_eq_some_iff.mp H
 obtain ⟨t362, A30, H⟩ := H
 replace H : (if t362 = true then (some true) else ((spec_DrawProductRun.f k l0).bind fun bt363 => ((impl_ProductRun.f k bt363.1 bt363.2).bind fun bt365 => ((spec_ProductRun.f k bt363.1 bt363.2).bind fun bt369 => ((impl_PersistenceOf.f k bt363.1 bt363.2).bind fun bt373 => ((spec_PersistenceOf.f k bt363.1 bt363.2).bind fun bt375 => ((impl_ProductRoot.f k bt363.1 bt363.2).bind fun bt377 => ((spec_ProductRoot.f k bt363.1 bt363.2).bind fun bt379 => (if (bt365.2 != bt369.2) = true then (laws_FnProductRuns.j0 k l1 bt363.1 bt363.2 bt365.1 bt365.2 bt373.1 bt377.1 true) else ((laws_qSame.f k bt365.1 bt369.1).bind fun t381 => (if t381 = true then (if (bt373.2 != bt375.2) = true then (laws_FnProductRuns.j0 k l1 bt363.1 bt363.2 bt365.1 bt365.2 bt373.1 bt377.1 true) else (if bt373.1 = bt375.1 then (if (bt377.2 != bt379.2) = true then (laws_FnProductRuns.j0 k l1 bt363.1 bt363.2 bt365.1 bt365.2 bt373.1 bt377.1 true) else (if bt377.1 = bt379.1 then (if (bt373.2 != bt365.2) = true then (laws_FnProductRuns.j0 k l1 bt363.1 bt363.2 bt365.1 bt365.2 bt373.1 bt377.1 true) else (laws_FnProductRuns.j0 k l1 bt363.1 bt363.2 bt365.1 bt365.2 bt373.1 bt377.1 (bt377.2 != bt365.2))) else (laws_FnProductRuns.j0 k l1 bt363.1 bt363.2 bt365.1 bt365.2 bt373.1 bt377.1 true))) else (laws_FnProductRuns.j0 k l1 bt363.1 bt363.2 bt365.1 bt365.2 bt373.1 bt377.1 true))) else (laws_FnProductRuns.j0 k l1 bt363.1 bt363.2 bt365.1 bt365.2 bt373.1 bt377.1 true)))))))))))) = some r := H
 have A3 := Aside0.mk A30
 clear A30
 by_cases c4 : t362 = true
 ·subst c4
  have H1 : (some true) = some r := by rw [if_pos rfl] at H; exact H
  clear H
  have H := H1
  clear H1
  as_aux_lemma =>
   obtain rfl := Option.some.inj H
   go_enter Try.func3, Try.ntmps3
   go_wp2_with (first | (go_at_call 4; (with_reducible refine (laws_big.calls _ _ l0 _ _ l1 true _ ?side1 ?side2 ?side3 ?side4 A3.out).mono ?_); (case side1 => repeat (first | exact HR0.out | (with_reducible refine Kd.C_alloc ?_ _) | (with_reducible refine Kd.C_drewN ?_ _) | (with_reducible refine Kd.C_drew ?_))); (case side2 => exact HC0.out); (case side3 => repeat (first | exact HR1.out | (with_reducible refine Kd.C_alloc ?_ _) | (with_reducible refine Kd.C_drewN ?_ _) | (with_reducible refine Kd.C_drew ?_))); (case side4 => exact HC1.out); rintro e w' ⟨rfl, ⟨nd, rfl⟩⟩; (try first | exact ⟨rfl, _, World.drewN_drewN _ _ _⟩ | exact ⟨rfl, _, Eq.trans (World.drewN_drewN _ _ _) (congrArg (World.drewN _) (Nat.add_assoc _ _ _))⟩)))
   repeat (go_quiet (first | (go_at_call 4; (with_reducible refine (laws_big.calls _ _ l0 _ _ l1 true _ ?side1 ?side2 ?side3 ?side4 A3.out).mono ?_); (case side1 => repeat (first | exact HR0.out | (with_reducible refine Kd.C_alloc ?_ _) | (with_reducible refine Kd.C_drewN ?_ _) | (with_reducible refine Kd.C_drew ?_))); (case side2 => exact HC0.out); (case side3 => repeat (first | exact HR1.out | (with_reducible refine Kd.C_alloc ?_ _) | (with_reducible refine Kd.C_drewN ?_ _) | (with_reducible refine Kd.C_drew ?_))); (case side4 => exact HC1.out); rintro e w' ⟨rfl, ⟨nd, rfl⟩⟩; (try first | exact ⟨rfl, _, World.drewN_drewN _ _ _⟩ | exact ⟨rfl, _, Eq.trans (World.drewN_drewN _ _ _) (congrArg (World.drewN _) (Nat.add_assoc _ _ _))⟩))); try go_wp2_with (first | (go_at_call 4; (with_reducible refine (laws_big.calls _ _ l0 _ _ l1 true _ ?side1 ?side2 ?side3 ?side4 A3.out).mono ?_); (case side1 => repeat (first | exact HR0.out | (with_reducible refine Kd.C_alloc ?_ _) | (with_reducible refine Kd.C_drewN ?_ _) | (with_reducible refine Kd.C_drew ?_))); (case side2 => exact HC0.out); (case side3 => repeat (first | exact HR1.out | (with_reducible refine Kd.C_alloc ?_ _) | (with_reducible refine Kd.C_drewN ?_ _) | (with_reducible refine Kd.C_drew ?_))); (case side4 => exact HC1.out); rintro e w' ⟨rfl, ⟨nd, rfl⟩⟩; (try first | exact ⟨rfl, _, World.drewN_drewN _ _ _⟩ | exact ⟨rfl, _, Eq.trans (World.drewN_drewN _ _ _) (congrArg (World.drewN _) (Nat.add_assoc _ _ _))⟩))))
   go_ret
   exact ⟨by first | rfl | (simp [errW_none, errW_some] <;> rfl) | (simp [*, errW_none, errW_some] <;> rfl), by repeat (first | (with_reducible first | exact HB.out | apply below_alloc | apply pw_below_drewN | apply below_drew1) | exact HB.out)⟩
 ·replace c4 := Bool.eq_false_iff.mpr c4
  subst c4
  have H1 : ((spec_DrawProductRun.f k l0).bind fun bt363 => ((impl_ProductRun.f k bt363.1 bt363.2).bind fun bt365 => ((spec_ProductRun.f k bt363.1 bt363.2).bind fun bt369 => ((impl_PersistenceOf.f k bt363.1 bt363.2).bind fun bt373 => ((spec_PersistenceOf.f k bt363.1 bt363.2).bind fun bt375 => ((impl_ProductRoot.f k bt363.1 bt363.2).bind fun bt377 => ((spec_ProductRoot.f k bt363.1 bt363.2).bind fun bt379 => (if (bt365.2 != bt369.2) = true then (laws_FnProductRuns.j0 k l1 bt363.1 bt363.2 bt365.1 bt365.2 bt373.1 bt377.1 true) else ((laws_qSame.f k bt365.1 bt369.1).bind fun t381 => (if t381 = true then (if (bt373.2 != bt375.2) = true then (laws_FnProductRuns.j0 k l1 bt363.1 bt363.2 bt365.1 bt365.2 bt373.1 bt377.1 true) else (if bt373.1 = bt375.1 then (if (bt377.2 != bt379.2) = true then (laws_FnProductRuns.j0 k l1 bt363.1 bt363.2 bt365.1 bt365.2 bt373.1 bt377.1 true) else (if bt377.1 = bt379.1 then (if (bt373.2 != bt365.2) = true then (laws_FnProductRuns.j0 k l1 bt363.1 bt363.2 bt365.1 bt365.2 bt373.1 bt377.1 true) else (laws_FnProductRuns.j0 k l1 bt363.1 bt363.2 bt365.1 bt365.2 bt373.1 bt377.1 (bt377.2 != bt365.2))) else (laws_FnProductRuns.j0 k l1 bt363.1 bt363.2 bt365.1 bt365.2 bt373.1 bt377.1 true))) else (laws_FnProductRuns.j0 k l1 bt363.1 bt363.2 bt365.1 bt365.2 bt373.1 bt377.1 true))) else (laws_FnProductRuns.j0 k l1 bt363.1 bt363.2 bt365.1 bt365.2 bt373.1 bt377.1 true))))))))))) = some r := by rw [if_neg (show ¬ (false = true) by decide)] at H; exact H
  clear H
  have H := H1
  clear H1
  replace H := Option.bind_eq_some_iff.mp H
  obtain ⟨⟨t363, t364⟩, A50, H⟩ := H
  replace H : ((impl_ProductRun.f k t363 t364).bind fun bt365 => ((spec_ProductRun.f k t363 t364).bind fun bt369 => ((impl_PersistenceOf.f k t363 t364).bind fun bt373 => ((spec_PersistenceOf.f k t363 t364).bind fun bt375 => ((impl_ProductRoot.f k t363 t364).bind fun bt377 => ((spec_ProductRoot.f k t363 t364).bind fun bt379 => (if (bt365.2 != bt369.2) = true then (laws_FnProductRuns.j0 k l1 t363 t364 bt365.1 bt365.2 bt373.1 bt377.1 true) else ((laws_qSame.f k bt365.1 bt369.1).bind fun t381 => (if t381 = true then (if (bt373.2 != bt375.2) = true then (laws_FnProductRuns.j0 k l1 t363 t364 bt365.1 bt365.2 bt373.1 bt377.1 true) else (if bt373.1 = bt375.1 then (if (bt377.2 != bt379.2) = true then (laws_FnProductRuns.j0 k l1 t363 t364 bt365.1 bt365.2 bt373.1 bt377.1 true) else (if bt377.1 = bt379.1 then (if (bt373.2 != bt365.2) = true then (laws_FnProductRuns.j0 k l1 t363 t364 bt365.1 bt365.2 bt373.1 bt377.1 true) else (laws_FnProductRuns.j0 k l1 t363 t364 bt365.1 bt365.2 bt373.1 bt377.1 (bt377.2 != bt365.2))) else (laws_FnProductRuns.j0 k l1 t363 t364 bt365.1 bt365.2 bt373.1 bt377.1 true))) else (laws_FnProductRuns.j0 k l1 t363 t364 bt365.1 bt365.2 bt373.1 bt377.1 true))) else (laws_FnProductRuns.j0 k l1 t363 t364 bt365.1 bt365.2 bt373.1 bt377.1 true)))))))))) = some r := H
  have A5 := Aside0.mk A50
  clear A50
  replace H := Option.bind_eq_some_iff.mp H
  obtain ⟨⟨t365, t366⟩, A60, H⟩ := H
  replace H : ((spec_ProductRun.f k t363 t364).bind fun bt369 => ((impl_PersistenceOf.f k t363 t364).bind fun bt373 => ((spec_PersistenceOf.f k t363 t364).bind fun bt375 => ((impl_ProductRoot.f k t363 t364).bind fun bt377 => ((spec_ProductRoot.f k t363 t364).bind fun bt379 => (if (t366 != bt369.2) = true then (laws_FnProductRuns.j0 k l1 t363 t364 t365 t366 bt373.1 bt377.1 true) else ((laws_qSame.f k t365 bt369.1).bind fun t381 => (if t381 = true then (if (bt373.2 != bt375.2) = true then (laws_FnProductRuns.j0 k l1 t363 t364 t365 t366 bt373.1 bt377.1 true) else (if bt373.1 = bt375.1 then (if (bt377.2 != bt379.2) = true then (laws_FnProductRuns.j0 k l1 t363 t364 t365 t366 bt373.1 bt377.1 true) else (if bt377.1 = bt379.1 then (if (bt373.2 != t366) = true then (laws_FnProductRuns.j0 k l1 t363 t364 t365 t366 bt373.1 bt377.1 true) else (laws_FnProductRuns.j0 k l1 t363 t364 t365 t366 bt373.1 bt377.1 (bt377.2 != t366))) else (laws_FnProductRuns.j0 k l1 t363 t364 t365 t366 bt373.1 bt377.1 true))) else (laws_FnProductRuns.j0 k l1 t363 t364 t365 t366 bt373.1 bt377.1 true))) else (laws_FnProductRuns.j0 k l1 t363 t364 t365 t366 bt373.1 bt377.1 true))))))))) = some r := H
  have A6 := Aside0.mk A60
  clear A60
  replace H := Option.bind_eq_some_iff.mp H
  obtain ⟨⟨t369, t370⟩, A70, H⟩ := H
  replace H : ((impl_PersistenceOf.f k t363 t364).bind fun bt373 => ((spec_PersistenceOf.f k t363 t364).bind fun bt375 => ((impl_ProductRoot.f k t363 t364).bind fun bt377 => ((spec_ProductRoot.f k t363 t364).bind fun bt379 => (if (t366 != t370) = true then (laws_FnProductRuns.j0 k l1 t363 t364 t365 t366 bt373.1 bt377.1 true) else ((laws_qSame.f k t365 t369).bind fun t381 => (if t381 = true then (if (bt373.2 != bt375.2) = true then (laws_FnProductRuns.j0 k l1 t363 t364 t365 t366 bt373.1 bt377.1 true) else (if bt373.1 = bt375.1 then (if (bt377.2 != bt379.2) = true then (laws_FnProductRuns.j0 k l1 t363 t364 t365 t366 bt373.1 bt377.1 true) else (if bt377.1 = bt379.1 then (if (bt373.2 != t366) = true then (laws_FnProductRuns.j0 k l1 t363 t364 t365 t366 bt373.1 bt377.1 true) else (laws_FnProductRuns.j0 k l1 t363 t364 t365 t366 bt373.1 bt377.1 (bt377.2 != t366))) else (laws_FnProductRuns.j0 k l1 t363 t364 t365 t366 bt373.1 bt377.1 true))) else (laws_FnProductRuns.j0 k l1 t363 t364 t365 t366 bt373.1 bt377.1 true))) else (laws_FnProductRuns.j0 k l1 t363 t364 t365 t366 bt373.1 bt377.1 true)))))))) = some r := H
  have A7 := Aside0.mk A70
  clear A70
  replace H := Option.bind_eq_some_iff.mp H
  obtain ⟨⟨t373, t374⟩, A80, H⟩ := H
  replace H : ((spec_PersistenceOf.f k t363 t364).bind fun bt375 => ((impl_ProductRoot.f k t363 t364).bind fun bt377 => ((spec_ProductRoot.f k t363 t364).bind fun bt379 => (if (t366 != t370) = true then (laws_FnProductRuns.j0 k l1 t363 t364 t365 t366 t373 bt377.1 true) else ((laws_qSame.f k t365 t369).bind fun t381 => (if t381 = true then (if (t374 != bt375.2) = true then (laws_FnProductRuns.j0 k l1 t363 t364 t365 t366 t373 bt377.1 true) else (if t373 = bt375.1 then (if (bt377.2 != bt379.2) = true then (laws_FnProductRuns.j0 k l1 t363 t364 t365 t366 t373 bt377.1 true) else (if bt377.1 = bt379.1 then (if (t374 != t366) = true then (laws_FnProductRuns.j0 k l1 t363 t364 t365 t366 t373 bt377.1 true) else (laws_FnProductRuns.j0 k l1 t363 t364 t365 t366 t373 bt377.1 (bt377.2 != t366))) else (laws_FnProductRuns.j0 k l1 t363 t364 t365 t366 t373 bt377.1 true))) else (laws_FnProductRuns.j0 k l1 t363 t364 t365 t366 t373 bt377.1 true))) else (laws_FnProductRuns.j0 k l1 t363 t364 t365 t366 t373 bt377.1 true))))))) = some r := H
  have A8 := Aside0.mk A80
  clear A80
  replace H := Option.bind_eq_some_iff.mp H
  obtain ⟨⟨t375, t376⟩, A90, H⟩ := H
  replace H : ((impl_ProductRoot.f k t363 t364).bind fun bt377 => ((spec_ProductRoot.f k t363 t364).bind fun bt379 => (if (t366 != t370) = true then (laws_FnProductRuns.j0 k l1 t363 t364 t365 t366 t373 bt377.1 true) else ((laws_qSame.f k t365 t369).bind fun t381 => (if t381 = true then (if (t374 != t376) = true then (laws_FnProductRuns.j0 k l1 t363 t364 t365 t366 t373 bt377.1 true) else (if t373 = t375 then (if (bt377.2 != bt379.2) = true then (laws_FnProductRuns.j0 k l1 t363 t364 t365 t366 t373 bt377.1 true) else (if bt377.1 = bt379.1 then (if (t374 != t366) = true then (laws_FnProductRuns.j0 k l1 t363 t364 t365 t366 t373 bt377.1 true) else (laws_FnProductRuns.j0 k l1 t363 t364 t365 t366 t373 bt377.1 (bt377.2 != t366))) else (laws_FnProductRuns.j0 k l1 t363 t364 t365 t366 t373 bt377.1 true))) else (laws_FnProductRuns.j0 k l1 t363 t364 t365 t366 t373 bt377.1 true))) else (laws_FnProductRuns.j0 k l1 t363 t364 t365 t366 t373 bt377.1 true)))))) = some r := H
  have A9 := Aside0.mk A90
  clear A90
  replace H := Option.bind_eq_some_iff.mp H
  obtain ⟨⟨t377, t378⟩, A100, H⟩ := H
  replace H : ((spec_ProductRoot.f k t363 t364).bind fun bt379 => (if (t366 != t370) = true then (laws_FnProductRuns.j0 k l1 t363 t364 t365 t366 t373 t377 true) else ((laws_qSame.f k t365 t369).bind fun t381 => (if t381 = true then (if (t374 != t376) = true then (laws_FnProductRuns.j0 k l1 t363 t364 t365 t366 t373 t377 true) else (if t373 = t375 then (if (t378 != bt379.2) = true then (laws_FnProductRuns.j0 k l1 t363 t364 t365 t366 t373 t377 true) else (if t377 = bt379.1 then (if (t374 != t366) = true then (laws_FnProductRuns.j0 k l1 t363 t364 t365 t366 t373 t377 true) else (laws_FnProductRuns.j0 k l1 t363 t364 t365 t366 t373 t377 (t378 != t366))) else (laws_FnProductRuns.j0 k l1 t363 t364 t365 t366 t373 t377 true))) else (laws_FnProductRuns.j0 k l1 t363 t364 t365 t366 t373 t377 true))) else (laws_FnProductRuns.j0 k l1 t363 t364 t365 t366 t373 t377 true))))) = some r := H
  have A10 := Aside0.mk A100
  clear A100
  replace H := Option.bind_eq_some_iff.mp H
  obtain ⟨⟨t379, t380⟩, A110, H⟩ := H
  replace H : (if (t366 != t370) = true then (laws_FnProductRuns.j0 k l1 t363 t364 t365 t366 t373 t377 true) else ((laws_qSame.f k t365 t369).bind fun t381 => (if t381 = true then (if (t374 != t376) = true then (laws_FnProductRuns.j0 k l1 t363 t364 t365 t366 t373 t377 true) else (if t373 = t375 then (if (t378 != t380) = true then (laws_FnProductRuns.j0 k l1 t363 t364 t365 t366 t373 t377 true) else (if t377 = t379 then (if (t374 != t366) = true then (laws_FnProductRuns.j0 k l1 t363 t364 t365 t366 t373 t377 true) else (laws_FnProductRuns.j0 k l1 t363 t364 t365 t366 t373 t377 (t378 != t366))) else (laws_FnProductRuns.j0 k l1 t363 t364 t365 t366 t373 t377 true))) else (laws_FnProductRuns.j0 k l1 t363 t364 t365 t366 t373 t377 true))) else (laws_FnProductRuns.j0 k l1 t363 t364 t365 t366 t373 t377 true)))) = some r := H
  have A11 := Aside0.mk A110
  clear A110
  have HC12 := Aside0.mk H
  clear H
  go_enter Try.func3, Try.ntmps3
  go_upto_region 10 with (first | (go_at_call 4; (with_reducible refine (laws_big.calls _ _ l0 _ _ l1 false _ ?side1 ?side2 ?side3 ?side4 A3.out).mono ?_); (case side1 => repeat (first | exact HR0.out | (with_reducible refine Kd.C_alloc ?_ _) | (with_reducible refine Kd.C_drewN ?_ _) | (with_reducible refine Kd.C_drew ?_))); (case side2 => exact HC0.out); (case side3 => repeat (first | exact HR1.out | (with_reducible refine Kd.C_alloc ?_ _) | (with_reducible refine Kd.C_drewN ?_ _) | (with_reducible refine Kd.C_drew ?_))); (case side4 => exact HC1.out); rintro e w' ⟨rfl, ⟨nd, rfl⟩⟩; (try first | exact ⟨rfl, _, World.drewN_drewN _ _ _⟩ | exact ⟨rfl, _, Eq.trans (World.drewN_drewN _ _ _) (congrArg (World.drewN _) (Nat.add_assoc _ _ _))⟩)) | (go_at_call 5; (with_reducible refine (spec_DrawProductRun.calls k _ _ l0 t363 t364 _ ?side1 ?side2 A5.out).mono ?_); (case side1 => repeat (first | exact HR0.out | (with_reducible refine Kd.C_alloc ?_ _) | (with_reducible refine Kd.C_drewN ?_ _) | (with_reducible refine Kd.C_drew ?_))); (case side2 => exact HC0.out); rintro e w13 ⟨rfl, hb⟩; have n0_ := Aside0.mk (below_step (by repeat (first | (with_reducible first | exact HB.out | apply below_alloc | apply pw_below_drewN | apply below_drew1) | exact HB.out)) hb); clear HB; have HB := n0_; clear n0_; (try clear hb); (try clear hb2); (try clear hk); (try clear hi)) | (go_at_call 6; (with_reducible refine (impl_ProductRun.calls k t363 t364 t365 t366 _ A6.out).mono ?_); rintro e w14 ⟨v367, rfl, ho0, hb⟩; have n0_ := Aside0.mk (Kd.R_lower ho0 (below_size (by repeat (first | (with_reducible first | exact HB.out | apply below_alloc | apply pw_below_drewN | apply below_drew1) | exact HB.out)))); have n1_ := Aside0.mk (below_step (by repeat (first | (with_reducible first | exact HB.out | apply below_alloc | apply pw_below_drewN | apply below_drew1) | exact HB.out)) hb); clear HB; have HO368 := n0_; have HB := n1_; clear n0_ n1_; (try clear hb); (try clear hb2); (try clear hk); (try clear hi); (try clear ho0)) | (go_at_call 7; (with_reducible refine (spec_ProductRun.calls k t363 t364 t369 t370 _ A7.out).mono ?_); rintro e w15 ⟨v371, rfl, ho0, hb⟩; have n0_ := Aside0.mk (Kd.R_elder' (by (with_reducible repeat (first | apply Kd.R_alloc | apply Kd.R_drewN | apply Kd.R_drew)); exact HO368.out) (Kd.R_base ho0) hb); have n1_ := Aside0.mk (Kd.R_lower (Kd.R_new' ho0 (Kd.R_lt (by (with_reducible repeat (first | apply Kd.R_alloc | apply Kd.R_drewN | apply Kd.R_drew)); exact HO368.out))) (below_size (by repeat (first | (with_reducible first | exact HB.out | apply below_alloc | apply pw_below_drewN | apply below_drew1) | exact HB.out)))); have n2_ := Aside0.mk (below_step (by repeat (first | (with_reducible first | exact HB.out | apply below_alloc | apply pw_below_drewN | apply below_drew1) | exact HB.out)) hb); clear HO368; clear HB; have HO368 := n0_; have HO372 := n1_; have HB := n2_; clear n0_ n1_ n2_; (try clear hb); (try clear hb2); (try clear hk); (try clear hi); (try clear ho0)) | (go_at_call 8; (with_reducible refine (impl_PersistenceOf.calls k t363 t364 t373 t374 _ A8.out).mono ?_); rintro e w16 ⟨rfl, hb⟩; have n0_ := Aside0.mk (Kd.R_below (by (with_reducible repeat (first | apply Kd.R_alloc | apply Kd.R_drewN | apply Kd.R_drew)); exact HO368.out) hb); have n1_ := Aside0.mk (Kd.R_below (by (with_reducible repeat (first | apply Kd.R_alloc | apply Kd.R_drewN | apply Kd.R_drew)); exact HO372.out) hb); have n2_ := Aside0.mk (below_step (by repeat (first | (with_reducible first | exact HB.out | apply below_alloc | apply pw_below_drewN | apply below_drew1) | exact HB.out)) hb); clear HO368; clear HO372; clear HB; have HO368 := n0_; have HO372 := n1_; have HB := n2_; clear n0_ n1_ n2_; (try clear hb); (try clear hb2); (try clear hk); (try clear hi)) | (go_at_call 9; (with_reducible refine (spec_PersistenceOf.calls k t363 t364 t375 t376 _ A9.out).mono ?_); rintro e w17 ⟨rfl, hb⟩; have n0_ := Aside0.mk (Kd.R_below (by (with_reducible repeat (first | apply Kd.R_alloc | apply Kd.R_drewN | apply Kd.R_drew)); exact HO368.out) hb); have n1_ := Aside0.mk (Kd.R_below (by (with_reducible repeat (first | apply Kd.R_alloc | apply Kd.R_drewN | apply Kd.R_drew)); exact HO372.out) hb); have n2_ := Aside0.mk (below_step (by repeat (first | (with_reducible first | exact HB.out | apply below_alloc | apply pw_below_drewN | apply below_drew1) | exact HB.out)) hb); clear HO368; clear HO372; clear HB; have HO368 := n0_; have HO372 := n1_; have HB := n2_; clear n0_ n1_ n2_; (try clear hb); (try clear hb2); (try clear hk); (try clear hi)) | (go_at_call 10; (with_reducible refine (impl_ProductRoot.calls k t363 t364 t377 t378 _ A10.out).mono ?_); rintro e w18 ⟨rfl, hb⟩; have n0_ := Aside0.mk (Kd.R_below (by (with_reducible repeat (first | apply Kd.R_alloc | apply Kd.R_drewN | apply Kd.R_drew)); exact HO368.out) hb); have n1_ := Aside0.mk (Kd.R_below (by (with_reducible repeat (first | apply Kd.R_alloc | apply Kd.R_drewN | apply Kd.R_drew)); exact HO372.out) hb); have n2_ := Aside0.mk (below_step (by repeat (first | (with_reducible first | exact HB.out | apply below_alloc | apply pw_below_drewN | apply below_drew1) | exact HB.out)) hb); clear HO368; clear HO372; clear HB; have HO368 := n0_; have HO372 := n1_; have HB := n2_; clear n0_ n1_ n2_; (try clear hb); (try clear hb2); (try clear hk); (try clear hi)) | (go_at_call 11; (with_reducible refine (spec_ProductRoot.calls k t363 t364 t379 t380 _ A11.out).mono ?_); rintro e w19 ⟨rfl, hb⟩; have n0_ := Aside0.mk (Kd.R_below (by (with_reducible repeat (first | apply Kd.R_alloc | apply Kd.R_drewN | apply Kd.R_drew)); exact HO368.out) hb); have n1_ := Aside0.mk (Kd.R_below (by (with_reducible repeat (first | apply Kd.R_alloc | apply Kd.R_drewN | apply Kd.R_drew)); exact HO372.out) hb); have n2_ := Aside0.mk (below_step (by repeat (first | (with_reducible first | exact HB.out | apply below_alloc | apply pw_below_drewN | apply below_drew1) | exact HB.out)) hb); clear HO368; clear HO372; clear HB; have HO368 := n0_; have HO372 := n1_; have HB := n2_; clear n0_ n1_ n2_; (try clear hb); (try clear hb2); (try clear hk); (try clear hi)))
  repeat (go_quiet (first | (go_at_call 4; (with_reducible refine (laws_big.calls _ _ l0 _ _ l1 false _ ?side1 ?side2 ?side3 ?side4 A3.out).mono ?_); (case side1 => repeat (first | exact HR0.out | (with_reducible refine Kd.C_alloc ?_ _) | (with_reducible refine Kd.C_drewN ?_ _) | (with_reducible refine Kd.C_drew ?_))); (case side2 => exact HC0.out); (case side3 => repeat (first | exact HR1.out | (with_reducible refine Kd.C_alloc ?_ _) | (with_reducible refine Kd.C_drewN ?_ _) | (with_reducible refine Kd.C_drew ?_))); (case side4 => exact HC1.out); rintro e w' ⟨rfl, ⟨nd, rfl⟩⟩; (try first | exact ⟨rfl, _, World.drewN_drewN _ _ _⟩ | exact ⟨rfl, _, Eq.trans (World.drewN_drewN _ _ _) (congrArg (World.drewN _) (Nat.add_assoc _ _ _))⟩)) | (go_at_call 5; (with_reducible refine (spec_DrawProductRun.calls k _ _ l0 t363 t364 _ ?side1 ?side2 A5.out).mono ?_); (case side1 => repeat (first | exact HR0.out | (with_reducible refine Kd.C_alloc ?_ _) | (with_reducible refine Kd.C_drewN ?_ _) | (with_reducible refine Kd.C_drew ?_))); (case side2 => exact HC0.out); rintro e w13 ⟨rfl, hb⟩; have n0_ := Aside0.mk (below_step (by repeat (first | (with_reducible first | exact HB.out | apply below_alloc | apply pw_below_drewN | apply below_drew1) | exact HB.out)) hb); clear HB; have HB := n0_; clear n0_; (try clear hb); (try clear hb2); (try clear hk); (try clear hi)) | (go_at_call 6; (with_reducible refine (impl_ProductRun.calls k t363 t364 t365 t366 _ A6.out).mono ?_); rintro e w14 ⟨v367, rfl, ho0, hb⟩; have n0_ := Aside0.mk (Kd.R_lower ho0 (below_size (by repeat (first | (with_reducible first | exact HB.out | apply below_alloc | apply pw_below_drewN | apply below_drew1) | exact HB.out)))); have n1_ := Aside0.mk (below_step (by repeat (first | (with_reducible first | exact HB.out | apply below_alloc | apply pw_below_drewN | apply below_drew1) | exact HB.out)) hb); clear HB; have HO368 := n0_; have HB := n1_; clear n0_ n1_; (try clear hb); (try clear hb2); (try clear hk); (try clear hi); (try clear ho0)) | (go_at_call 7; (with_reducible refine (spec_ProductRun.calls k t363 t364 t369 t370 _ A7.out).mono ?_); rintro e w15 ⟨v371, rfl, ho0, hb⟩; have n0_ := Aside0.mk (Kd.R_elder' (by (with_reducible repeat (first | apply Kd.R_alloc | apply Kd.R_drewN | apply Kd.R_drew)); exact HO368.out) (Kd.R_base ho0) hb); have n1_ := Aside0.mk (Kd.R_lower (Kd.R_new' ho0 (Kd.R_lt (by (with_reducible repeat (first | apply Kd.R_alloc | apply Kd.R_drewN | apply Kd.R_drew)); exact HO368.out))) (below_size (by repeat (first | (with_reducible first | exact HB.out | apply below_alloc | apply pw_below_drewN | apply below_drew1) | exact HB.out)))); have n2_ := Aside0.mk (below_step (by repeat (first | (with_reducible first | exact HB.out | apply below_alloc | apply pw_below_drewN | apply below_drew1) | exact HB.out)) hb); clear HO368; clear HB; have HO368 := n0_; have HO372 := n1_; have HB := n2_; clear n0_ n1_ n2_; (try clear hb); (try clear hb2); (try clear hk); (try clear hi); (try clear ho0)) | (go_at_call 8; (with_reducible refine (impl_PersistenceOf.calls k t363 t364 t373 t374 _ A8.out).mono ?_); rintro e w16 ⟨rfl, hb⟩; have n0_ := Aside0.mk (Kd.R_below (by (with_reducible repeat (first | apply Kd.R_alloc | apply Kd.R_drewN | apply Kd.R_drew)); exact HO368.out) hb); have n1_ := Aside0.mk (Kd.R_below (by (with_reducible repeat (first | apply Kd.R_alloc | apply Kd.R_drewN | apply Kd.R_drew)); exact HO372.out) hb); have n2_ := Aside0.mk (below_step (by repeat (first | (with_reducible first | exact HB.out | apply below_alloc | apply pw_below_drewN | apply below_drew1) | exact HB.out)) hb); clear HO368; clear HO372; clear HB; have HO368 := n0_; have HO372 := n1_; have HB := n2_; clear n0_ n1_ n2_; (try clear hb); (try clear hb2); (try clear hk); (try clear hi)) | (go_at_call 9; (with_reducible refine (spec_PersistenceOf.calls k t363 t364 t375 t376 _ A9.out).mono ?_); rintro e w17 ⟨rfl, hb⟩; have n0_ := Aside0.mk (Kd.R_below (by (with_reducible repeat (first | apply Kd.R_alloc | apply Kd.R_drewN | apply Kd.R_drew)); exact HO368.out) hb); have n1_ := Aside0.mk (Kd.R_below (by (with_reducible repeat (first | apply Kd.R_alloc | apply Kd.R_drewN | apply Kd.R_drew)); exact HO372.out) hb); have n2_ := Aside0.mk (below_step (by repeat (first | (with_reducible first | exact HB.out | apply below_alloc | apply pw_below_drewN | apply below_drew1) | exact HB.out)) hb); clear HO368; clear HO372; clear HB; have HO368 := n0_; have HO372 := n1_; have HB := n2_; clear n0_ n1_ n2_; (try clear hb); (try clear hb2); (try clear hk); (try clear hi)) | (go_at_call 10; (with_reducible refine (impl_ProductRoot.calls k t363 t364 t377 t378 _ A10.out).mono ?_); rintro e w18 ⟨rfl, hb⟩; have n0_ := Aside0.mk (Kd.R_below (by (with_reducible repeat (first | apply Kd.R_alloc | apply Kd.R_drewN | apply Kd.R_drew)); exact HO368.out) hb); have n1_ := Aside0.mk (Kd.R_below (by (with_reducible repeat (first | apply Kd.R_alloc | apply Kd.R_drewN | apply Kd.R_drew)); exact HO372.out) hb); have n2_ := Aside0.mk (below_step (by repeat (first | (with_reducible first | exact HB.out | apply below_alloc | apply pw_below_drewN | apply below_drew1) | exact HB.out)) hb); clear HO368; clear HO372; clear HB; have HO368 := n0_; have HO372 := n1_; have HB := n2_; clear n0_ n1_ n2_; (try clear hb); (try clear hb2); (try clear hk); (try clear hi)) | (go_at_call 11; (with_reducible refine (spec_ProductRoot.calls k t363 t364 t379 t380 _ A11.out).mono ?_); rintro e w19 ⟨rfl, hb⟩; have n0_ := Aside0.mk (Kd.R_below (by (with_reducible repeat (first | apply Kd.R_alloc | apply Kd.R_drewN | apply Kd.R_drew)); exact HO368.out) hb); have n1_ := Aside0.mk (Kd.R_below (by (with_reducible repeat (first | apply Kd.R_alloc | apply Kd.R_drewN | apply Kd.R_drew)); exact HO372.out) hb); have n2_ := Aside0.mk (below_step (by repeat (first | (with_reducible first | exact HB.out | apply below_alloc | apply pw_below_drewN | apply below_drew1) | exact HB.out)) hb); clear HO368; clear HO372; clear HB; have HO368 := n0_; have HO372 := n1_; have HB := n2_; clear n0_ n1_ n2_; (try clear hb); (try clear hb2); (try clear hk); (try clear hi))); go_upto_region 10 with (first | (go_at_call 4; (with_reducible refine (laws_big.calls _ _ l0 _ _ l1 false _ ?side1 ?side2 ?side3 ?side4 A3.out).mono ?_); (case side1 => repeat (first | exact HR0.out | (with_reducible refine Kd.C_alloc ?_ _) | (with_reducible refine Kd.C_drewN ?_ _) | (with_reducible refine Kd.C_drew ?_))); (case side2 => exact HC0.out); (case side3 => repeat (first | exact HR1.out | (with_reducible refine Kd.C_alloc ?_ _) | (with_reducible refine Kd.C_drewN ?_ _) | (with_reducible refine Kd.C_drew ?_))); (case side4 => exact HC1.out); rintro e w' ⟨rfl, ⟨nd, rfl⟩⟩; (try first | exact ⟨rfl, _, World.drewN_drewN _ _ _⟩ | exact ⟨rfl, _, Eq.trans (World.drewN_drewN _ _ _) (congrArg (World.drewN _) (Nat.add_assoc _ _ _))⟩)) | (go_at_call 5; (with_reducible refine (spec_DrawProductRun.calls k _ _ l0 t363 t364 _ ?side1 ?side2 A5.out).mono ?_); (case side1 => repeat (first | exact HR0.out | (with_reducible refine Kd.C_alloc ?_ _) | (with_reducible refine Kd.C_drewN ?_ _) | (with_reducible refine Kd.C_drew ?_))); (case side2 => exact HC0.out); rintro e w13 ⟨rfl, hb⟩; have n0_ := Aside0.mk (below_step (by repeat (first | (with_reducible first | exact HB.out | apply below_alloc | apply pw_below_drewN | apply below_drew1) | exact HB.out)) hb); clear HB; have HB := n0_; clear n0_; (try clear hb); (try clear hb2); (try clear hk); (try clear hi)) | (go_at_call 6; (with_reducible refine (impl_ProductRun.calls k t363 t364 t365 t366 _ A6.out).mono ?_); rintro e w14 ⟨v367, rfl, ho0, hb⟩; have n0_ := Aside0.mk (Kd.R_lower ho0 (below_size (by repeat (first | (with_reducible first | exact HB.out | apply below_alloc | apply pw_below_drewN | apply below_drew1) | exact HB.out)))); have n1_ := Aside0.mk (below_step (by repeat (first | (with_reducible first | exact HB.out | apply below_alloc | apply pw_below_drewN | apply below_drew1) | exact HB.out)) hb); clear HB; have HO368 := n0_; have HB := n1_; clear n0_ n1_; (try clear hb); (try clear hb2); (try clear hk); (try clear hi); (try clear ho0)) | (go_at_call 7; (with_reducible refine (spec_ProductRun.calls k t363 t364 t369 t370 _ A7.out).mono ?_); rintro e w15 ⟨v371, rfl, ho0, hb⟩; have n0_ := Aside0.mk (Kd.R_elder' (by (with_reducible repeat (first | apply Kd.R_alloc | apply Kd.R_drewN | apply Kd.R_drew)); exact HO368.out) (Kd.R_base ho0) hb); have n1_ := Aside0.mk (Kd.R_lower (Kd.R_new' ho0 (Kd.R_lt (by (with_reducible repeat (first | apply Kd.R_alloc | apply Kd.R_drewN | apply Kd.R_drew)); exact HO368.out))) (below_size (by repeat (first | (with_reducible first | exact HB.out | apply below_alloc | apply pw_below_drewN | apply below_drew1) | exact HB.out)))); have n2_ := Aside0.mk (below_step (by repeat (first | (with_reducible first | exact HB.out | apply below_alloc | apply pw_below_drewN | apply below_drew1) | exact HB.out)) hb); clear HO368; clear HB; have HO368 := n0_; have HO372 := n1_; have HB := n2_; clear n0_ n1_ n2_; (try clear hb); (try clear hb2); (try clear hk); (try clear hi); (try clear ho0)) | (go_at_call 8; (with_reducible refine (impl_PersistenceOf.calls k t363 t364 t373 t374 _ A8.out).mono ?_); rintro e w16 ⟨rfl, hb⟩; have n0_ := Aside0.mk (Kd.R_below (by (with_reducible repeat (first | apply Kd.R_alloc | apply Kd.R_drewN | apply Kd.R_drew)); exact HO368.out) hb); have n1_ := Aside0.mk (Kd.R_below (by (with_reducible repeat (first | apply Kd.R_alloc | apply Kd.R_drewN | apply Kd.R_drew)); exact HO372.out) hb); have n2_ := Aside0.mk (below_step (by repeat (first | (with_reducible first | exact HB.out | apply below_alloc | apply pw_below_drewN | apply below_drew1) | exact HB.out)) hb); clear HO368; clear HO372; clear HB; have HO368 := n0_; have HO372 := n1_; have HB := n2_; clear n0_ n1_ n2_; (try clear hb); (try clear hb2); (try clear hk); (try clear hi)) | (go_at_call 9; (with_reducible refine (spec_PersistenceOf.calls k t363 t364 t375 t376 _ A9.out).mono ?_); rintro e w17 ⟨rfl, hb⟩; have n0_ := Aside0.mk (Kd.R_below (by (with_reducible repeat (first | apply Kd.R_alloc | apply Kd.R_drewN | apply Kd.R_drew)); exact HO368.out) hb); have n1_ := Aside0.mk (Kd.R_below (by (with_reducible repeat (first | apply Kd.R_alloc | apply Kd.R_drewN | apply Kd.R_drew)); exact HO372.out) hb); have n2_ := Aside0.mk (below_step (by repeat (first | (with_reducible first | exact HB.out | apply below_alloc | apply pw_below_drewN | apply below_drew1) | exact HB.out)) hb); clear HO368; clear HO372; clear HB; have HO368 := n0_; have HO372 := n1_; have HB := n2_; clear n0_ n1_ n2_; (try clear hb); (try clear hb2); (try clear hk); (try clear hi)) | (go_at_call 10; (with_reducible refine (impl_ProductRoot.calls k t363 t364 t377 t378 _ A10.out).mono ?_); rintro e w18 ⟨rfl, hb⟩; have n0_ := Aside0.mk (Kd.R_below (by (with_reducible repeat (first | apply Kd.R_alloc | apply Kd.R_drewN | apply Kd.R_drew)); exact HO368.out) hb); have n1_ := Aside0.mk (Kd.R_below (by (with_reducible repeat (first | apply Kd.R_alloc | apply Kd.R_drewN | apply Kd.R_drew)); exact HO372.out) hb); have n2_ := Aside0.mk (below_step (by repeat (first | (with_reducible first | exact HB.out | apply below_alloc | apply pw_below_drewN | apply below_drew1) | exact HB.out)) hb); clear HO368; clear HO372; clear HB; have HO368 := n0_; have HO372 := n1_; have HB := n2_; clear n0_ n1_ n2_; (try clear hb); (try clear hb2); (try clear hk); (try clear hi)) | (go_at_call 11; (with_reducible refine (spec_ProductRoot.calls k t363 t364 t379 t380 _ A11.out).mono ?_); rintro e w19 ⟨rfl, hb⟩; have n0_ := Aside0.mk (Kd.R_below (by (with_reducible repeat (first | apply Kd.R_alloc | apply Kd.R_drewN | apply Kd.R_drew)); exact HO368.out) hb); have n1_ := Aside0.mk (Kd.R_below (by (with_reducible repeat (first | apply Kd.R_alloc | apply Kd.R_drewN | apply Kd.R_drew)); exact HO372.out) hb); have n2_ := Aside0.mk (below_step (by repeat (first | (with_reducible first | exact HB.out | apply below_alloc | apply pw_below_drewN | apply below_drew1) | exact HB.out)) hb); clear HO368; clear HO372; clear HB; have HO368 := n0_; have HO372 := n1_; have HB := n2_; clear n0_ n1_ n2_; (try clear hb); (try clear hb2); (try clear hk); (try clear hi))))
  (try simp only [Act.put, List.setIfInBounds_toArray, List.set_cons_zero, List.set_cons_succ])
  go_cut [134] (fun v134 wc => ∃ (kq : Nat) (x134_11 : Bool), v134 = .bool x134_11 ∧ Aside0 (laws_FnProductRuns.j0 kq l1 t363 t364 t365 t366 t373 t377 x134_11 = some r) ∧ Aside0 (kq ≤ k) ∧ Aside0 (Kd.R (Kd.int .i64) 3 wc w.heap.size (fun _ => True) v367 t365) ∧ Aside0 (Below w.heap.size w wc))
  case first =>
   as_aux_lemma =>
   have H := HC12.out
   clear HC12
   by_cases c20 : (t366 != t370) = true
   ·rw [if_pos c20] at H
    have c20b0 : (t366 != t370) = true := c20
    (try (have c20b1 : decide (t366 = t370) = false := by simpa using c20))
    (try (have c20b2 : (t366 == t370) = false := by simpa using c20))
    (try (have c20b3 : ¬ (t366 = t370) := by simpa using c20))
    clear c20
    (first | rw [c20b0] | (simp only [i64_w, i32_w]; rw [c20b0]) | skip)
    exact (laws_FnProductRuns.j0_no HR_.out _ _ _ _ _ _ _ _ H).elim
   ·rw [if_neg c20] at H
    have c20b0 : (t366 != t370) = false := by simpa using c20
    (try (have c20b1 : decide (t366 = t370) = true := by simpa using c20))
    (try (have c20b2 : (t366 == t370) = true := by simpa using c20))
    clear c20
    (first | rw [c20b0] | (simp only [i64_w, i32_w]; rw [c20b0]) | skip)
    replace H := Option.bind_eq_some_iff.mp H
    obtain ⟨t381, A210, H⟩ := H
    replace H : (if t381 = true then (if (t374 != t376) = true then (laws_FnProductRuns.j0 k l1 t363 t364 t365 t366 t373 t377 true) else (if t373 = t375 then (if (t378 != t380) = true then (laws_FnProductRuns.j0 k l1 t363 t364 t365 t366 t373 t377 true) else (if t377 = t379 then (if (t374 != t366) = true then (laws_FnProductRuns.j0 k l1 t363 t364 t365 t366 t373 t377 true) else (laws_FnProductRuns.j0 k l1 t363 t364 t365 t366 t373 t377 (t378 != t366))) else (laws_FnProductRuns.j0 k l1 t363 t364 t365 t366 t373 t377 true))) else (laws_FnProductRuns.j0 k l1 t363 t364 t365 t366 t373 t377 true))) else (laws_FnProductRuns.j0 k l1 t363 t364 t365 t366 t373 t377 true)) = some r := H
    have A21 := Aside0.mk A210
    clear A210
    by_cases c22 : t381 = true
    ·subst c22
     have H1 : (if (t374 != t376) = true then (laws_FnProductRuns.j0 k l1 t363 t364 t365 t366 t373 t377 true) else (if t373 = t375 then (if (t378 != t380) = true then (laws_FnProductRuns.j0 k l1 t363 t364 t365 t366 t373 t377 true) else (if t377 = t379 then (if (t374 != t366) = true then (laws_FnProductRuns.j0 k l1 t363 t364 t365 t366 t373 t377 true) else (laws_FnProductRuns.j0 k l1 t363 t364 t365 t366 t373 t377 (t378 != t366))) else (laws_FnProductRuns.j0 k l1 t363 t364 t365 t366 t373 t377 true))) else (laws_FnProductRuns.j0 k l1 t363 t364 t365 t366 t373 t377 true))) = some r := by rw [if_pos rfl] at H; exact H
     clear H
     have H := H1
     clear H1
     by_cases c23 : (t374 != t376) = true
     ·rw [if_pos c23] at H
      have c23b0 : (t374 != t376) = true := c23
      (try (have c23b1 : decide (t374 = t376) = false := by simpa using c23))
      (try (have c23b2 : (t374 == t376) = false := by simpa using c23))
      (try (have c23b3 : ¬ (t374 = t376) := by simpa using c23))
      clear c23
      exact (laws_FnProductRuns.j0_no HR_.out _ _ _ _ _ _ _ _ H).elim
     ·rw [if_neg c23] at H
      have c23b0 : (t374 != t376) = false := by simpa using c23
      (try (have c23b1 : decide (t374 = t376) = true := by simpa using c23))
      (try (have c23b2 : (t374 == t376) = true := by simpa using c23))
      clear c23
      by_cases c24 : t373 = t375
      ·rw [if_pos c24] at H
       have c24b0 : (t373 == t375) = true := beq_iff_eq.mpr c24
       have c24b1 : (t373 != t375) = false := bne_eq_false_iff_eq.mpr c24
       clear c24
       by_cases c25 : (t378 != t380) = true
       ·rw [if_pos c25] at H
        have c25b0 : (t378 != t380) = true := c25
        (try (have c25b1 : decide (t378 = t380) = false := by simpa using c25))
        (try (have c25b2 : (t378 == t380) = false := by simpa using c25))
        (try (have c25b3 : ¬ (t378 = t380) := by simpa using c25))
        clear c25
        exact (laws_FnProductRuns.j0_no HR_.out _ _ _ _ _ _ _ _ H).elim
       ·rw [if_neg c25] at H
        have c25b0 : (t378 != t380) = false := by simpa using c25
        (try (have c25b1 : decide (t378 = t380) = true := by simpa using c25))
        (try (have c25b2 : (t378 == t380) = true := by simpa using c25))
        clear c25
        by_cases c26 : t377 = t379
        ·rw [if_pos c26] at H
         have c26b0 : (t377 == t379) = true := beq_iff_eq.mpr c26
         have c26b1 : (t377 != t379) = false := bne_eq_false_iff_eq.mpr c26
         clear c26
         by_cases c27 : (t374 != t366) = true
         ·rw [if_pos c27] at H
          have c27b0 : (t374 != t366) = true := c27
          (try (have c27b1 : decide (t374 = t366) = false := by simpa using c27))
          (try (have c27b2 : (t374 == t366) = false := by simpa using c27))
          (try (have c27b3 : ¬ (t374 = t366) := by simpa using c27))
          clear c27
          exact (laws_FnProductRuns.j0_no HR_.out _ _ _ _ _ _ _ _ H).elim
         ·rw [if_neg c27] at H
          have c27b0 : (t374 != t366) = false := by simpa using c27
          (try (have c27b1 : decide (t374 = t366) = true := by simpa using c27))
          (try (have c27b2 : (t374 == t366) = true := by simpa using c27))
          clear c27
          as_aux_lemma =>
           have H' := Aside0.mk H
           clear H
           obtain ⟨Ao28, co28, eo28⟩ := Kd.R_slice HO368.out
           subst eo28
           obtain ⟨Ao29, co29, eo29⟩ := Kd.R_slice HO372.out
           subst eo29
           go_wp2_with (first | (go_at_call 12; (with_reducible refine (laws_qSame.calls k _ _ t365 _ _ t369 true _ ?side1 ?side2 ?side3 ?side4 A21.out).mono ?_); (case side1 => repeat (first | exact (Kd.R_reads' HO368.out).2.2 | (with_reducible refine Kd.C_alloc ?_ _) | (with_reducible refine Kd.C_drewN ?_ _) | (with_reducible refine Kd.C_drew ?_))); (case side2 => exact (Kd.R_reads' HO368.out).2.1); (case side3 => repeat (first | exact (Kd.R_reads' HO372.out).2.2 | (with_reducible refine Kd.C_alloc ?_ _) | (with_reducible refine Kd.C_drewN ?_ _) | (with_reducible refine Kd.C_drew ?_))); (case side4 => exact (Kd.R_reads' HO372.out).2.1); rintro e w' ⟨rfl, ⟨nd, rfl⟩⟩; (try first | exact ⟨rfl, _, World.drewN_drewN _ _ _⟩ | exact ⟨rfl, _, Eq.trans (World.drewN_drewN _ _ _) (congrArg (World.drewN _) (Nat.add_assoc _ _ _))⟩)))
           repeat (go_quiet (first | (go_at_call 12; (with_reducible refine (laws_qSame.calls k _ _ t365 _ _ t369 true _ ?side1 ?side2 ?side3 ?side4 A21.out).mono ?_); (case side1 => repeat (first | exact (Kd.R_reads' HO368.out).2.2 | (with_reducible refine Kd.C_alloc ?_ _) | (with_reducible refine Kd.C_drewN ?_ _) | (with_reducible refine Kd.C_drew ?_))); (case side2 => exact (Kd.R_reads' HO368.out).2.1); (case side3 => repeat (first | exact (Kd.R_reads' HO372.out).2.2 | (with_reducible refine Kd.C_alloc ?_ _) | (with_reducible refine Kd.C_drewN ?_ _) | (with_reducible refine Kd.C_drew ?_))); (case side4 => exact (Kd.R_reads' HO372.out).2.1); rintro e w' ⟨rfl, ⟨nd, rfl⟩⟩; (try first | exact ⟨rfl, _, World.drewN_drewN _ _ _⟩ | exact ⟨rfl, _, Eq.trans (World.drewN_drewN _ _ _) (congrArg (World.drewN _) (Nat.add_assoc _ _ _))⟩))); try go_wp2_with (first | (go_at_call 12; (with_reducible refine (laws_qSame.calls k _ _ t365 _ _ t369 true _ ?side1 ?side2 ?side3 ?side4 A21.out).mono ?_); (case side1 => repeat (first | exact (Kd.R_reads' HO368.out).2.2 | (with_reducible refine Kd.C_alloc ?_ _) | (with_reducible refine Kd.C_drewN ?_ _) | (with_reducible refine Kd.C_drew ?_))); (case side2 => exact (Kd.R_reads' HO368.out).2.1); (case side3 => repeat (first | exact (Kd.R_reads' HO372.out).2.2 | (with_reducible refine Kd.C_alloc ?_ _) | (with_reducible refine Kd.C_drewN ?_ _) | (with_reducible refine Kd.C_drew ?_))); (case side4 => exact (Kd.R_reads' HO372.out).2.1); rintro e w' ⟨rfl, ⟨nd, rfl⟩⟩; (try first | exact ⟨rfl, _, World.drewN_drewN _ _ _⟩ | exact ⟨rfl, _, Eq.trans (World.drewN_drewN _ _ _) (congrArg (World.drewN _) (Nat.add_assoc _ _ _))⟩))))
           go_meet
           case rel => exact ⟨_, ((t378 != t366)), (by first | rfl | (simp; done) | (simp [*]; done)), H', ⟨by first | omega | exact Nat.le_refl _⟩, ⟨by (with_reducible repeat (first | apply Kd.R_alloc | apply Kd.R_drewN | apply Kd.R_drew)); exact Kd.R_mono HO368.out (fun _ hk => trivial)⟩, ⟨by repeat (first | (with_reducible first | exact HB.out | apply below_alloc | apply pw_below_drewN | apply below_drew1) | exact HB.out)⟩⟩
        ·rw [if_neg c26] at H
         have c26b0 : (t377 == t379) = false := beq_eq_false_iff_ne.mpr c26
         have c26b1 : (t377 != t379) = true := bne_iff_ne.mpr c26
         exact (laws_FnProductRuns.j0_no HR_.out _ _ _ _ _ _ _ _ H).elim
      ·rw [if_neg c24] at H
       have c24b0 : (t373 == t375) = false := beq_eq_false_iff_ne.mpr c24
       have c24b1 : (t373 != t375) = true := bne_iff_ne.mpr c24
       exact (laws_FnProductRuns.j0_no HR_.out _ _ _ _ _ _ _ _ H).elim
    ·replace c22 := Bool.eq_false_iff.mpr c22
     subst c22
     have H1 : (laws_FnProductRuns.j0 k l1 t363 t364 t365 t366 t373 t377 true) = some r := by rw [if_neg (show ¬ (false = true) by decide)] at H; exact H
     clear H
     have H := H1
     clear H1
     exact (laws_FnProductRuns.j0_no HR_.out _ _ _ _ _ _ _ _ H).elim
  case rest =>
   as_aux_lemma =>
   clear HC12
   try clear c1
   try clear c2
   try clear p2
   try clear c3
   try clear c4
   try clear c20
   try clear c20b0
   try clear c20b1
   try clear c20b2
   try clear c22
   try clear c23
   try clear c23b0
   try clear c23b1
   try clear c23b2
   try clear c24
   try clear c24b0
   try clear c24b1
   try clear c25
   try clear c25b0
   try clear c25b1
   try clear c25b2
   try clear c26
   try clear c26b0
   try clear c26b1
   try clear c27
   try clear c27b0
   try clear c27b1
   try clear c27b2
   obtain ⟨kq, x134_11, rfl, HA, HJ11, HO_7, HB⟩ := hcut
   cases kq with
   | zero => exact absurd HA.out (by simp [laws_FnProductRuns.j0])
   | succ kj11 =>
    have H := HA.out
    clear HA
    simp only [laws_FnProductRuns.j0] at H
    by_cases c30 : x134_11 = true
    ·subst c30
     have H1 : (some false) = some r := by rw [if_pos rfl] at H; exact H
     clear H
     have H := H1
     clear H1
     exact absurd (Option.some.inj H) (by rw [HR_.out]; decide)
    ·replace c30 := Bool.eq_false_iff.mpr c30
     subst c30
     have H1 : (if t366 = true then (if (t365.length : Int) = (wrap64 (t373 + 1)) then (if 0 < (t365.length : Int) then (if (rd t365 0) = t363 then (if 0 ≤ t373 then (if t373 < (t365.length : Int) then (if (rd t365 t373) = t377 then (laws_FnProductRuns.j1 kj11 l1 t363 t364 t365 t377 (decide (t377 ≥ t364))) else (laws_FnProductRuns.j1 kj11 l1 t363 t364 t365 t377 true)) else (none)) else (none)) else (laws_FnProductRuns.j1 kj11 l1 t363 t364 t365 t377 true)) else (none)) else (laws_FnProductRuns.j1 kj11 l1 t363 t364 t365 t377 true)) else (laws_FnProductRuns.j3 kj11 l1)) = some r := by rw [if_neg (show ¬ (false = true) by decide)] at H; exact H
     clear H
     have H := H1
     clear H1
     have HC31 := Aside0.mk H
     clear H
     go_upto_if 135 with (fail)
     repeat (go_quiet (fail); go_upto_if 135 with (fail))
     go_cut [] (fun wc => ∃ (kq : Nat), Aside0 (laws_FnProductRuns.j3 kq l1 = some r) ∧ Aside0 (kq ≤ kj11) ∧ Aside0 (Below w.heap.size w wc))
     case first =>
      as_aux_lemma =>
      have H := HC31.out
      clear HC31
      by_cases c32 : t366 = true
      ·subst c32
       have H1 : (if (t365.length : Int) = (wrap64 (t373 + 1)) then (if 0 < (t365.length : Int) then (if (rd t365 0) = t363 then (if 0 ≤ t373 then (if t373 < (t365.length : Int) then (if (rd t365 t373) = t377 then (laws_FnProductRuns.j1 kj11 l1 t363 t364 t365 t377 (decide (t377 ≥ t364))) else (laws_FnProductRuns.j1 kj11 l1 t363 t364 t365 t377 true)) else (none)) else (none)) else (laws_FnProductRuns.j1 kj11 l1 t363 t364 t365 t377 true)) else (none)) else (laws_FnProductRuns.j1 kj11 l1 t363 t364 t365 t377 true)) = some r := by rw [if_pos rfl] at H; exact H
       clear H
       have H := H1
       clear H1
       have HC33 := Aside0.mk H
       clear H
       go_upto_region 13 with (fail)
       repeat (go_quiet (fail); go_upto_region 13 with (fail))
       go_cut [160] (fun v160 wc => ∃ (kq : Nat) (x160_32 : Bool), v160 = .bool x160_32 ∧ Aside0 (laws_FnProductRuns.j1 kq l1 t363 t364 t365 t377 x160_32 = some r) ∧ Aside0 (kq ≤ kj11) ∧ Aside0 (Kd.R (Kd.int .i64) 3 wc w.heap.size (fun _ => True) v367 t365) ∧ Aside0 (Below w.heap.size w wc))
       case first =>
        as_aux_lemma =>
        have H := HC33.out
        clear HC33
        by_cases c34 : (t365.length : Int) = (wrap64 (t373 + 1))
        ·rw [if_pos c34] at H
         have c34b0 : ((t365.length : Int) == (wrap64 (t373 + 1))) = true := beq_iff_eq.mpr c34
         have c34b1 : ((t365.length : Int) != (wrap64 (t373 + 1))) = false := bne_eq_false_iff_eq.mpr c34
         clear c34
         (first | rw [c34b0] | (simp only [i64_w, i32_w]; rw [c34b0]) | skip)
         by_cases c35 : 0 < (t365.length : Int)
         ·rw [if_pos c35] at H
          have c35b0 : decide (0 < (t365.length : Int)) = true := decide_eq_true c35
          have c35b1 : decide (0 < t365.length) = true := decide_eq_true (by omega)
          clear c35
          by_cases c36 : (rd t365 0) = t363
          ·rw [if_pos c36] at H
           have c36b0 : ((rd t365 0) == t363) = true := beq_iff_eq.mpr c36
           have c36b1 : ((rd t365 0) != t363) = false := bne_eq_false_iff_eq.mpr c36
           clear c36
           by_cases c37 : 0 ≤ t373
           ·rw [if_pos c37] at H
            have c37b0 : decide (0 ≤ t373) = true := decide_eq_true c37
            clear c37
            by_cases c38 : t373 < (t365.length : Int)
            ·rw [if_pos c38] at H
             have c38b0 : decide (t373 < (t365.length : Int)) = true := decide_eq_true c38
             clear c38
             by_cases c39 : (rd t365 t373) = t377
             ·rw [if_pos c39] at H
              have c39b0 : ((rd t365 t373) == t377) = true := beq_iff_eq.mpr c39
              have c39b1 : ((rd t365 t373) != t377) = false := bne_eq_false_iff_eq.mpr c39
              clear c39
              as_aux_lemma =>
               have H' := Aside0.mk H
               clear H
               obtain ⟨Ao40, co40, eo40⟩ := Kd.R_slice HO_7.out
               subst eo40
               have p382 : 0 ≤ (0 : Int) := (by omega)
               have q382 : 0 < (t365.length : Int) := of_decide_eq_true (by first | (with_reducible assumption) | assumption)
               obtain ⟨ad382, e382, hx382_0⟩ := Kd.at_int (Kd.R_reads' HO_7.out).2.2 0 p382 q382
               cases e382
               have qi382 : (0 < t365.length) = True := eq_true (by omega)
               (try rw [show ((0 : Int)).toNat = 0 from rfl] at hx382_0)
               (try rw [Addr.add_zero'] at hx382_0)
               replace p382 := eq_true p382
               replace q382 := eq_true q382
               have p383 : 0 ≤ (t373 : Int) := of_decide_eq_true (by first | (with_reducible assumption) | assumption)
               have q383 : t373 < (t365.length : Int) := of_decide_eq_true (by first | (with_reducible assumption) | assumption)
               obtain ⟨ad383, e383, hx383_0⟩ := Kd.at_int (Kd.R_reads' HO_7.out).2.2 t373 p383 q383
               obtain rfl : ad382 = ad383 := (by injection e383)
               replace p383 := eq_true p383
               replace q383 := eq_true q383
               go_wp2
               repeat (go_quiet (fail); try go_wp2)
               go_meet
               case rel => exact ⟨_, (decide (t377 ≥ t364)), (by first | rfl | (simp; done) | (simp [*]; done)), H', ⟨by have := HJ11.out; first | omega | exact Nat.le_refl _⟩, ⟨by (with_reducible repeat (first | apply Kd.R_alloc | apply Kd.R_drewN | apply Kd.R_drew)); exact HO_7.out⟩, ⟨by repeat (first | (with_reducible first | exact HB.out | apply below_alloc | apply pw_below_drewN | apply below_drew1) | exact HB.out)⟩⟩
             ·rw [if_neg c39] at H
              have c39b0 : ((rd t365 t373) == t377) = false := beq_eq_false_iff_ne.mpr c39
              have c39b1 : ((rd t365 t373) != t377) = true := bne_iff_ne.mpr c39
              exact (laws_FnProductRuns.j1_no HR_.out _ _ _ _ _ _ H).elim
            ·rw [if_neg c38] at H
             exact absurd H (by simp)
           ·rw [if_neg c37] at H
            exact absurd H (by simp)
          ·rw [if_neg c36] at H
           have c36b0 : ((rd t365 0) == t363) = false := beq_eq_false_iff_ne.mpr c36
           have c36b1 : ((rd t365 0) != t363) = true := bne_iff_ne.mpr c36
           exact (laws_FnProductRuns.j1_no HR_.out _ _ _ _ _ _ H).elim
         ·rw [if_neg c35] at H
          exact absurd H (by simp)
        ·rw [if_neg c34] at H
         have c34b0 : ((t365.length : Int) == (wrap64 (t373 + 1))) = false := beq_eq_false_iff_ne.mpr c34
         have c34b1 : ((t365.length : Int) != (wrap64 (t373 + 1))) = true := bne_iff_ne.mpr c34
         (first | rw [c34b0] | (simp only [i64_w, i32_w]; rw [c34b0]) | skip)
         exact (laws_FnProductRuns.j1_no HR_.out _ _ _ _ _ _ H).elim
       case rest =>
        as_aux_lemma =>
        clear HC33
        try clear c1
        try clear c2
        try clear p2
        try clear c3
        try clear p3
        try clear q3
        try clear hx3
        try clear qi3
        try clear c4
        try clear p6
        try clear c20
        try clear c20b0
        try clear c20b1
        try clear c20b2
        try clear c22
        try clear c23
        try clear c23b0
        try clear c23b1
        try clear c23b2
        try clear c24
        try clear c24b0
        try clear c24b1
        try clear c25
        try clear c25b0
        try clear c25b1
        try clear c25b2
        try clear c26
        try clear c26b0
        try clear c26b1
        try clear c27
        try clear c27b0
        try clear c27b1
        try clear c27b2
        try clear c30
        try clear c32
        try clear c34
        try clear c34b0
        try clear c34b1
        try clear c35
        try clear c35b0
        try clear c35b1
        try clear c36
        try clear c36b0
        try clear c36b1
        try clear c37
        try clear c37b0
        try clear c38
        try clear c38b0
        try clear p38
        try clear q38
        try clear hx38
        try clear qi38
        try clear c39
        try clear c39b0
        try clear c39b1
        try clear hx382_0
        try clear hx383_0
        try clear p2
        try clear p382
        try clear p383
        try clear q382
        try clear q383
        obtain ⟨kq, x160_32, rfl, HA, HJ32, HO_7, HB⟩ := hcut
        cases kq with
        | zero => exact absurd HA.out (by simp [laws_FnProductRuns.j1])
        | succ kj32 =>
         have H := HA.out
         clear HA
         simp only [laws_FnProductRuns.j1] at H
         by_cases c41 : x160_32 = true
         ·subst c41
          have H1 : (some false) = some r := by rw [if_pos rfl] at H; exact H
          clear H
          have H := H1
          clear H1
          exact absurd (Option.some.inj H) (by rw [HR_.out]; decide)
         ·replace c41 := Bool.eq_false_iff.mpr c41
          subst c41
          have H1 : (laws_FnProductRuns.l0 kj32 l1 t363 t364 t365 t377 1) = some r := by rw [if_neg (show ¬ (false = true) by decide)] at H; exact H
          clear H
          have H := H1
          clear H1
          have H' := Aside0.mk H
          clear H
          go_wp2
          repeat (go_quiet (fail); try go_wp2)
          go_loopg [19] kj32 (fun kq v19 w' => ∃ (x19_3 : Int), v19 = .int .i64 x19_3 ∧ Aside0 (laws_FnProductRuns.l0 kq l1 t363 t364 t365 t377 x19_3 = some r) ∧ Aside0 (kq ≤ kj32) ∧ Aside0 (Kd.R (Kd.int .i64) 3 w' w.heap.size (fun _ => True) v367 t365) ∧ Aside0 (Below w.heap.size w w'))
          case atStart => exact ⟨(1), (by first | rfl | (simp; done) | (simp [*]; done)), H', ⟨Nat.le_refl _⟩, ⟨by (with_reducible repeat (first | apply Kd.R_alloc | apply Kd.R_drewN | apply Kd.R_drew)); exact HO_7.out⟩, ⟨by repeat (first | (with_reducible first | exact HB.out | apply below_alloc | apply pw_below_drewN | apply below_drew1) | exact HB.out)⟩⟩
          case round =>
           as_aux_lemma =>
           clear H'
           try clear c1
           try clear c2
           try clear p2
           try clear c3
           try clear p3
           try clear q3
           try clear hx3
           try clear qi3
           try clear c4
           try clear p6
           try clear c20
           try clear c20b0
           try clear c20b1
           try clear c20b2
           try clear c22
           try clear c23
           try clear c23b0
           try clear c23b1
           try clear c23b2
           try clear c24
           try clear c24b0
           try clear c24b1
           try clear c25
           try clear c25b0
           try clear c25b1
           try clear c25b2
           try clear c26
           try clear c26b0
           try clear c26b1
           try clear c27
           try clear c27b0
           try clear c27b1
           try clear c27b2
           try clear c30
           try clear c32
           try clear c34
           try clear c34b0
           try clear c34b1
           try clear c35
           try clear c35b0
           try clear c35b1
           try clear c36
           try clear c36b0
           try clear c36b1
           try clear c37
           try clear c37b0
           try clear c38
           try clear c38b0
           try clear p38
           try clear q38
           try clear hx38
           try clear qi38
           try clear c39
           try clear c39b0
           try clear c39b1
           try clear c41
           try clear hx382_0
           try clear hx383_0
           try clear p2
           try clear p3
           try clear p38
           try clear p382
           try clear p383
           try clear p6
           try clear q3
           try clear q38
           try clear q382
           try clear q383
           obtain ⟨x19_3, rfl, HA, HK3, HO_7, HB⟩ := hrel
           cases gk with
           | zero => exact absurd HA.out (by simp [laws_FnProductRuns.l0])
           | succ k3 =>
            have H := HA.out
            clear HA
            simp only [laws_FnProductRuns.l0] at H
            by_cases c42 : x19_3 < (t365.length : Int)
            ·rw [if_pos c42] at H
             have c42b0 : decide (x19_3 < (t365.length : Int)) = true := decide_eq_true c42
             clear c42
             obtain ⟨ji43, hji43⟩ : ∃ j_ : Int, (wrap64 (x19_3 - 1)) = j_ := ⟨_, rfl⟩
             replace H : (if 0 ≤ (ji43) then (if (ji43) < (t365.length : Int) then ((impl_DigitProduct.f k3 (rd t365 (ji43)) t364).bind fun bt385 => (if bt385.2 = true then (if 0 ≤ x19_3 then (if bt385.1 = (rd t365 x19_3) then (if (rd t365 x19_3) ≥ (rd t365 (ji43)) then (some false) else (laws_FnProductRuns.l0 k3 l1 t363 t364 t365 t377 (wrap64 (x19_3 + 1)))) else (some false)) else (none)) else (some false))) else (none)) else (none)) = some r := by first | (rw [hji43] at H; exact H) | (simp only [hji43] at H ⊢; exact H)
             have hji43w : (IntKind.i64.wrap (x19_3 - 1)) = ji43 := (i64_w _).trans hji43
             by_cases c44 : 0 ≤ (ji43)
             ·rw [if_pos c44] at H
              have c44b0 : decide (0 ≤ (ji43)) = true := decide_eq_true c44
              clear c44
              by_cases c45 : (ji43) < (t365.length : Int)
              ·rw [if_pos c45] at H
               have c45b0 : decide ((ji43) < (t365.length : Int)) = true := decide_eq_true c45
               clear c45
               replace H := Option.bind_eq_some_iff.mp H
               obtain ⟨⟨t385, t386⟩, A460, H⟩ := H
               replace H : (if t386 = true then (if 0 ≤ x19_3 then (if t385 = (rd t365 x19_3) then (if (rd t365 x19_3) ≥ (rd t365 (ji43)) then (some false) else (laws_FnProductRuns.l0 k3 l1 t363 t364 t365 t377 (wrap64 (x19_3 + 1)))) else (some false)) else (none)) else (some false)) = some r := H
               have A46 := Aside0.mk A460
               clear A460
               by_cases c47 : t386 = true
               ·subst c47
                have H1 : (if 0 ≤ x19_3 then (if t385 = (rd t365 x19_3) then (if (rd t365 x19_3) ≥ (rd t365 (ji43)) then (some false) else (laws_FnProductRuns.l0 k3 l1 t363 t364 t365 t377 (wrap64 (x19_3 + 1)))) else (some false)) else (none)) = some r := by rw [if_pos rfl] at H; exact H
                clear H
                have H := H1
                clear H1
                by_cases c48 : 0 ≤ x19_3
                ·rw [if_pos c48] at H
                 have c48b0 : decide (0 ≤ x19_3) = true := decide_eq_true c48
                 clear c48
                 by_cases c49 : t385 = (rd t365 x19_3)
                 ·rw [if_pos c49] at H
                  have c49b0 : (t385 == (rd t365 x19_3)) = true := beq_iff_eq.mpr c49
                  have c49b1 : (t385 != (rd t365 x19_3)) = false := bne_eq_false_iff_eq.mpr c49
                  clear c49
                  by_cases c50 : (rd t365 x19_3) ≥ (rd t365 (ji43))
                  ·rw [if_pos c50] at H
                   have c50b0 : decide ((rd t365 (ji43)) ≤ (rd t365 x19_3)) = true := decide_eq_true c50
                   clear c50
                   exact absurd (Option.some.inj H) (by rw [HR_.out]; decide)
                  ·rw [if_neg c50] at H
                   have c50b0 : decide ((rd t365 (ji43)) ≤ (rd t365 x19_3)) = false := decide_eq_false c50
                   clear c50
                   as_aux_lemma =>
                    have H' := Aside0.mk H
                    clear H
                    obtain ⟨Ao51, co51, eo51⟩ := Kd.R_slice HO_7.out
                    subst eo51
                    have p384 : 0 ≤ ((ji43) : Int) := of_decide_eq_true (by first | (with_reducible assumption) | assumption)
                    have q384 : (ji43) < (t365.length : Int) := of_decide_eq_true (by first | (with_reducible assumption) | assumption)
                    obtain ⟨ad384, e384, hx384_0⟩ := Kd.at_int (Kd.R_reads' HO_7.out).2.2 (ji43) p384 q384
                    cases e384
                    replace p384 := eq_true p384
                    replace q384 := eq_true q384
                    go_wp2_with (first | (go_at_call 13; (with_reducible refine (impl_DigitProduct.calls k3 (rd t365 (ji43)) t364 t385 true _ A46.out).mono ?_); rintro e w52 ⟨rfl, hb⟩; have n0_ := Aside0.mk (Kd.R_below (by (with_reducible repeat (first | apply Kd.R_alloc | apply Kd.R_drewN | apply Kd.R_drew)); exact HO_7.out) hb); have n1_ := Aside0.mk (below_step (by repeat (first | (with_reducible first | exact HB.out | apply below_alloc | apply pw_below_drewN | apply below_drew1) | exact HB.out)) hb); clear HO_7; clear HB; have HO_7 := n0_; have HB := n1_; clear n0_ n1_; (try clear hb); (try clear hb2); (try clear hk); (try clear hi); have p387 : 0 ≤ (x19_3 : Int) := of_decide_eq_true (by first | (with_reducible assumption) | assumption); have q387 : x19_3 < (t365.length : Int) := of_decide_eq_true (by first | (with_reducible assumption) | assumption); obtain ⟨ad387, e387, hx387_0⟩ := Kd.at_int (Kd.R_reads' HO_7.out).2.2 x19_3 p387 q387; obtain rfl : ad384 = ad387 := (by injection e387); replace p387 := eq_true p387; replace q387 := eq_true q387; have p388 : 0 ≤ (x19_3 : Int) := of_decide_eq_true (by first | (with_reducible assumption) | assumption); have q388 : x19_3 < (t365.length : Int) := of_decide_eq_true (by first | (with_reducible assumption) | assumption); obtain ⟨ad388, e388, hx388_0⟩ := Kd.at_int (Kd.R_reads' HO_7.out).2.2 x19_3 p388 q388; obtain rfl : ad384 = ad388 := (by injection e388); replace p388 := eq_true p388; replace q388 := eq_true q388; have p389 : 0 ≤ ((ji43) : Int) := of_decide_eq_true (by first | (with_reducible assumption) | assumption); have q389 : (ji43) < (t365.length : Int) := of_decide_eq_true (by first | (with_reducible assumption) | assumption); obtain ⟨ad389, e389, hx389_0⟩ := Kd.at_int (Kd.R_reads' HO_7.out).2.2 (ji43) p389 q389; obtain rfl : ad384 = ad389 := (by injection e389); replace p389 := eq_true p389; replace q389 := eq_true q389))
                    repeat (go_quiet (first | (go_at_call 13; (with_reducible refine (impl_DigitProduct.calls k3 (rd t365 (ji43)) t364 t385 true _ A46.out).mono ?_); rintro e w52 ⟨rfl, hb⟩; have n0_ := Aside0.mk (Kd.R_below (by (with_reducible repeat (first | apply Kd.R_alloc | apply Kd.R_drewN | apply Kd.R_drew)); exact HO_7.out) hb); have n1_ := Aside0.mk (below_step (by repeat (first | (with_reducible first | exact HB.out | apply below_alloc | apply pw_below_drewN | apply below_drew1) | exact HB.out)) hb); clear HO_7; clear HB; have HO_7 := n0_; have HB := n1_; clear n0_ n1_; (try clear hb); (try clear hb2); (try clear hk); (try clear hi); have p387 : 0 ≤ (x19_3 : Int) := of_decide_eq_true (by first | (with_reducible assumption) | assumption); have q387 : x19_3 < (t365.length : Int) := of_decide_eq_true (by first | (with_reducible assumption) | assumption); obtain ⟨ad387, e387, hx387_0⟩ := Kd.at_int (Kd.R_reads' HO_7.out).2.2 x19_3 p387 q387; obtain rfl : ad384 = ad387 := (by injection e387); replace p387 := eq_true p387; replace q387 := eq_true q387; have p388 : 0 ≤ (x19_3 : Int) := of_decide_eq_true (by first | (with_reducible assumption) | assumption); have q388 : x19_3 < (t365.length : Int) := of_decide_eq_true (by first | (with_reducible assumption) | assumption); obtain ⟨ad388, e388, hx388_0⟩ := Kd.at_int (Kd.R_reads' HO_7.out).2.2 x19_3 p388 q388; obtain rfl : ad384 = ad388 := (by injection e388); replace p388 := eq_true p388; replace q388 := eq_true q388; have p389 : 0 ≤ ((ji43) : Int) := of_decide_eq_true (by first | (with_reducible assumption) | assumption); have q389 : (ji43) < (t365.length : Int) := of_decide_eq_true (by first | (with_reducible assumption) | assumption); obtain ⟨ad389, e389, hx389_0⟩ := Kd.at_int (Kd.R_reads' HO_7.out).2.2 (ji43) p389 q389; obtain rfl : ad384 = ad389 := (by injection e389); replace p389 := eq_true p389; replace q389 := eq_true q389)); try go_wp2_with (first | (go_at_call 13; (with_reducible refine (impl_DigitProduct.calls k3 (rd t365 (ji43)) t364 t385 true _ A46.out).mono ?_); rintro e w52 ⟨rfl, hb⟩; have n0_ := Aside0.mk (Kd.R_below (by (with_reducible repeat (first | apply Kd.R_alloc | apply Kd.R_drewN | apply Kd.R_drew)); exact HO_7.out) hb); have n1_ := Aside0.mk (below_step (by repeat (first | (with_reducible first | exact HB.out | apply below_alloc | apply pw_below_drewN | apply below_drew1) | exact HB.out)) hb); clear HO_7; clear HB; have HO_7 := n0_; have HB := n1_; clear n0_ n1_; (try clear hb); (try clear hb2); (try clear hk); (try clear hi); have p387 : 0 ≤ (x19_3 : Int) := of_decide_eq_true (by first | (with_reducible assumption) | assumption); have q387 : x19_3 < (t365.length : Int) := of_decide_eq_true (by first | (with_reducible assumption) | assumption); obtain ⟨ad387, e387, hx387_0⟩ := Kd.at_int (Kd.R_reads' HO_7.out).2.2 x19_3 p387 q387; obtain rfl : ad384 = ad387 := (by injection e387); replace p387 := eq_true p387; replace q387 := eq_true q387; have p388 : 0 ≤ (x19_3 : Int) := of_decide_eq_true (by first | (with_reducible assumption) | assumption); have q388 : x19_3 < (t365.length : Int) := of_decide_eq_true (by first | (with_reducible assumption) | assumption); obtain ⟨ad388, e388, hx388_0⟩ := Kd.at_int (Kd.R_reads' HO_7.out).2.2 x19_3 p388 q388; obtain rfl : ad384 = ad388 := (by injection e388); replace p388 := eq_true p388; replace q388 := eq_true q388; have p389 : 0 ≤ ((ji43) : Int) := of_decide_eq_true (by first | (with_reducible assumption) | assumption); have q389 : (ji43) < (t365.length : Int) := of_decide_eq_true (by first | (with_reducible assumption) | assumption); obtain ⟨ad389, e389, hx389_0⟩ := Kd.at_int (Kd.R_reads' HO_7.out).2.2 (ji43) p389 q389; obtain rfl : ad384 = ad389 := (by injection e389); replace p389 := eq_true p389; replace q389 := eq_true q389)))
                    go_roundg k3
                    case measure => have := HJ11.out; have := HJ32.out; have := HK3.out; omega
                    case rel => exact ⟨(wrap64 (x19_3 + 1)), (by first | rfl | (simp; done) | (simp [*]; done)), H', ⟨by have := HJ11.out; have := HJ32.out; have := HK3.out; omega⟩, ⟨by (with_reducible repeat (first | apply Kd.R_alloc | apply Kd.R_drewN | apply Kd.R_drew)); exact HO_7.out⟩, ⟨by repeat (first | (with_reducible first | exact HB.out | apply below_alloc | apply pw_below_drewN | apply below_drew1) | exact HB.out)⟩⟩
                 ·rw [if_neg c49] at H
                  have c49b0 : (t385 == (rd t365 x19_3)) = false := beq_eq_false_iff_ne.mpr c49
                  have c49b1 : (t385 != (rd t365 x19_3)) = true := bne_iff_ne.mpr c49
                  exact absurd (Option.some.inj H) (by rw [HR_.out]; decide)
                ·rw [if_neg c48] at H
                 exact absurd H (by simp)
               ·replace c47 := Bool.eq_false_iff.mpr c47
                subst c47
                have H1 : (some false) = some r := by rw [if_neg (show ¬ (false = true) by decide)] at H; exact H
                clear H
                have H := H1
                clear H1
                exact absurd (Option.some.inj H) (by rw [HR_.out]; decide)
              ·rw [if_neg c45] at H
               exact absurd H (by simp)
             ·rw [if_neg c44] at H
              exact absurd H (by simp)
            ·rw [if_neg c42] at H
             have c42b0 : decide (x19_3 < (t365.length : Int)) = false := decide_eq_false c42
             clear c42
             replace H := Option.bind_eq_some_iff.mp H
             obtain ⟨⟨t390, t391⟩, A530, H⟩ := H
             replace H : ((impl_ProductRoot.f k3 t390 t364).bind fun bt392 => ((impl_DigitProduct.f k3 t363 t364).bind fun bt394 => (if t391 = true then (if bt392.2 = true then (if bt394.2 = true then (if bt394.1 > 0 then (if t363 ≥ t364 then (if bt392.1 = t377 then (laws_FnProductRuns.j3 k3 l1) else (some false)) else (laws_FnProductRuns.j3 k3 l1)) else (laws_FnProductRuns.j3 k3 l1)) else (some false)) else (some false)) else (some false)))) = some r := H
             have A53 := Aside0.mk A530
             clear A530
             replace H := Option.bind_eq_some_iff.mp H
             obtain ⟨⟨t392, t393⟩, A540, H⟩ := H
             replace H : ((impl_DigitProduct.f k3 t363 t364).bind fun bt394 => (if t391 = true then (if t393 = true then (if bt394.2 = true then (if bt394.1 > 0 then (if t363 ≥ t364 then (if t392 = t377 then (laws_FnProductRuns.j3 k3 l1) else (some false)) else (laws_FnProductRuns.j3 k3 l1)) else (laws_FnProductRuns.j3 k3 l1)) else (some false)) else (some false)) else (some false))) = some r := H
             have A54 := Aside0.mk A540
             clear A540
             replace H := Option.bind_eq_some_iff.mp H
             obtain ⟨⟨t394, t395⟩, A550, H⟩ := H
             replace H : (if t391 = true then (if t393 = true then (if t395 = true then (if t394 > 0 then (if t363 ≥ t364 then (if t392 = t377 then (laws_FnProductRuns.j3 k3 l1) else (some false)) else (laws_FnProductRuns.j3 k3 l1)) else (laws_FnProductRuns.j3 k3 l1)) else (some false)) else (some false)) else (some false)) = some r := H
             have A55 := Aside0.mk A550
             clear A550
             by_cases c56 : t391 = true
             ·subst c56
              have H1 : (if t393 = true then (if t395 = true then (if t394 > 0 then (if t363 ≥ t364 then (if t392 = t377 then (laws_FnProductRuns.j3 k3 l1) else (some false)) else (laws_FnProductRuns.j3 k3 l1)) else (laws_FnProductRuns.j3 k3 l1)) else (some false)) else (some false)) = some r := by rw [if_pos rfl] at H; exact H
              clear H
              have H := H1
              clear H1
              by_cases c57 : t393 = true
              ·subst c57
               have H1 : (if t395 = true then (if t394 > 0 then (if t363 ≥ t364 then (if t392 = t377 then (laws_FnProductRuns.j3 k3 l1) else (some false)) else (laws_FnProductRuns.j3 k3 l1)) else (laws_FnProductRuns.j3 k3 l1)) else (some false)) = some r := by rw [if_pos rfl] at H; exact H
               clear H
               have H := H1
               clear H1
               by_cases c58 : t395 = true
               ·subst c58
                have H1 : (if t394 > 0 then (if t363 ≥ t364 then (if t392 = t377 then (laws_FnProductRuns.j3 k3 l1) else (some false)) else (laws_FnProductRuns.j3 k3 l1)) else (laws_FnProductRuns.j3 k3 l1)) = some r := by rw [if_pos rfl] at H; exact H
                clear H
                have H := H1
                clear H1
                by_cases c59 : t394 > 0
                ·rw [if_pos c59] at H
                 have c59b0 : decide (0 < t394) = true := decide_eq_true c59
                 clear c59
                 by_cases c60 : t363 ≥ t364
                 ·rw [if_pos c60] at H
                  have c60b0 : decide (t364 ≤ t363) = true := decide_eq_true c60
                  clear c60
                  by_cases c61 : t392 = t377
                  ·rw [if_pos c61] at H
                   have c61b0 : (t392 == t377) = true := beq_iff_eq.mpr c61
                   have c61b1 : (t392 != t377) = false := bne_eq_false_iff_eq.mpr c61
                   clear c61
                   as_aux_lemma =>
                    have H' := Aside0.mk H
                    clear H
                    obtain ⟨Ao62, co62, eo62⟩ := Kd.R_slice HO_7.out
                    subst eo62
                    go_wp2_with (first | (go_at_call 14; (with_reducible refine (impl_SortedUp.calls k3 t363 t364 t390 true _ A53.out).mono ?_); rintro e w63 ⟨rfl, hb⟩; have n0_ := Aside0.mk (Kd.R_below (by (with_reducible repeat (first | apply Kd.R_alloc | apply Kd.R_drewN | apply Kd.R_drew)); exact HO_7.out) hb); have n1_ := Aside0.mk (below_step (by repeat (first | (with_reducible first | exact HB.out | apply below_alloc | apply pw_below_drewN | apply below_drew1) | exact HB.out)) hb); clear HO_7; clear HB; have HO_7 := n0_; have HB := n1_; clear n0_ n1_; (try clear hb); (try clear hb2); (try clear hk); (try clear hi)) | (go_at_call 10; (with_reducible refine (impl_ProductRoot.calls k3 t390 t364 t392 true _ A54.out).mono ?_); rintro e w64 ⟨rfl, hb⟩; have n0_ := Aside0.mk (Kd.R_below (by (with_reducible repeat (first | apply Kd.R_alloc | apply Kd.R_drewN | apply Kd.R_drew)); exact HO_7.out) hb); have n1_ := Aside0.mk (below_step (by repeat (first | (with_reducible first | exact HB.out | apply below_alloc | apply pw_below_drewN | apply below_drew1) | exact HB.out)) hb); clear HO_7; clear HB; have HO_7 := n0_; have HB := n1_; clear n0_ n1_; (try clear hb); (try clear hb2); (try clear hk); (try clear hi)) | (go_at_call 13; (with_reducible refine (impl_DigitProduct.calls k3 t363 t364 t394 true _ A55.out).mono ?_); rintro e w65 ⟨rfl, hb⟩; have n0_ := Aside0.mk (Kd.R_below (by (with_reducible repeat (first | apply Kd.R_alloc | apply Kd.R_drewN | apply Kd.R_drew)); exact HO_7.out) hb); have n1_ := Aside0.mk (below_step (by repeat (first | (with_reducible first | exact HB.out | apply below_alloc | apply pw_below_drewN | apply below_drew1) | exact HB.out)) hb); clear HO_7; clear HB; have HO_7 := n0_; have HB := n1_; clear n0_ n1_; (try clear hb); (try clear hb2); (try clear hk); (try clear hi)))
                    repeat (go_quiet (first | (go_at_call 14; (with_reducible refine (impl_SortedUp.calls k3 t363 t364 t390 true _ A53.out).mono ?_); rintro e w63 ⟨rfl, hb⟩; have n0_ := Aside0.mk (Kd.R_below (by (with_reducible repeat (first | apply Kd.R_alloc | apply Kd.R_drewN | apply Kd.R_drew)); exact HO_7.out) hb); have n1_ := Aside0.mk (below_step (by repeat (first | (with_reducible first | exact HB.out | apply below_alloc | apply pw_below_drewN | apply below_drew1) | exact HB.out)) hb); clear HO_7; clear HB; have HO_7 := n0_; have HB := n1_; clear n0_ n1_; (try clear hb); (try clear hb2); (try clear hk); (try clear hi)) | (go_at_call 10; (with_reducible refine (impl_ProductRoot.calls k3 t390 t364 t392 true _ A54.out).mono ?_); rintro e w64 ⟨rfl, hb⟩; have n0_ := Aside0.mk (Kd.R_below (by (with_reducible repeat (first | apply Kd.R_alloc | apply Kd.R_drewN | apply Kd.R_drew)); exact HO_7.out) hb); have n1_ := Aside0.mk (below_step (by repeat (first | (with_reducible first | exact HB.out | apply below_alloc | apply pw_below_drewN | apply below_drew1) | exact HB.out)) hb); clear HO_7; clear HB; have HO_7 := n0_; have HB := n1_; clear n0_ n1_; (try clear hb); (try clear hb2); (try clear hk); (try clear hi)) | (go_at_call 13; (with_reducible refine (impl_DigitProduct.calls k3 t363 t364 t394 true _ A55.out).mono ?_); rintro e w65 ⟨rfl, hb⟩; have n0_ := Aside0.mk (Kd.R_below (by (with_reducible repeat (first | apply Kd.R_alloc | apply Kd.R_drewN | apply Kd.R_drew)); exact HO_7.out) hb); have n1_ := Aside0.mk (below_step (by repeat (first | (with_reducible first | exact HB.out | apply below_alloc | apply pw_below_drewN | apply below_drew1) | exact HB.out)) hb); clear HO_7; clear HB; have HO_7 := n0_; have HB := n1_; clear n0_ n1_; (try clear hb); (try clear hb2); (try clear hk); (try clear hi))); try go_wp2_with (first | (go_at_call 14; (with_reducible refine (impl_SortedUp.calls k3 t363 t364 t390 true _ A53.out).mono ?_); rintro e w63 ⟨rfl, hb⟩; have n0_ := Aside0.mk (Kd.R_below (by (with_reducible repeat (first | apply Kd.R_alloc | apply Kd.R_drewN | apply Kd.R_drew)); exact HO_7.out) hb); have n1_ := Aside0.mk (below_step (by repeat (first | (with_reducible first | exact HB.out | apply below_alloc | apply pw_below_drewN | apply below_drew1) | exact HB.out)) hb); clear HO_7; clear HB; have HO_7 := n0_; have HB := n1_; clear n0_ n1_; (try clear hb); (try clear hb2); (try clear hk); (try clear hi)) | (go_at_call 10; (with_reducible refine (impl_ProductRoot.calls k3 t390 t364 t392 true _ A54.out).mono ?_); rintro e w64 ⟨rfl, hb⟩; have n0_ := Aside0.mk (Kd.R_below (by (with_reducible repeat (first | apply Kd.R_alloc | apply Kd.R_drewN | apply Kd.R_drew)); exact HO_7.out) hb); have n1_ := Aside0.mk (below_step (by repeat (first | (with_reducible first | exact HB.out | apply below_alloc | apply pw_below_drewN | apply below_drew1) | exact HB.out)) hb); clear HO_7; clear HB; have HO_7 := n0_; have HB := n1_; clear n0_ n1_; (try clear hb); (try clear hb2); (try clear hk); (try clear hi)) | (go_at_call 13; (with_reducible refine (impl_DigitProduct.calls k3 t363 t364 t394 true _ A55.out).mono ?_); rintro e w65 ⟨rfl, hb⟩; have n0_ := Aside0.mk (Kd.R_below (by (with_reducible repeat (first | apply Kd.R_alloc | apply Kd.R_drewN | apply Kd.R_drew)); exact HO_7.out) hb); have n1_ := Aside0.mk (below_step (by repeat (first | (with_reducible first | exact HB.out | apply below_alloc | apply pw_below_drewN | apply below_drew1) | exact HB.out)) hb); clear HO_7; clear HB; have HO_7 := n0_; have HB := n1_; clear n0_ n1_; (try clear hb); (try clear hb2); (try clear hk); (try clear hi))))
                    go_meet
                    case rel => exact ⟨_, H', ⟨by have := HJ11.out; have := HJ32.out; have := HK3.out; first | omega | exact Nat.le_refl _⟩, ⟨by repeat (first | (with_reducible first | exact HB.out | apply below_alloc | apply pw_below_drewN | apply below_drew1) | exact HB.out)⟩⟩
                  ·rw [if_neg c61] at H
                   have c61b0 : (t392 == t377) = false := beq_eq_false_iff_ne.mpr c61
                   have c61b1 : (t392 != t377) = true := bne_iff_ne.mpr c61
                   exact absurd (Option.some.inj H) (by rw [HR_.out]; decide)
                 ·rw [if_neg c60] at H
                  have c60b0 : decide (t364 ≤ t363) = false := decide_eq_false c60
                  clear c60
                  as_aux_lemma =>
                   have H' := Aside0.mk H
                   clear H
                   obtain ⟨Ao66, co66, eo66⟩ := Kd.R_slice HO_7.out
                   subst eo66
                   go_wp2_with (first | (go_at_call 14; (with_reducible refine (impl_SortedUp.calls k3 t363 t364 t390 true _ A53.out).mono ?_); rintro e w67 ⟨rfl, hb⟩; have n0_ := Aside0.mk (Kd.R_below (by (with_reducible repeat (first | apply Kd.R_alloc | apply Kd.R_drewN | apply Kd.R_drew)); exact HO_7.out) hb); have n1_ := Aside0.mk (below_step (by repeat (first | (with_reducible first | exact HB.out | apply below_alloc | apply pw_below_drewN | apply below_drew1) | exact HB.out)) hb); clear HO_7; clear HB; have HO_7 := n0_; have HB := n1_; clear n0_ n1_; (try clear hb); (try clear hb2); (try clear hk); (try clear hi)) | (go_at_call 10; (with_reducible refine (impl_ProductRoot.calls k3 t390 t364 t392 true _ A54.out).mono ?_); rintro e w68 ⟨rfl, hb⟩; have n0_ := Aside0.mk (Kd.R_below (by (with_reducible repeat (first | apply Kd.R_alloc | apply Kd.R_drewN | apply Kd.R_drew)); exact HO_7.out) hb); have n1_ := Aside0.mk (below_step (by repeat (first | (with_reducible first | exact HB.out | apply below_alloc | apply pw_below_drewN | apply below_drew1) | exact HB.out)) hb); clear HO_7; clear HB; have HO_7 := n0_; have HB := n1_; clear n0_ n1_; (try clear hb); (try clear hb2); (try clear hk); (try clear hi)) | (go_at_call 13; (with_reducible refine (impl_DigitProduct.calls k3 t363 t364 t394 true _ A55.out).mono ?_); rintro e w69 ⟨rfl, hb⟩; have n0_ := Aside0.mk (Kd.R_below (by (with_reducible repeat (first | apply Kd.R_alloc | apply Kd.R_drewN | apply Kd.R_drew)); exact HO_7.out) hb); have n1_ := Aside0.mk (below_step (by repeat (first | (with_reducible first | exact HB.out | apply below_alloc | apply pw_below_drewN | apply below_drew1) | exact HB.out)) hb); clear HO_7; clear HB; have HO_7 := n0_; have HB := n1_; clear n0_ n1_; (try clear hb); (try clear hb2); (try clear hk); (try clear hi)))
                   repeat (go_quiet (first | (go_at_call 14; (with_reducible refine (impl_SortedUp.calls k3 t363 t364 t390 true _ A53.out).mono ?_); rintro e w67 ⟨rfl, hb⟩; have n0_ := Aside0.mk (Kd.R_below (by (with_reducible repeat (first | apply Kd.R_alloc | apply Kd.R_drewN | apply Kd.R_drew)); exact HO_7.out) hb); have n1_ := Aside0.mk (below_step (by repeat (first | (with_reducible first | exact HB.out | apply below_alloc | apply pw_below_drewN | apply below_drew1) | exact HB.out)) hb); clear HO_7; clear HB; have HO_7 := n0_; have HB := n1_; clear n0_ n1_; (try clear hb); (try clear hb2); (try clear hk); (try clear hi)) | (go_at_call 10; (with_reducible refine (impl_ProductRoot.calls k3 t390 t364 t392 true _ A54.out).mono ?_); rintro e w68 ⟨rfl, hb⟩; have n0_ := Aside0.mk (Kd.R_below (by (with_reducible repeat (first | apply Kd.R_alloc | apply Kd.R_drewN | apply Kd.R_drew)); exact HO_7.out) hb); have n1_ := Aside0.mk (below_step (by repeat (first | (with_reducible first | exact HB.out | apply below_alloc | apply pw_below_drewN | apply below_drew1) | exact HB.out)) hb); clear HO_7; clear HB; have HO_7 := n0_; have HB := n1_; clear n0_ n1_; (try clear hb); (try clear hb2); (try clear hk); (try clear hi)) | (go_at_call 13; (with_reducible refine (impl_DigitProduct.calls k3 t363 t364 t394 true _ A55.out).mono ?_); rintro e w69 ⟨rfl, hb⟩; have n0_ := Aside0.mk (Kd.R_below (by (with_reducible repeat (first | apply Kd.R_alloc | apply Kd.R_drewN | apply Kd.R_drew)); exact HO_7.out) hb); have n1_ := Aside0.mk (below_step (by repeat (first | (with_reducible first | exact HB.out | apply below_alloc | apply pw_below_drewN | apply below_drew1) | exact HB.out)) hb); clear HO_7; clear HB; have HO_7 := n0_; have HB := n1_; clear n0_ n1_; (try clear hb); (try clear hb2); (try clear hk); (try clear hi))); try go_wp2_with (first | (go_at_call 14; (with_reducible refine (impl_SortedUp.calls k3 t363 t364 t390 true _ A53.out).mono ?_); rintro e w67 ⟨rfl, hb⟩; have n0_ := Aside0.mk (Kd.R_below (by (with_reducible repeat (first | apply Kd.R_alloc | apply Kd.R_drewN | apply Kd.R_drew)); exact HO_7.out) hb); have n1_ := Aside0.mk (below_step (by repeat (first | (with_reducible first | exact HB.out | apply below_alloc | apply pw_below_drewN | apply below_drew1) | exact HB.out)) hb); clear HO_7; clear HB; have HO_7 := n0_; have HB := n1_; clear n0_ n1_; (try clear hb); (try clear hb2); (try clear hk); (try clear hi)) | (go_at_call 10; (with_reducible refine (impl_ProductRoot.calls k3 t390 t364 t392 true _ A54.out).mono ?_); rintro e w68 ⟨rfl, hb⟩; have n0_ := Aside0.mk (Kd.R_below (by (with_reducible repeat (first | apply Kd.R_alloc | apply Kd.R_drewN | apply Kd.R_drew)); exact HO_7.out) hb); have n1_ := Aside0.mk (below_step (by repeat (first | (with_reducible first | exact HB.out | apply below_alloc | apply pw_below_drewN | apply below_drew1) | exact HB.out)) hb); clear HO_7; clear HB; have HO_7 := n0_; have HB := n1_; clear n0_ n1_; (try clear hb); (try clear hb2); (try clear hk); (try clear hi)) | (go_at_call 13; (with_reducible refine (impl_DigitProduct.calls k3 t363 t364 t394 true _ A55.out).mono ?_); rintro e w69 ⟨rfl, hb⟩; have n0_ := Aside0.mk (Kd.R_below (by (with_reducible repeat (first | apply Kd.R_alloc | apply Kd.R_drewN | apply Kd.R_drew)); exact HO_7.out) hb); have n1_ := Aside0.mk (below_step (by repeat (first | (with_reducible first | exact HB.out | apply below_alloc | apply pw_below_drewN | apply below_drew1) | exact HB.out)) hb); clear HO_7; clear HB; have HO_7 := n0_; have HB := n1_; clear n0_ n1_; (try clear hb); (try clear hb2); (try clear hk); (try clear hi))))
                   go_meet
                   case rel => exact ⟨_, H', ⟨by have := HJ11.out; have := HJ32.out; have := HK3.out; first | omega | exact Nat.le_refl _⟩, ⟨by repeat (first | (with_reducible first | exact HB.out | apply below_alloc | apply pw_below_drewN | apply below_drew1) | exact HB.out)⟩⟩
                ·rw [if_neg c59] at H
                 have c59b0 : decide (0 < t394) = false := decide_eq_false c59
                 clear c59
                 as_aux_lemma =>
                  have H' := Aside0.mk H
                  clear H
                  obtain ⟨Ao70, co70, eo70⟩ := Kd.R_slice HO_7.out
                  subst eo70
                  go_wp2_with (first | (go_at_call 14; (with_reducible refine (impl_SortedUp.calls k3 t363 t364 t390 true _ A53.out).mono ?_); rintro e w71 ⟨rfl, hb⟩; have n0_ := Aside0.mk (Kd.R_below (by (with_reducible repeat (first | apply Kd.R_alloc | apply Kd.R_drewN | apply Kd.R_drew)); exact HO_7.out) hb); have n1_ := Aside0.mk (below_step (by repeat (first | (with_reducible first | exact HB.out | apply below_alloc | apply pw_below_drewN | apply below_drew1) | exact HB.out)) hb); clear HO_7; clear HB; have HO_7 := n0_; have HB := n1_; clear n0_ n1_; (try clear hb); (try clear hb2); (try clear hk); (try clear hi)) | (go_at_call 10; (with_reducible refine (impl_ProductRoot.calls k3 t390 t364 t392 true _ A54.out).mono ?_); rintro e w72 ⟨rfl, hb⟩; have n0_ := Aside0.mk (Kd.R_below (by (with_reducible repeat (first | apply Kd.R_alloc | apply Kd.R_drewN | apply Kd.R_drew)); exact HO_7.out) hb); have n1_ := Aside0.mk (below_step (by repeat (first | (with_reducible first | exact HB.out | apply below_alloc | apply pw_below_drewN | apply below_drew1) | exact HB.out)) hb); clear HO_7; clear HB; have HO_7 := n0_; have HB := n1_; clear n0_ n1_; (try clear hb); (try clear hb2); (try clear hk); (try clear hi)) | (go_at_call 13; (with_reducible refine (impl_DigitProduct.calls k3 t363 t364 t394 true _ A55.out).mono ?_); rintro e w73 ⟨rfl, hb⟩; have n0_ := Aside0.mk (Kd.R_below (by (with_reducible repeat (first | apply Kd.R_alloc | apply Kd.R_drewN | apply Kd.R_drew)); exact HO_7.out) hb); have n1_ := Aside0.mk (below_step (by repeat (first | (with_reducible first | exact HB.out | apply below_alloc | apply pw_below_drewN | apply below_drew1) | exact HB.out)) hb); clear HO_7; clear HB; have HO_7 := n0_; have HB := n1_; clear n0_ n1_; (try clear hb); (try clear hb2); (try clear hk); (try clear hi)))
                  repeat (go_quiet (first | (go_at_call 14; (with_reducible refine (impl_SortedUp.calls k3 t363 t364 t390 true _ A53.out).mono ?_); rintro e w71 ⟨rfl, hb⟩; have n0_ := Aside0.mk (Kd.R_below (by (with_reducible repeat (first | apply Kd.R_alloc | apply Kd.R_drewN | apply Kd.R_drew)); exact HO_7.out) hb); have n1_ := Aside0.mk (below_step (by repeat (first | (with_reducible first | exact HB.out | apply below_alloc | apply pw_below_drewN | apply below_drew1) | exact HB.out)) hb); clear HO_7; clear HB; have HO_7 := n0_; have HB := n1_; clear n0_ n1_; (try clear hb); (try clear hb2); (try clear hk); (try clear hi)) | (go_at_call 10; (with_reducible refine (impl_ProductRoot.calls k3 t390 t364 t392 true _ A54.out).mono ?_); rintro e w72 ⟨rfl, hb⟩; have n0_ := Aside0.mk (Kd.R_below (by (with_reducible repeat (first | apply Kd.R_alloc | apply Kd.R_drewN | apply Kd.R_drew)); exact HO_7.out) hb); have n1_ := Aside0.mk (below_step (by repeat (first | (with_reducible first | exact HB.out | apply below_alloc | apply pw_below_drewN | apply below_drew1) | exact HB.out)) hb); clear HO_7; clear HB; have HO_7 := n0_; have HB := n1_; clear n0_ n1_; (try clear hb); (try clear hb2); (try clear hk); (try clear hi)) | (go_at_call 13; (with_reducible refine (impl_DigitProduct.calls k3 t363 t364 t394 true _ A55.out).mono ?_); rintro e w73 ⟨rfl, hb⟩; have n0_ := Aside0.mk (Kd.R_below (by (with_reducible repeat (first | apply Kd.R_alloc | apply Kd.R_drewN | apply Kd.R_drew)); exact HO_7.out) hb); have n1_ := Aside0.mk (below_step (by repeat (first | (with_reducible first | exact HB.out | apply below_alloc | apply pw_below_drewN | apply below_drew1) | exact HB.out)) hb); clear HO_7; clear HB; have HO_7 := n0_; have HB := n1_; clear n0_ n1_; (try clear hb); (try clear hb2); (try clear hk); (try clear hi))); try go_wp2_with (first | (go_at_call 14; (with_reducible refine (impl_SortedUp.calls k3 t363 t364 t390 true _ A53.out).mono ?_); rintro e w71 ⟨rfl, hb⟩; have n0_ := Aside0.mk (Kd.R_below (by (with_reducible repeat (first | apply Kd.R_alloc | apply Kd.R_drewN | apply Kd.R_drew)); exact HO_7.out) hb); have n1_ := Aside0.mk (below_step (by repeat (first | (with_reducible first | exact HB.out | apply below_alloc | apply pw_below_drewN | apply below_drew1) | exact HB.out)) hb); clear HO_7; clear HB; have HO_7 := n0_; have HB := n1_; clear n0_ n1_; (try clear hb); (try clear hb2); (try clear hk); (try clear hi)) | (go_at_call 10; (with_reducible refine (impl_ProductRoot.calls k3 t390 t364 t392 true _ A54.out).mono ?_); rintro e w72 ⟨rfl, hb⟩; have n0_ := Aside0.mk (Kd.R_below (by (with_reducible repeat (first | apply Kd.R_alloc | apply Kd.R_drewN | apply Kd.R_drew)); exact HO_7.out) hb); have n1_ := Aside0.mk (below_step (by repeat (first | (with_reducible first | exact HB.out | apply below_alloc | apply pw_below_drewN | apply below_drew1) | exact HB.out)) hb); clear HO_7; clear HB; have HO_7 := n0_; have HB := n1_; clear n0_ n1_; (try clear hb); (try clear hb2); (try clear hk); (try clear hi)) | (go_at_call 13; (with_reducible refine (impl_DigitProduct.calls k3 t363 t364 t394 true _ A55.out).mono ?_); rintro e w73 ⟨rfl, hb⟩; have n0_ := Aside0.mk (Kd.R_below (by (with_reducible repeat (first | apply Kd.R_alloc | apply Kd.R_drewN | apply Kd.R_drew)); exact HO_7.out) hb); have n1_ := Aside0.mk (below_step (by repeat (first | (with_reducible first | exact HB.out | apply below_alloc | apply pw_below_drewN | apply below_drew1) | exact HB.out)) hb); clear HO_7; clear HB; have HO_7 := n0_; have HB := n1_; clear n0_ n1_; (try clear hb); (try clear hb2); (try clear hk); (try clear hi))))
                  go_meet
                  case rel => exact ⟨_, H', ⟨by have := HJ11.out; have := HJ32.out; have := HK3.out; first | omega | exact Nat.le_refl _⟩, ⟨by repeat (first | (with_reducible first | exact HB.out | apply below_alloc | apply pw_below_drewN | apply below_drew1) | exact HB.out)⟩⟩
               ·replace c58 := Bool.eq_false_iff.mpr c58
                subst c58
                have H1 : (some false) = some r := by rw [if_neg (show ¬ (false = true) by decide)] at H; exact H
                clear H
                have H := H1
                clear H1
                exact absurd (Option.some.inj H) (by rw [HR_.out]; decide)
              ·replace c57 := Bool.eq_false_iff.mpr c57
               subst c57
               have H1 : (some false) = some r := by rw [if_neg (show ¬ (false = true) by decide)] at H; exact H
               clear H
               have H := H1
               clear H1
               exact absurd (Option.some.inj H) (by rw [HR_.out]; decide)
             ·replace c56 := Bool.eq_false_iff.mpr c56
              subst c56
              have H1 : (some false) = some r := by rw [if_neg (show ¬ (false = true) by decide)] at H; exact H
              clear H
              have H := H1
              clear H1
              exact absurd (Option.some.inj H) (by rw [HR_.out]; decide)
      ·replace c32 := Bool.eq_false_iff.mpr c32
       subst c32
       have H1 : (laws_FnProductRuns.j3 kj11 l1) = some r := by rw [if_neg (show ¬ (false = true) by decide)] at H; exact H
       clear H
       have H := H1
       clear H1
       as_aux_lemma =>
        have H' := Aside0.mk H
        clear H
        go_wp2
        repeat (go_quiet (fail); try go_wp2)
        go_meet
        case rel => exact ⟨_, H', ⟨by have := HJ11.out; first | omega | exact Nat.le_refl _⟩, ⟨by repeat (first | (with_reducible first | exact HB.out | apply below_alloc | apply pw_below_drewN | apply below_drew1) | exact HB.out)⟩⟩
     case rest =>
      as_aux_lemma =>
      clear HC31
      try clear c1
      try clear c2
      try clear p2
      try clear c3
      try clear p3
      try clear q3
      try clear hx3
      try clear qi3
      try clear c4
      try clear c5
      try clear c6
      try clear p6
      try clear c20
      try clear c20b0
      try clear c20b1
      try clear c20b2
      try clear c22
      try clear c23
      try clear c23b0
      try clear c23b1
      try clear c23b2
      try clear c24
      try clear c24b0
      try clear c24b1
      try clear c25
      try clear c25b0
      try clear c25b1
      try clear c25b2
      try clear c26
      try clear c26b0
      try clear c26b1
      try clear c27
      try clear c27b0
      try clear c27b1
      try clear c27b2
      try clear c30
      try clear c32
      try clear c34
      try clear c34b0
      try clear c34b1
      try clear c35
      try clear c35b0
      try clear c35b1
      try clear c36
      try clear c36b0
      try clear c36b1
      try clear c37
      try clear c37b0
      try clear c38
      try clear c38b0
      try clear p38
      try clear q38
      try clear hx38
      try clear qi38
      try clear c39
      try clear c39b0
      try clear c39b1
      try clear c41
      try clear c42
      try clear c42b0
      try clear c44
      try clear c44b0
      try clear c45
      try clear c45b0
      try clear c47
      try clear c48
      try clear c48b0
      try clear c49
      try clear c49b0
      try clear c49b1
      try clear c50
      try clear c50b0
      try clear c56
      try clear c57
      try clear c58
      try clear c59
      try clear c59b0
      try clear c60
      try clear c60b0
      try clear c61
      try clear c61b0
      try clear c61b1
      try clear p64
      try clear hx382_0
      try clear hx383_0
      try clear hx384_0
      try clear hx387_0
      try clear hx388_0
      try clear hx389_0
      try clear p2
      try clear p3
      try clear p38
      try clear p382
      try clear p383
      try clear p384
      try clear p387
      try clear p388
      try clear p389
      try clear p6
      try clear q3
      try clear q38
      try clear q382
      try clear q383
      try clear q384
      try clear q387
      try clear q388
      try clear q389
      obtain ⟨kq, HA, HJ30, HB⟩ := hcut
      cases kq with
      | zero => exact absurd HA.out (by simp [laws_FnProductRuns.j3])
      | succ kj30 =>
       have H := HA.out
       clear HA
       simp only [laws_FnProductRuns.j3] at H
       replace H := Option.bind_eq_some_iff.mp H
       obtain ⟨⟨t396, t397⟩, A740, H⟩ := H
       replace H : ((impl_LeastWithProduct.f kj30 t396 t397).bind fun bt398 => ((spec_LeastWithProduct.f kj30 t396 t397).bind fun bt400 => ((impl_IsSmooth.f kj30 t396 t397).bind fun bt402 => ((spec_IsSmooth.f kj30 t396 t397).bind fun bt404 => ((impl_CountWithProduct.f kj30 t396 t397).bind fun bt406 => ((spec_CountWithProduct.f kj30 t396 t397).bind fun bt408 => (if (bt398.2 != bt400.2) = true then (laws_FnProductRuns.j4 kj30 l1 t396 t397 bt398.1 bt398.2 bt402.1 bt406.1 bt406.2 true) else (if bt398.1 = bt400.1 then (if (bt402.2 != bt404.2) = true then (laws_FnProductRuns.j4 kj30 l1 t396 t397 bt398.1 bt398.2 bt402.1 bt406.1 bt406.2 true) else (if (bt402.1 != bt404.1) = true then (laws_FnProductRuns.j4 kj30 l1 t396 t397 bt398.1 bt398.2 bt402.1 bt406.1 bt406.2 true) else (if (bt406.2 != bt408.2) = true then (laws_FnProductRuns.j4 kj30 l1 t396 t397 bt398.1 bt398.2 bt402.1 bt406.1 bt406.2 true) else (if bt406.1 = bt408.1 then (if bt398.2 = true then (laws_FnProductRuns.j4 kj30 l1 t396 t397 bt398.1 bt398.2 bt402.1 bt406.1 bt406.2 (!bt402.1)) else (laws_FnProductRuns.j4 kj30 l1 t396 t397 bt398.1 bt398.2 bt402.1 bt406.1 bt406.2 false)) else (laws_FnProductRuns.j4 kj30 l1 t396 t397 bt398.1 bt398.2 bt402.1 bt406.1 bt406.2 true))))) else (laws_FnProductRuns.j4 kj30 l1 t396 t397 bt398.1 bt398.2 bt402.1 bt406.1 bt406.2 true))))))))) = some r := H
       have A74 := Aside0.mk A740
       clear A740
       replace H := Option.bind_eq_some_iff.mp H
       obtain ⟨⟨t398, t399⟩, A750, H⟩ := H
       replace H : ((spec_LeastWithProduct.f kj30 t396 t397).bind fun bt400 => ((impl_IsSmooth.f kj30 t396 t397).bind fun bt402 => ((spec_IsSmooth.f kj30 t396 t397).bind fun bt404 => ((impl_CountWithProduct.f kj30 t396 t397).bind fun bt406 => ((spec_CountWithProduct.f kj30 t396 t397).bind fun bt408 => (if (t399 != bt400.2) = true then (laws_FnProductRuns.j4 kj30 l1 t396 t397 t398 t399 bt402.1 bt406.1 bt406.2 true) else (if t398 = bt400.1 then (if (bt402.2 != bt404.2) = true then (laws_FnProductRuns.j4 kj30 l1 t396 t397 t398 t399 bt402.1 bt406.1 bt406.2 true) else (if (bt402.1 != bt404.1) = true then (laws_FnProductRuns.j4 kj30 l1 t396 t397 t398 t399 bt402.1 bt406.1 bt406.2 true) else (if (bt406.2 != bt408.2) = true then (laws_FnProductRuns.j4 kj30 l1 t396 t397 t398 t399 bt402.1 bt406.1 bt406.2 true) else (if bt406.1 = bt408.1 then (if t399 = true then (laws_FnProductRuns.j4 kj30 l1 t396 t397 t398 t399 bt402.1 bt406.1 bt406.2 (!bt402.1)) else (laws_FnProductRuns.j4 kj30 l1 t396 t397 t398 t399 bt402.1 bt406.1 bt406.2 false)) else (laws_FnProductRuns.j4 kj30 l1 t396 t397 t398 t399 bt402.1 bt406.1 bt406.2 true))))) else (laws_FnProductRuns.j4 kj30 l1 t396 t397 t398 t399 bt402.1 bt406.1 bt406.2 true)))))))) = some r := H
       have A75 := Aside0.mk A750
       clear A750
       replace H := Option.bind_eq_some_iff.mp H
       obtain ⟨⟨t400, t401⟩, A760, H⟩ := H
       replace H : ((impl_IsSmooth.f kj30 t396 t397).bind fun bt402 => ((spec_IsSmooth.f kj30 t396 t397).bind fun bt404 => ((impl_CountWithProduct.f kj30 t396 t397).bind fun bt406 => ((spec_CountWithProduct.f kj30 t396 t397).bind fun bt408 => (if (t399 != t401) = true then (laws_FnProductRuns.j4 kj30 l1 t396 t397 t398 t399 bt402.1 bt406.1 bt406.2 true) else (if t398 = t400 then (if (bt402.2 != bt404.2) = true then (laws_FnProductRuns.j4 kj30 l1 t396 t397 t398 t399 bt402.1 bt406.1 bt406.2 true) else (if (bt402.1 != bt404.1) = true then (laws_FnProductRuns.j4 kj30 l1 t396 t397 t398 t399 bt402.1 bt406.1 bt406.2 true) else (if (bt406.2 != bt408.2) = true then (laws_FnProductRuns.j4 kj30 l1 t396 t397 t398 t399 bt402.1 bt406.1 bt406.2 true) else (if bt406.1 = bt408.1 then (if t399 = true then (laws_FnProductRuns.j4 kj30 l1 t396 t397 t398 t399 bt402.1 bt406.1 bt406.2 (!bt402.1)) else (laws_FnProductRuns.j4 kj30 l1 t396 t397 t398 t399 bt402.1 bt406.1 bt406.2 false)) else (laws_FnProductRuns.j4 kj30 l1 t396 t397 t398 t399 bt402.1 bt406.1 bt406.2 true))))) else (laws_FnProductRuns.j4 kj30 l1 t396 t397 t398 t399 bt402.1 bt406.1 bt406.2 true))))))) = some r := H
       have A76 := Aside0.mk A760
       clear A760
       replace H := Option.bind_eq_some_iff.mp H
       obtain ⟨⟨t402, t403⟩, A770, H⟩ := H
       replace H : ((spec_IsSmooth.f kj30 t396 t397).bind fun bt404 => ((impl_CountWithProduct.f kj30 t396 t397).bind fun bt406 => ((spec_CountWithProduct.f kj30 t396 t397).bind fun bt408 => (if (t399 != t401) = true then (laws_FnProductRuns.j4 kj30 l1 t396 t397 t398 t399 t402 bt406.1 bt406.2 true) else (if t398 = t400 then (if (t403 != bt404.2) = true then (laws_FnProductRuns.j4 kj30 l1 t396 t397 t398 t399 t402 bt406.1 bt406.2 true) else (if (t402 != bt404.1) = true then (laws_FnProductRuns.j4 kj30 l1 t396 t397 t398 t399 t402 bt406.1 bt406.2 true) else (if (bt406.2 != bt408.2) = true then (laws_FnProductRuns.j4 kj30 l1 t396 t397 t398 t399 t402 bt406.1 bt406.2 true) else (if bt406.1 = bt408.1 then (if t399 = true then (laws_FnProductRuns.j4 kj30 l1 t396 t397 t398 t399 t402 bt406.1 bt406.2 (!t402)) else (laws_FnProductRuns.j4 kj30 l1 t396 t397 t398 t399 t402 bt406.1 bt406.2 false)) else (laws_FnProductRuns.j4 kj30 l1 t396 t397 t398 t399 t402 bt406.1 bt406.2 true))))) else (laws_FnProductRuns.j4 kj30 l1 t396 t397 t398 t399 t402 bt406.1 bt406.2 true)))))) = some r := H
       have A77 := Aside0.mk A770
       clear A770
       replace H := Option.bind_eq_some_iff.mp H
       obtain ⟨⟨t404, t405⟩, A780, H⟩ := H
       replace H : ((impl_CountWithProduct.f kj30 t396 t397).bind fun bt406 => ((spec_CountWithProduct.f kj30 t396 t397).bind fun bt408 => (if (t399 != t401) = true then (laws_FnProductRuns.j4 kj30 l1 t396 t397 t398 t399 t402 bt406.1 bt406.2 true) else (if t398 = t400 then (if (t403 != t405) = true then (laws_FnProductRuns.j4 kj30 l1 t396 t397 t398 t399 t402 bt406.1 bt406.2 true) else (if (t402 != t404) = true then (laws_FnProductRuns.j4 kj30 l1 t396 t397 t398 t399 t402 bt406.1 bt406.2 true) else (if (bt406.2 != bt408.2) = true then (laws_FnProductRuns.j4 kj30 l1 t396 t397 t398 t399 t402 bt406.1 bt406.2 true) else (if bt406.1 = bt408.1 then (if t399 = true then (laws_FnProductRuns.j4 kj30 l1 t396 t397 t398 t399 t402 bt406.1 bt406.2 (!t402)) else (laws_FnProductRuns.j4 kj30 l1 t396 t397 t398 t399 t402 bt406.1 bt406.2 false)) else (laws_FnProductRuns.j4 kj30 l1 t396 t397 t398 t399 t402 bt406.1 bt406.2 true))))) else (laws_FnProductRuns.j4 kj30 l1 t396 t397 t398 t399 t402 bt406.1 bt406.2 true))))) = some r := H
       have A78 := Aside0.mk A780
       clear A780
       replace H := Option.bind_eq_some_iff.mp H
       obtain ⟨⟨t406, t407⟩, A790, H⟩ := H
       replace H : ((spec_CountWithProduct.f kj30 t396 t397).bind fun bt408 => (if (t399 != t401) = true then (laws_FnProductRuns.j4 kj30 l1 t396 t397 t398 t399 t402 t406 t407 true) else (if t398 = t400 then (if (t403 != t405) = true then (laws_FnProductRuns.j4 kj30 l1 t396 t397 t398 t399 t402 t406 t407 true) else (if (t402 != t404) = true then (laws_FnProductRuns.j4 kj30 l1 t396 t397 t398 t399 t402 t406 t407 true) else (if (t407 != bt408.2) = true then (laws_FnProductRuns.j4 kj30 l1 t396 t397 t398 t399 t402 t406 t407 true) else (if t406 = bt408.1 then (if t399 = true then (laws_FnProductRuns.j4 kj30 l1 t396 t397 t398 t399 t402 t406 t407 (!t402)) else (laws_FnProductRuns.j4 kj30 l1 t396 t397 t398 t399 t402 t406 t407 false)) else (laws_FnProductRuns.j4 kj30 l1 t396 t397 t398 t399 t402 t406 t407 true))))) else (laws_FnProductRuns.j4 kj30 l1 t396 t397 t398 t399 t402 t406 t407 true)))) = some r := H
       have A79 := Aside0.mk A790
       clear A790
       replace H := Option.bind_eq_some_iff.mp H
       obtain ⟨⟨t408, t409⟩, A800, H⟩ := H
       replace H : (if (t399 != t401) = true then (laws_FnProductRuns.j4 kj30 l1 t396 t397 t398 t399 t402 t406 t407 true) else (if t398 = t400 then (if (t403 != t405) = true then (laws_FnProductRuns.j4 kj30 l1 t396 t397 t398 t399 t402 t406 t407 true) else (if (t402 != t404) = true then (laws_FnProductRuns.j4 kj30 l1 t396 t397 t398 t399 t402 t406 t407 true) else (if (t407 != t409) = true then (laws_FnProductRuns.j4 kj30 l1 t396 t397 t398 t399 t402 t406 t407 true) else (if t406 = t408 then (if t399 = true then (laws_FnProductRuns.j4 kj30 l1 t396 t397 t398 t399 t402 t406 t407 (!t402)) else (laws_FnProductRuns.j4 kj30 l1 t396 t397 t398 t399 t402 t406 t407 false)) else (laws_FnProductRuns.j4 kj30 l1 t396 t397 t398 t399 t402 t406 t407 true))))) else (laws_FnProductRuns.j4 kj30 l1 t396 t397 t398 t399 t402 t406 t407 true))) = some r := H
       have A80 := Aside0.mk A800
       clear A800
       have HC81 := Aside0.mk H
       clear H
       go_upto_region 33 with (first | (go_at_call 15; (with_reducible refine (spec_DrawLeastWithProduct.calls kj30 _ _ l1 t396 t397 _ ?side1 ?side2 A74.out).mono ?_); (case side1 => repeat (first | exact (Kd.C_below HR1.out HB.out) | (with_reducible refine Kd.C_alloc ?_ _) | (with_reducible refine Kd.C_drewN ?_ _) | (with_reducible refine Kd.C_drew ?_))); (case side2 => exact HC1.out); rintro e w82 ⟨rfl, hb⟩; have n0_ := Aside0.mk (below_step (by repeat (first | (with_reducible first | exact HB.out | apply below_alloc | apply pw_below_drewN | apply below_drew1) | exact HB.out)) hb); clear HB; have HB := n0_; clear n0_; (try clear hb); (try clear hb2); (try clear hk); (try clear hi)) | (go_at_call 16; (with_reducible refine (impl_LeastWithProduct.calls kj30 t396 t397 t398 t399 _ A75.out).mono ?_); rintro e w83 ⟨rfl, hb⟩; have n0_ := Aside0.mk (below_step (by repeat (first | (with_reducible first | exact HB.out | apply below_alloc | apply pw_below_drewN | apply below_drew1) | exact HB.out)) hb); clear HB; have HB := n0_; clear n0_; (try clear hb); (try clear hb2); (try clear hk); (try clear hi)) | (go_at_call 17; (with_reducible refine (spec_LeastWithProduct.calls kj30 t396 t397 t400 t401 _ A76.out).mono ?_); rintro e w84 ⟨rfl, hb⟩; have n0_ := Aside0.mk (below_step (by repeat (first | (with_reducible first | exact HB.out | apply below_alloc | apply pw_below_drewN | apply below_drew1) | exact HB.out)) hb); clear HB; have HB := n0_; clear n0_; (try clear hb); (try clear hb2); (try clear hk); (try clear hi)) | (go_at_call 18; (with_reducible refine (impl_IsSmooth.calls kj30 t396 t397 t402 t403 _ A77.out).mono ?_); rintro e w' ⟨rfl, ⟨nd, rfl⟩⟩; (try first | exact ⟨rfl, _, World.drewN_drewN _ _ _⟩ | exact ⟨rfl, _, Eq.trans (World.drewN_drewN _ _ _) (congrArg (World.drewN _) (Nat.add_assoc _ _ _))⟩)) | (go_at_call 19; (with_reducible refine (spec_IsSmooth.calls kj30 t396 t397 t404 t405 _ A78.out).mono ?_); rintro e w' ⟨rfl, ⟨nd, rfl⟩⟩; (try first | exact ⟨rfl, _, World.drewN_drewN _ _ _⟩ | exact ⟨rfl, _, Eq.trans (World.drewN_drewN _ _ _) (congrArg (World.drewN _) (Nat.add_assoc _ _ _))⟩)) | (go_at_call 20; (with_reducible refine (impl_CountWithProduct.calls kj30 t396 t397 t406 t407 _ A79.out).mono ?_); rintro e w85 ⟨rfl, hb⟩; have n0_ := Aside0.mk (below_step (by repeat (first | (with_reducible first | exact HB.out | apply below_alloc | apply pw_below_drewN | apply below_drew1) | exact HB.out)) hb); clear HB; have HB := n0_; clear n0_; (try clear hb); (try clear hb2); (try clear hk); (try clear hi)) | (go_at_call 21; (with_reducible refine (spec_CountWithProduct.calls kj30 t396 t397 t408 t409 _ A80.out).mono ?_); rintro e w86 ⟨rfl, hb⟩; have n0_ := Aside0.mk (below_step (by repeat (first | (with_reducible first | exact HB.out | apply below_alloc | apply pw_below_drewN | apply below_drew1) | exact HB.out)) hb); clear HB; have HB := n0_; clear n0_; (try clear hb); (try clear hb2); (try clear hk); (try clear hi)))
       repeat (go_quiet (first | (go_at_call 15; (with_reducible refine (spec_DrawLeastWithProduct.calls kj30 _ _ l1 t396 t397 _ ?side1 ?side2 A74.out).mono ?_); (case side1 => repeat (first | exact (Kd.C_below HR1.out HB.out) | (with_reducible refine Kd.C_alloc ?_ _) | (with_reducible refine Kd.C_drewN ?_ _) | (with_reducible refine Kd.C_drew ?_))); (case side2 => exact HC1.out); rintro e w82 ⟨rfl, hb⟩; have n0_ := Aside0.mk (below_step (by repeat (first | (with_reducible first | exact HB.out | apply below_alloc | apply pw_below_drewN | apply below_drew1) | exact HB.out)) hb); clear HB; have HB := n0_; clear n0_; (try clear hb); (try clear hb2); (try clear hk); (try clear hi)) | (go_at_call 16; (with_reducible refine (impl_LeastWithProduct.calls kj30 t396 t397 t398 t399 _ A75.out).mono ?_); rintro e w83 ⟨rfl, hb⟩; have n0_ := Aside0.mk (below_step (by repeat (first | (with_reducible first | exact HB.out | apply below_alloc | apply pw_below_drewN | apply below_drew1) | exact HB.out)) hb); clear HB; have HB := n0_; clear n0_; (try clear hb); (try clear hb2); (try clear hk); (try clear hi)) | (go_at_call 17; (with_reducible refine (spec_LeastWithProduct.calls kj30 t396 t397 t400 t401 _ A76.out).mono ?_); rintro e w84 ⟨rfl, hb⟩; have n0_ := Aside0.mk (below_step (by repeat (first | (with_reducible first | exact HB.out | apply below_alloc | apply pw_below_drewN | apply below_drew1) | exact HB.out)) hb); clear HB; have HB := n0_; clear n0_; (try clear hb); (try clear hb2); (try clear hk); (try clear hi)) | (go_at_call 18; (with_reducible refine (impl_IsSmooth.calls kj30 t396 t397 t402 t403 _ A77.out).mono ?_); rintro e w' ⟨rfl, ⟨nd, rfl⟩⟩; (try first | exact ⟨rfl, _, World.drewN_drewN _ _ _⟩ | exact ⟨rfl, _, Eq.trans (World.drewN_drewN _ _ _) (congrArg (World.drewN _) (Nat.add_assoc _ _ _))⟩)) | (go_at_call 19; (with_reducible refine (spec_IsSmooth.calls kj30 t396 t397 t404 t405 _ A78.out).mono ?_); rintro e w' ⟨rfl, ⟨nd, rfl⟩⟩; (try first | exact ⟨rfl, _, World.drewN_drewN _ _ _⟩ | exact ⟨rfl, _, Eq.trans (World.drewN_drewN _ _ _) (congrArg (World.drewN _) (Nat.add_assoc _ _ _))⟩)) | (go_at_call 20; (with_reducible refine (impl_CountWithProduct.calls kj30 t396 t397 t406 t407 _ A79.out).mono ?_); rintro e w85 ⟨rfl, hb⟩; have n0_ := Aside0.mk (below_step (by repeat (first | (with_reducible first | exact HB.out | apply below_alloc | apply pw_below_drewN | apply below_drew1) | exact HB.out)) hb); clear HB; have HB := n0_; clear n0_; (try clear hb); (try clear hb2); (try clear hk); (try clear hi)) | (go_at_call 21; (with_reducible refine (spec_CountWithProduct.calls kj30 t396 t397 t408 t409 _ A80.out).mono ?_); rintro e w86 ⟨rfl, hb⟩; have n0_ := Aside0.mk (below_step (by repeat (first | (with_reducible first | exact HB.out | apply below_alloc | apply pw_below_drewN | apply below_drew1) | exact HB.out)) hb); clear HB; have HB := n0_; clear n0_; (try clear hb); (try clear hb2); (try clear hk); (try clear hi))); go_upto_region 33 with (first | (go_at_call 15; (with_reducible refine (spec_DrawLeastWithProduct.calls kj30 _ _ l1 t396 t397 _ ?side1 ?side2 A74.out).mono ?_); (case side1 => repeat (first | exact (Kd.C_below HR1.out HB.out) | (with_reducible refine Kd.C_alloc ?_ _) | (with_reducible refine Kd.C_drewN ?_ _) | (with_reducible refine Kd.C_drew ?_))); (case side2 => exact HC1.out); rintro e w82 ⟨rfl, hb⟩; have n0_ := Aside0.mk (below_step (by repeat (first | (with_reducible first | exact HB.out | apply below_alloc | apply pw_below_drewN | apply below_drew1) | exact HB.out)) hb); clear HB; have HB := n0_; clear n0_; (try clear hb); (try clear hb2); (try clear hk); (try clear hi)) | (go_at_call 16; (with_reducible refine (impl_LeastWithProduct.calls kj30 t396 t397 t398 t399 _ A75.out).mono ?_); rintro e w83 ⟨rfl, hb⟩; have n0_ := Aside0.mk (below_step (by repeat (first | (with_reducible first | exact HB.out | apply below_alloc | apply pw_below_drewN | apply below_drew1) | exact HB.out)) hb); clear HB; have HB := n0_; clear n0_; (try clear hb); (try clear hb2); (try clear hk); (try clear hi)) | (go_at_call 17; (with_reducible refine (spec_LeastWithProduct.calls kj30 t396 t397 t400 t401 _ A76.out).mono ?_); rintro e w84 ⟨rfl, hb⟩; have n0_ := Aside0.mk (below_step (by repeat (first | (with_reducible first | exact HB.out | apply below_alloc | apply pw_below_drewN | apply below_drew1) | exact HB.out)) hb); clear HB; have HB := n0_; clear n0_; (try clear hb); (try clear hb2); (try clear hk); (try clear hi)) | (go_at_call 18; (with_reducible refine (impl_IsSmooth.calls kj30 t396 t397 t402 t403 _ A77.out).mono ?_); rintro e w' ⟨rfl, ⟨nd, rfl⟩⟩; (try first | exact ⟨rfl, _, World.drewN_drewN _ _ _⟩ | exact ⟨rfl, _, Eq.trans (World.drewN_drewN _ _ _) (congrArg (World.drewN _) (Nat.add_assoc _ _ _))⟩)) | (go_at_call 19; (with_reducible refine (spec_IsSmooth.calls kj30 t396 t397 t404 t405 _ A78.out).mono ?_); rintro e w' ⟨rfl, ⟨nd, rfl⟩⟩; (try first | exact ⟨rfl, _, World.drewN_drewN _ _ _⟩ | exact ⟨rfl, _, Eq.trans (World.drewN_drewN _ _ _) (congrArg (World.drewN _) (Nat.add_assoc _ _ _))⟩)) | (go_at_call 20; (with_reducible refine (impl_CountWithProduct.calls kj30 t396 t397 t406 t407 _ A79.out).mono ?_); rintro e w85 ⟨rfl, hb⟩; have n0_ := Aside0.mk (below_step (by repeat (first | (with_reducible first | exact HB.out | apply below_alloc | apply pw_below_drewN | apply below_drew1) | exact HB.out)) hb); clear HB; have HB := n0_; clear n0_; (try clear hb); (try clear hb2); (try clear hk); (try clear hi)) | (go_at_call 21; (with_reducible refine (spec_CountWithProduct.calls kj30 t396 t397 t408 t409 _ A80.out).mono ?_); rintro e w86 ⟨rfl, hb⟩; have n0_ := Aside0.mk (below_step (by repeat (first | (with_reducible first | exact HB.out | apply below_alloc | apply pw_below_drewN | apply below_drew1) | exact HB.out)) hb); clear HB; have HB := n0_; clear n0_; (try clear hb); (try clear hb2); (try clear hk); (try clear hi))))
       (try simp only [Act.put, List.setIfInBounds_toArray, List.set_cons_zero, List.set_cons_succ])
       go_cut [316] (fun v316 wc => ∃ (kq : Nat) (x316_80 : Bool), v316 = .bool x316_80 ∧ Aside0 (laws_FnProductRuns.j4 kq l1 t396 t397 t398 t399 t402 t406 t407 x316_80 = some r) ∧ Aside0 (kq ≤ kj30) ∧ Aside0 (Below w.heap.size w wc))
       case first =>
        as_aux_lemma =>
        have H := HC81.out
        clear HC81
        by_cases c87 : (t399 != t401) = true
        ·rw [if_pos c87] at H
         have c87b0 : (t399 != t401) = true := c87
         (try (have c87b1 : decide (t399 = t401) = false := by simpa using c87))
         (try (have c87b2 : (t399 == t401) = false := by simpa using c87))
         (try (have c87b3 : ¬ (t399 = t401) := by simpa using c87))
         clear c87
         (first | rw [c87b0] | (simp only [i64_w, i32_w]; rw [c87b0]) | skip)
         exact (laws_FnProductRuns.j4_no HR_.out _ _ _ _ _ _ _ _ _ H).elim
        ·rw [if_neg c87] at H
         have c87b0 : (t399 != t401) = false := by simpa using c87
         (try (have c87b1 : decide (t399 = t401) = true := by simpa using c87))
         (try (have c87b2 : (t399 == t401) = true := by simpa using c87))
         clear c87
         (first | rw [c87b0] | (simp only [i64_w, i32_w]; rw [c87b0]) | skip)
         by_cases c88 : t398 = t400
         ·rw [if_pos c88] at H
          have c88b0 : (t398 == t400) = true := beq_iff_eq.mpr c88
          have c88b1 : (t398 != t400) = false := bne_eq_false_iff_eq.mpr c88
          clear c88
          by_cases c89 : (t403 != t405) = true
          ·rw [if_pos c89] at H
           have c89b0 : (t403 != t405) = true := c89
           (try (have c89b1 : decide (t403 = t405) = false := by simpa using c89))
           (try (have c89b2 : (t403 == t405) = false := by simpa using c89))
           (try (have c89b3 : ¬ (t403 = t405) := by simpa using c89))
           clear c89
           exact (laws_FnProductRuns.j4_no HR_.out _ _ _ _ _ _ _ _ _ H).elim
          ·rw [if_neg c89] at H
           have c89b0 : (t403 != t405) = false := by simpa using c89
           (try (have c89b1 : decide (t403 = t405) = true := by simpa using c89))
           (try (have c89b2 : (t403 == t405) = true := by simpa using c89))
           clear c89
           by_cases c90 : (t402 != t404) = true
           ·rw [if_pos c90] at H
            have c90b0 : (t402 != t404) = true := c90
            (try (have c90b1 : decide (t402 = t404) = false := by simpa using c90))
            (try (have c90b2 : (t402 == t404) = false := by simpa using c90))
            (try (have c90b3 : ¬ (t402 = t404) := by simpa using c90))
            clear c90
            exact (laws_FnProductRuns.j4_no HR_.out _ _ _ _ _ _ _ _ _ H).elim
           ·rw [if_neg c90] at H
            have c90b0 : (t402 != t404) = false := by simpa using c90
            (try (have c90b1 : decide (t402 = t404) = true := by simpa using c90))
            (try (have c90b2 : (t402 == t404) = true := by simpa using c90))
            clear c90
            by_cases c91 : (t407 != t409) = true
            ·rw [if_pos c91] at H
             have c91b0 : (t407 != t409) = true := c91
             (try (have c91b1 : decide (t407 = t409) = false := by simpa using c91))
             (try (have c91b2 : (t407 == t409) = false := by simpa using c91))
             (try (have c91b3 : ¬ (t407 = t409) := by simpa using c91))
             clear c91
             exact (laws_FnProductRuns.j4_no HR_.out _ _ _ _ _ _ _ _ _ H).elim
            ·rw [if_neg c91] at H
             have c91b0 : (t407 != t409) = false := by simpa using c91
             (try (have c91b1 : decide (t407 = t409) = true := by simpa using c91))
             (try (have c91b2 : (t407 == t409) = true := by simpa using c91))
             clear c91
             by_cases c92 : t406 = t408
             ·rw [if_pos c92] at H
              have c92b0 : (t406 == t408) = true := beq_iff_eq.mpr c92
              have c92b1 : (t406 != t408) = false := bne_eq_false_iff_eq.mpr c92
              clear c92
              by_cases c93 : t399 = true
              ·subst c93
               have H1 : (laws_FnProductRuns.j4 kj30 l1 t396 t397 t398 true t402 t406 t407 (!t402)) = some r := by rw [if_pos rfl] at H; exact H
               clear H
               have H := H1
               clear H1
               as_aux_lemma =>
                have H' := Aside0.mk H
                clear H
                go_wp2
                repeat (go_quiet (fail); try go_wp2)
                go_meet
                case rel => exact ⟨_, (!t402), (by first | rfl | (simp; done) | (simp [*]; done)), H', ⟨by have := HJ11.out; have := HJ30.out; first | omega | exact Nat.le_refl _⟩, ⟨by repeat (first | (with_reducible first | exact HB.out | apply below_alloc | apply pw_below_drewN | apply below_drew1) | exact HB.out)⟩⟩
              ·replace c93 := Bool.eq_false_iff.mpr c93
               subst c93
               have H1 : (laws_FnProductRuns.j4 kj30 l1 t396 t397 t398 false t402 t406 t407 false) = some r := by rw [if_neg (show ¬ (false = true) by decide)] at H; exact H
               clear H
               have H := H1
               clear H1
               as_aux_lemma =>
                have H' := Aside0.mk H
                clear H
                go_wp2
                repeat (go_quiet (fail); try go_wp2)
                go_meet
                case rel => exact ⟨_, (false), (by first | rfl | (simp; done) | (simp [*]; done)), H', ⟨by have := HJ11.out; have := HJ30.out; first | omega | exact Nat.le_refl _⟩, ⟨by repeat (first | (with_reducible first | exact HB.out | apply below_alloc | apply pw_below_drewN | apply below_drew1) | exact HB.out)⟩⟩
             ·rw [if_neg c92] at H
              have c92b0 : (t406 == t408) = false := beq_eq_false_iff_ne.mpr c92
              have c92b1 : (t406 != t408) = true := bne_iff_ne.mpr c92
              exact (laws_FnProductRuns.j4_no HR_.out _ _ _ _ _ _ _ _ _ H).elim
         ·rw [if_neg c88] at H
          have c88b0 : (t398 == t400) = false := beq_eq_false_iff_ne.mpr c88
          have c88b1 : (t398 != t400) = true := bne_iff_ne.mpr c88
          exact (laws_FnProductRuns.j4_no HR_.out _ _ _ _ _ _ _ _ _ H).elim
       case rest =>
        as_aux_lemma =>
        clear HC81
        try clear c1
        try clear c2
        try clear p2
        try clear c3
        try clear p3
        try clear q3
        try clear hx3
        try clear qi3
        try clear c4
        try clear c5
        try clear c6
        try clear p6
        try clear c8
        try clear c9
        try clear c20
        try clear c20b0
        try clear c20b1
        try clear c20b2
        try clear c22
        try clear c23
        try clear c23b0
        try clear c23b1
        try clear c23b2
        try clear c24
        try clear c24b0
        try clear c24b1
        try clear c25
        try clear c25b0
        try clear c25b1
        try clear c25b2
        try clear c26
        try clear c26b0
        try clear c26b1
        try clear c27
        try clear c27b0
        try clear c27b1
        try clear c27b2
        try clear c30
        try clear c32
        try clear c34
        try clear c34b0
        try clear c34b1
        try clear c35
        try clear c35b0
        try clear c35b1
        try clear c36
        try clear c36b0
        try clear c36b1
        try clear c37
        try clear c37b0
        try clear c38
        try clear c38b0
        try clear p38
        try clear q38
        try clear hx38
        try clear qi38
        try clear c39
        try clear c39b0
        try clear c39b1
        try clear c41
        try clear c42
        try clear c42b0
        try clear c44
        try clear c44b0
        try clear c45
        try clear c45b0
        try clear c47
        try clear c48
        try clear c48b0
        try clear c49
        try clear c49b0
        try clear c49b1
        try clear c50
        try clear c50b0
        try clear c56
        try clear c57
        try clear c58
        try clear c59
        try clear c59b0
        try clear c60
        try clear c60b0
        try clear c61
        try clear c61b0
        try clear c61b1
        try clear p64
        try clear c87
        try clear c87b0
        try clear c87b1
        try clear c87b2
        try clear c88
        try clear c88b0
        try clear c88b1
        try clear c89
        try clear c89b0
        try clear c89b1
        try clear c89b2
        try clear c90
        try clear c90b0
        try clear c90b1
        try clear c90b2
        try clear c91
        try clear c91b0
        try clear c91b1
        try clear c91b2
        try clear c92
        try clear c92b0
        try clear c92b1
        try clear c93
        try clear hx382_0
        try clear hx383_0
        try clear hx384_0
        try clear hx387_0
        try clear hx388_0
        try clear hx389_0
        try clear p2
        try clear p3
        try clear p38
        try clear p382
        try clear p383
        try clear p384
        try clear p387
        try clear p388
        try clear p389
        try clear p6
        try clear p64
        try clear q3
        try clear q38
        try clear q382
        try clear q383
        try clear q384
        try clear q387
        try clear q388
        try clear q389
        obtain ⟨kq, x316_80, rfl, HA, HJ80, HB⟩ := hcut
        cases kq with
        | zero => exact absurd HA.out (by simp [laws_FnProductRuns.j4])
        | succ kj80 =>
         have H := HA.out
         clear HA
         simp only [laws_FnProductRuns.j4] at H
         by_cases c94 : x316_80 = true
         ·subst c94
          have H1 : (some false) = some r := by rw [if_pos rfl] at H; exact H
          clear H
          have H := H1
          clear H1
          exact absurd (Option.some.inj H) (by rw [HR_.out]; decide)
         ·replace c94 := Bool.eq_false_iff.mpr c94
          subst c94
          have H1 : (if t399 = true then ((impl_DigitProduct.f kj80 t398 t397).bind fun bt410 => (if bt410.2 = true then (if bt410.1 = t396 then (laws_FnProductRuns.j5 kj80 l1 t402 t406 t407) else (some false)) else (some false))) else (laws_FnProductRuns.j5 kj80 l1 t402 t406 t407)) = some r := by rw [if_neg (show ¬ (false = true) by decide)] at H; exact H
          clear H
          have H := H1
          clear H1
          have HC95 := Aside0.mk H
          clear H
          go_upto_if 317 with (fail)
          repeat (go_quiet (fail); go_upto_if 317 with (fail))
          go_cut [] (fun wc => ∃ (kq : Nat), Aside0 (laws_FnProductRuns.j5 kq l1 t402 t406 t407 = some r) ∧ Aside0 (kq ≤ kj80) ∧ Aside0 (Below w.heap.size w wc))
          case first =>
           as_aux_lemma =>
           have H := HC95.out
           clear HC95
           by_cases c96 : t399 = true
           ·subst c96
            have H1 : ((impl_DigitProduct.f kj80 t398 t397).bind fun bt410 => (if bt410.2 = true then (if bt410.1 = t396 then (laws_FnProductRuns.j5 kj80 l1 t402 t406 t407) else (some false)) else (some false))) = some r := by rw [if_pos rfl] at H; exact H
            clear H
            have H := H1
            clear H1
            replace H := Option.bind_eq_some_iff.mp H
            obtain ⟨⟨t410, t411⟩, A970, H⟩ := H
            replace H : (if t411 = true then (if t410 = t396 then (laws_FnProductRuns.j5 kj80 l1 t402 t406 t407) else (some false)) else (some false)) = some r := H
            have A97 := Aside0.mk A970
            clear A970
            by_cases c98 : t411 = true
            ·subst c98
             have H1 : (if t410 = t396 then (laws_FnProductRuns.j5 kj80 l1 t402 t406 t407) else (some false)) = some r := by rw [if_pos rfl] at H; exact H
             clear H
             have H := H1
             clear H1
             by_cases c99 : t410 = t396
             ·rw [if_pos c99] at H
              have c99b0 : (t410 == t396) = true := beq_iff_eq.mpr c99
              have c99b1 : (t410 != t396) = false := bne_eq_false_iff_eq.mpr c99
              clear c99
              (first | rw [c99b0] | (simp only [i64_w, i32_w]; rw [c99b0]) | skip)
              as_aux_lemma =>
               have H' := Aside0.mk H
               clear H
               go_wp2_with (first | (go_at_call 13; (with_reducible refine (impl_DigitProduct.calls kj80 t398 t397 t410 true _ A97.out).mono ?_); rintro e w100 ⟨rfl, hb⟩; have n0_ := Aside0.mk (below_step (by repeat (first | (with_reducible first | exact HB.out | apply below_alloc | apply pw_below_drewN | apply below_drew1) | exact HB.out)) hb); clear HB; have HB := n0_; clear n0_; (try clear hb); (try clear hb2); (try clear hk); (try clear hi)))
               repeat (go_quiet (first | (go_at_call 13; (with_reducible refine (impl_DigitProduct.calls kj80 t398 t397 t410 true _ A97.out).mono ?_); rintro e w100 ⟨rfl, hb⟩; have n0_ := Aside0.mk (below_step (by repeat (first | (with_reducible first | exact HB.out | apply below_alloc | apply pw_below_drewN | apply below_drew1) | exact HB.out)) hb); clear HB; have HB := n0_; clear n0_; (try clear hb); (try clear hb2); (try clear hk); (try clear hi))); try go_wp2_with (first | (go_at_call 13; (with_reducible refine (impl_DigitProduct.calls kj80 t398 t397 t410 true _ A97.out).mono ?_); rintro e w100 ⟨rfl, hb⟩; have n0_ := Aside0.mk (below_step (by repeat (first | (with_reducible first | exact HB.out | apply below_alloc | apply pw_below_drewN | apply below_drew1) | exact HB.out)) hb); clear HB; have HB := n0_; clear n0_; (try clear hb); (try clear hb2); (try clear hk); (try clear hi))))
               go_meet
               case rel => exact ⟨_, H', ⟨by have := HJ11.out; have := HJ30.out; have := HJ80.out; first | omega | exact Nat.le_refl _⟩, ⟨by repeat (first | (with_reducible first | exact HB.out | apply below_alloc | apply pw_below_drewN | apply below_drew1) | exact HB.out)⟩⟩
             ·rw [if_neg c99] at H
              have c99b0 : (t410 == t396) = false := beq_eq_false_iff_ne.mpr c99
              have c99b1 : (t410 != t396) = true := bne_iff_ne.mpr c99
              (first | rw [c99b0] | (simp only [i64_w, i32_w]; rw [c99b0]) | skip)
              exact absurd (Option.some.inj H) (by rw [HR_.out]; decide)
            ·replace c98 := Bool.eq_false_iff.mpr c98
             subst c98
             have H1 : (some false) = some r := by rw [if_neg (show ¬ (false = true) by decide)] at H; exact H
             clear H
             have H := H1
             clear H1
             exact absurd (Option.some.inj H) (by rw [HR_.out]; decide)
           ·replace c96 := Bool.eq_false_iff.mpr c96
            subst c96
            have H1 : (laws_FnProductRuns.j5 kj80 l1 t402 t406 t407) = some r := by rw [if_neg (show ¬ (false = true) by decide)] at H; exact H
            clear H
            have H := H1
            clear H1
            as_aux_lemma =>
             have H' := Aside0.mk H
             clear H
             go_wp2
             repeat (go_quiet (fail); try go_wp2)
             go_meet
             case rel => exact ⟨_, H', ⟨by have := HJ11.out; have := HJ30.out; have := HJ80.out; first | omega | exact Nat.le_refl _⟩, ⟨by repeat (first | (with_reducible first | exact HB.out | apply below_alloc | apply pw_below_drewN | apply below_drew1) | exact HB.out)⟩⟩
          case rest =>
           as_aux_lemma =>
           clear HC95
           try clear c1
           try clear c2
           try clear p2
           try clear c3
           try clear p3
           try clear q3
           try clear hx3
           try clear qi3
           try clear c4
           try clear c5
           try clear c6
           try clear p6
           try clear c8
           try clear c9
           try clear c20
           try clear c20b0
           try clear c20b1
           try clear c20b2
           try clear c22
           try clear c23
           try clear c23b0
           try clear c23b1
           try clear c23b2
           try clear c24
           try clear c24b0
           try clear c24b1
           try clear c25
           try clear c25b0
           try clear c25b1
           try clear c25b2
           try clear c26
           try clear c26b0
           try clear c26b1
           try clear c27
           try clear c27b0
           try clear c27b1
           try clear c27b2
           try clear c30
           try clear c32
           try clear c34
           try clear c34b0
           try clear c34b1
           try clear c35
           try clear c35b0
           try clear c35b1
           try clear c36
           try clear c36b0
           try clear c36b1
           try clear c37
           try clear c37b0
           try clear c38
           try clear c38b0
           try clear p38
           try clear q38
           try clear hx38
           try clear qi38
           try clear c39
           try clear c39b0
           try clear c39b1
           try clear c41
           try clear c42
           try clear c42b0
           try clear c44
           try clear c44b0
           try clear c45
           try clear c45b0
           try clear c47
           try clear c48
           try clear c48b0
           try clear c49
           try clear c49b0
           try clear c49b1
           try clear c50
           try clear c50b0
           try clear c56
           try clear c57
           try clear c58
           try clear c59
           try clear c59b0
           try clear c60
           try clear c60b0
           try clear c61
           try clear c61b0
           try clear c61b1
           try clear p64
           try clear c87
           try clear c87b0
           try clear c87b1
           try clear c87b2
           try clear c88
           try clear c88b0
           try clear c88b1
           try clear c89
           try clear c89b0
           try clear c89b1
           try clear c89b2
           try clear c90
           try clear c90b0
           try clear c90b1
           try clear c90b2
           try clear c91
           try clear c91b0
           try clear c91b1
           try clear c91b2
           try clear c92
           try clear c92b0
           try clear c92b1
           try clear c93
           try clear c94
           try clear c96
           try clear c98
           try clear c99
           try clear c99b0
           try clear c99b1
           try clear hx382_0
           try clear hx383_0
           try clear hx384_0
           try clear hx387_0
           try clear hx388_0
           try clear hx389_0
           try clear p2
           try clear p3
           try clear p38
           try clear p382
           try clear p383
           try clear p384
           try clear p387
           try clear p388
           try clear p389
           try clear p6
           try clear p64
           try clear q3
           try clear q38
           try clear q382
           try clear q383
           try clear q384
           try clear q387
           try clear q388
           try clear q389
           obtain ⟨kq, HA, HJ94, HB⟩ := hcut
           cases kq with
           | zero => exact absurd HA.out (by simp [laws_FnProductRuns.j5])
           | succ kj94 =>
            have H := HA.out
            clear HA
            simp only [laws_FnProductRuns.j5] at H
            have HC101 := Aside0.mk H
            clear H
            go_upto_region 39 with (fail)
            repeat (go_quiet (fail); go_upto_region 39 with (fail))
            go_cut [337] (fun v337 wc => ∃ (kq : Nat) (x337_100 : Bool), v337 = .bool x337_100 ∧ Aside0 (laws_FnProductRuns.j6 kq l1 x337_100 = some r) ∧ Aside0 (kq ≤ kj94) ∧ Aside0 (Below w.heap.size w wc))
            case first =>
             as_aux_lemma =>
             have H := HC101.out
             clear HC101
             by_cases c102 : t407 = true
             ·subst c102
              have H1 : (laws_FnProductRuns.j6 kj94 l1 (t402 != (decide (t406 > 0)))) = some r := by rw [if_pos rfl] at H; exact H
              clear H
              have H := H1
              clear H1
              as_aux_lemma =>
               have H' := Aside0.mk H
               clear H
               go_wp2
               repeat (go_quiet (fail); try go_wp2)
               go_meet
               case rel => exact ⟨_, ((t402 != (decide (t406 > 0)))), (by first | rfl | (simp; done) | (simp [*]; done)), H', ⟨by have := HJ11.out; have := HJ30.out; have := HJ80.out; have := HJ94.out; first | omega | exact Nat.le_refl _⟩, ⟨by repeat (first | (with_reducible first | exact HB.out | apply below_alloc | apply pw_below_drewN | apply below_drew1) | exact HB.out)⟩⟩
             ·replace c102 := Bool.eq_false_iff.mpr c102
              subst c102
              have H1 : (laws_FnProductRuns.j6 kj94 l1 false) = some r := by rw [if_neg (show ¬ (false = true) by decide)] at H; exact H
              clear H
              have H := H1
              clear H1
              as_aux_lemma =>
               have H' := Aside0.mk H
               clear H
               go_wp2
               repeat (go_quiet (fail); try go_wp2)
               go_meet
               case rel => exact ⟨_, (false), (by first | rfl | (simp; done) | (simp [*]; done)), H', ⟨by have := HJ11.out; have := HJ30.out; have := HJ80.out; have := HJ94.out; first | omega | exact Nat.le_refl _⟩, ⟨by repeat (first | (with_reducible first | exact HB.out | apply below_alloc | apply pw_below_drewN | apply below_drew1) | exact HB.out)⟩⟩
            case rest =>
             as_aux_lemma =>
             clear HC101
             try clear c1
             try clear c2
             try clear p2
             try clear c3
             try clear p3
             try clear q3
             try clear hx3
             try clear qi3
             try clear c4
             try clear c5
             try clear c6
             try clear p6
             try clear c8
             try clear c9
             try clear c10
             try clear c20
             try clear c20b0
             try clear c20b1
             try clear c20b2
             try clear c22
             try clear c23
             try clear c23b0
             try clear c23b1
             try clear c23b2
             try clear c24
             try clear c24b0
             try clear c24b1
             try clear c25
             try clear c25b0
             try clear c25b1
             try clear c25b2
             try clear c26
             try clear c26b0
             try clear c26b1
             try clear c27
             try clear c27b0
             try clear c27b1
             try clear c27b2
             try clear c30
             try clear c32
             try clear c34
             try clear c34b0
             try clear c34b1
             try clear c35
             try clear c35b0
             try clear c35b1
             try clear c36
             try clear c36b0
             try clear c36b1
             try clear c37
             try clear c37b0
             try clear c38
             try clear c38b0
             try clear p38
             try clear q38
             try clear hx38
             try clear qi38
             try clear c39
             try clear c39b0
             try clear c39b1
             try clear c41
             try clear c42
             try clear c42b0
             try clear c44
             try clear c44b0
             try clear c45
             try clear c45b0
             try clear c47
             try clear c48
             try clear c48b0
             try clear c49
             try clear c49b0
             try clear c49b1
             try clear c50
             try clear c50b0
             try clear c56
             try clear c57
             try clear c58
             try clear c59
             try clear c59b0
             try clear c60
             try clear c60b0
             try clear c61
             try clear c61b0
             try clear c61b1
             try clear p64
             try clear c87
             try clear c87b0
             try clear c87b1
             try clear c87b2
             try clear c88
             try clear c88b0
             try clear c88b1
             try clear c89
             try clear c89b0
             try clear c89b1
             try clear c89b2
             try clear c90
             try clear c90b0
             try clear c90b1
             try clear c90b2
             try clear c91
             try clear c91b0
             try clear c91b1
             try clear c91b2
             try clear c92
             try clear c92b0
             try clear c92b1
             try clear c93
             try clear c94
             try clear c96
             try clear c98
             try clear c99
             try clear c99b0
             try clear c99b1
             try clear c102
             try clear hx382_0
             try clear hx383_0
             try clear hx384_0
             try clear hx387_0
             try clear hx388_0
             try clear hx389_0
             try clear p2
             try clear p3
             try clear p38
             try clear p382
             try clear p383
             try clear p384
             try clear p387
             try clear p388
             try clear p389
             try clear p6
             try clear p64
             try clear q3
             try clear q38
             try clear q382
             try clear q383
             try clear q384
             try clear q387
             try clear q388
             try clear q389
             obtain ⟨kq, x337_100, rfl, HA, HJ100, HB⟩ := hcut
             cases kq with
             | zero => exact absurd HA.out (by simp [laws_FnProductRuns.j6])
             | succ kj100 =>
              have H := HA.out
              clear HA
              simp only [laws_FnProductRuns.j6] at H
              by_cases c103 : x337_100 = true
              ·subst c103
               have H1 : (some false) = some r := by rw [if_pos rfl] at H; exact H
               clear H
               have H := H1
               clear H1
               exact absurd (Option.some.inj H) (by rw [HR_.out]; decide)
              ·replace c103 := Bool.eq_false_iff.mpr c103
               subst c103
               have H1 : ((spec_DrawLeastPersistent.f l1).bind fun bt412 => ((impl_LeastPersistent.f kj100 bt412.1 bt412.2).bind fun bt414 => ((spec_LeastPersistent.f kj100 bt412.1 bt412.2).bind fun bt416 => (if (bt414.2 != bt416.2) = true then (laws_FnProductRuns.j7 kj100 bt412.1 bt412.2 bt414.1 bt414.2 true) else (laws_FnProductRuns.j7 kj100 bt412.1 bt412.2 bt414.1 bt414.2 (bt414.1 != bt416.1)))))) = some r := by rw [if_neg (show ¬ (false = true) by decide)] at H; exact H
               clear H
               have H := H1
               clear H1
               replace H := Option.bind_eq_some_iff.mp H
               obtain ⟨⟨t412, t413⟩, A1040, H⟩ := H
               replace H : ((impl_LeastPersistent.f kj100 t412 t413).bind fun bt414 => ((spec_LeastPersistent.f kj100 t412 t413).bind fun bt416 => (if (bt414.2 != bt416.2) = true then (laws_FnProductRuns.j7 kj100 t412 t413 bt414.1 bt414.2 true) else (laws_FnProductRuns.j7 kj100 t412 t413 bt414.1 bt414.2 (bt414.1 != bt416.1))))) = some r := H
               have A104 := Aside0.mk A1040
               clear A1040
               replace H := Option.bind_eq_some_iff.mp H
               obtain ⟨⟨t414, t415⟩, A1050, H⟩ := H
               replace H : ((spec_LeastPersistent.f kj100 t412 t413).bind fun bt416 => (if (t415 != bt416.2) = true then (laws_FnProductRuns.j7 kj100 t412 t413 t414 t415 true) else (laws_FnProductRuns.j7 kj100 t412 t413 t414 t415 (t414 != bt416.1)))) = some r := H
               have A105 := Aside0.mk A1050
               clear A1050
               replace H := Option.bind_eq_some_iff.mp H
               obtain ⟨⟨t416, t417⟩, A1060, H⟩ := H
               replace H : (if (t415 != t417) = true then (laws_FnProductRuns.j7 kj100 t412 t413 t414 t415 true) else (laws_FnProductRuns.j7 kj100 t412 t413 t414 t415 (t414 != t416))) = some r := H
               have A106 := Aside0.mk A1060
               clear A1060
               have HC107 := Aside0.mk H
               clear H
               go_upto_region 44 with (first | (go_at_call 22; (with_reducible refine (spec_DrawLeastPersistent.calls _ _ l1 t412 t413 _ ?side1 ?side2 A104.out).mono ?_); (case side1 => repeat (first | exact (Kd.C_below HR1.out HB.out) | (with_reducible refine Kd.C_alloc ?_ _) | (with_reducible refine Kd.C_drewN ?_ _) | (with_reducible refine Kd.C_drew ?_))); (case side2 => exact HC1.out); rintro e w108 ⟨rfl, hb⟩; have n0_ := Aside0.mk (below_step (by repeat (first | (with_reducible first | exact HB.out | apply below_alloc | apply pw_below_drewN | apply below_drew1) | exact HB.out)) hb); clear HB; have HB := n0_; clear n0_; (try clear hb); (try clear hb2); (try clear hk); (try clear hi)) | (go_at_call 23; (with_reducible refine (impl_LeastPersistent.calls kj100 t412 t413 t414 t415 _ A105.out).mono ?_); rintro e w109 ⟨rfl, hb⟩; have n0_ := Aside0.mk (below_step (by repeat (first | (with_reducible first | exact HB.out | apply below_alloc | apply pw_below_drewN | apply below_drew1) | exact HB.out)) hb); clear HB; have HB := n0_; clear n0_; (try clear hb); (try clear hb2); (try clear hk); (try clear hi)) | (go_at_call 24; (with_reducible refine (spec_LeastPersistent.calls kj100 t412 t413 t416 t417 _ A106.out).mono ?_); rintro e w110 ⟨rfl, hb⟩; have n0_ := Aside0.mk (below_step (by repeat (first | (with_reducible first | exact HB.out | apply below_alloc | apply pw_below_drewN | apply below_drew1) | exact HB.out)) hb); clear HB; have HB := n0_; clear n0_; (try clear hb); (try clear hb2); (try clear hk); (try clear hi)))
               repeat (go_quiet (first | (go_at_call 22; (with_reducible refine (spec_DrawLeastPersistent.calls _ _ l1 t412 t413 _ ?side1 ?side2 A104.out).mono ?_); (case side1 => repeat (first | exact (Kd.C_below HR1.out HB.out) | (with_reducible refine Kd.C_alloc ?_ _) | (with_reducible refine Kd.C_drewN ?_ _) | (with_reducible refine Kd.C_drew ?_))); (case side2 => exact HC1.out); rintro e w108 ⟨rfl, hb⟩; have n0_ := Aside0.mk (below_step (by repeat (first | (with_reducible first | exact HB.out | apply below_alloc | apply pw_below_drewN | apply below_drew1) | exact HB.out)) hb); clear HB; have HB := n0_; clear n0_; (try clear hb); (try clear hb2); (try clear hk); (try clear hi)) | (go_at_call 23; (with_reducible refine (impl_LeastPersistent.calls kj100 t412 t413 t414 t415 _ A105.out).mono ?_); rintro e w109 ⟨rfl, hb⟩; have n0_ := Aside0.mk (below_step (by repeat (first | (with_reducible first | exact HB.out | apply below_alloc | apply pw_below_drewN | apply below_drew1) | exact HB.out)) hb); clear HB; have HB := n0_; clear n0_; (try clear hb); (try clear hb2); (try clear hk); (try clear hi)) | (go_at_call 24; (with_reducible refine (spec_LeastPersistent.calls kj100 t412 t413 t416 t417 _ A106.out).mono ?_); rintro e w110 ⟨rfl, hb⟩; have n0_ := Aside0.mk (below_step (by repeat (first | (with_reducible first | exact HB.out | apply below_alloc | apply pw_below_drewN | apply below_drew1) | exact HB.out)) hb); clear HB; have HB := n0_; clear n0_; (try clear hb); (try clear hb2); (try clear hk); (try clear hi))); go_upto_region 44 with (first | (go_at_call 22; (with_reducible refine (spec_DrawLeastPersistent.calls _ _ l1 t412 t413 _ ?side1 ?side2 A104.out).mono ?_); (case side1 => repeat (first | exact (Kd.C_below HR1.out HB.out) | (with_reducible refine Kd.C_alloc ?_ _) | (with_reducible refine Kd.C_drewN ?_ _) | (with_reducible refine Kd.C_drew ?_))); (case side2 => exact HC1.out); rintro e w108 ⟨rfl, hb⟩; have n0_ := Aside0.mk (below_step (by repeat (first | (with_reducible first | exact HB.out | apply below_alloc | apply pw_below_drewN | apply below_drew1) | exact HB.out)) hb); clear HB; have HB := n0_; clear n0_; (try clear hb); (try clear hb2); (try clear hk); (try clear hi)) | (go_at_call 23; (with_reducible refine (impl_LeastPersistent.calls kj100 t412 t413 t414 t415 _ A105.out).mono ?_); rintro e w109 ⟨rfl, hb⟩; have n0_ := Aside0.mk (below_step (by repeat (first | (with_reducible first | exact HB.out | apply below_alloc | apply pw_below_drewN | apply below_drew1) | exact HB.out)) hb); clear HB; have HB := n0_; clear n0_; (try clear hb); (try clear hb2); (try clear hk); (try clear hi)) | (go_at_call 24; (with_reducible refine (spec_LeastPersistent.calls kj100 t412 t413 t416 t417 _ A106.out).mono ?_); rintro e w110 ⟨rfl, hb⟩; have n0_ := Aside0.mk (below_step (by repeat (first | (with_reducible first | exact HB.out | apply below_alloc | apply pw_below_drewN | apply below_drew1) | exact HB.out)) hb); clear HB; have HB := n0_; clear n0_; (try clear hb); (try clear hb2); (try clear hk); (try clear hi))))
               (try simp only [Act.put, List.setIfInBounds_toArray, List.set_cons_zero, List.set_cons_succ])
               go_cut [362] (fun v362 wc => ∃ (kq : Nat) (x362_106 : Bool), v362 = .bool x362_106 ∧ Aside0 (laws_FnProductRuns.j7 kq t412 t413 t414 t415 x362_106 = some r) ∧ Aside0 (kq ≤ kj100) ∧ Aside0 (Below w.heap.size w wc))
               case first =>
                as_aux_lemma =>
                have H := HC107.out
                clear HC107
                by_cases c111 : (t415 != t417) = true
                ·rw [if_pos c111] at H
                 have c111b0 : (t415 != t417) = true := c111
                 (try (have c111b1 : decide (t415 = t417) = false := by simpa using c111))
                 (try (have c111b2 : (t415 == t417) = false := by simpa using c111))
                 (try (have c111b3 : ¬ (t415 = t417) := by simpa using c111))
                 clear c111
                 (first | rw [c111b0] | (simp only [i64_w, i32_w]; rw [c111b0]) | skip)
                 exact (laws_FnProductRuns.j7_no HR_.out _ _ _ _ _ H).elim
                ·rw [if_neg c111] at H
                 have c111b0 : (t415 != t417) = false := by simpa using c111
                 (try (have c111b1 : decide (t415 = t417) = true := by simpa using c111))
                 (try (have c111b2 : (t415 == t417) = true := by simpa using c111))
                 clear c111
                 (first | rw [c111b0] | (simp only [i64_w, i32_w]; rw [c111b0]) | skip)
                 as_aux_lemma =>
                  have H' := Aside0.mk H
                  clear H
                  go_wp2
                  repeat (go_quiet (fail); try go_wp2)
                  go_meet
                  case rel => exact ⟨_, ((t414 != t416)), (by first | rfl | (simp; done) | (simp [*]; done)), H', ⟨by have := HJ11.out; have := HJ30.out; have := HJ80.out; have := HJ94.out; have := HJ100.out; first | omega | exact Nat.le_refl _⟩, ⟨by repeat (first | (with_reducible first | exact HB.out | apply below_alloc | apply pw_below_drewN | apply below_drew1) | exact HB.out)⟩⟩
               case rest =>
                as_aux_lemma =>
                clear HC107
                try clear c1
                try clear c2
                try clear p2
                try clear c3
                try clear p3
                try clear q3
                try clear hx3
                try clear qi3
                try clear c4
                try clear c5
                try clear c6
                try clear p6
                try clear c8
                try clear c9
                try clear c10
                try clear c11
                try clear c20
                try clear c20b0
                try clear c20b1
                try clear c20b2
                try clear c22
                try clear c23
                try clear c23b0
                try clear c23b1
                try clear c23b2
                try clear c24
                try clear c24b0
                try clear c24b1
                try clear c25
                try clear c25b0
                try clear c25b1
                try clear c25b2
                try clear c26
                try clear c26b0
                try clear c26b1
                try clear c27
                try clear c27b0
                try clear c27b1
                try clear c27b2
                try clear c30
                try clear c32
                try clear c34
                try clear c34b0
                try clear c34b1
                try clear c35
                try clear c35b0
                try clear c35b1
                try clear c36
                try clear c36b0
                try clear c36b1
                try clear c37
                try clear c37b0
                try clear c38
                try clear c38b0
                try clear p38
                try clear q38
                try clear hx38
                try clear qi38
                try clear c39
                try clear c39b0
                try clear c39b1
                try clear c41
                try clear c42
                try clear c42b0
                try clear c44
                try clear c44b0
                try clear c45
                try clear c45b0
                try clear c47
                try clear c48
                try clear c48b0
                try clear c49
                try clear c49b0
                try clear c49b1
                try clear c50
                try clear c50b0
                try clear c56
                try clear c57
                try clear c58
                try clear c59
                try clear c59b0
                try clear c60
                try clear c60b0
                try clear c61
                try clear c61b0
                try clear c61b1
                try clear p64
                try clear c87
                try clear c87b0
                try clear c87b1
                try clear c87b2
                try clear c88
                try clear c88b0
                try clear c88b1
                try clear c89
                try clear c89b0
                try clear c89b1
                try clear c89b2
                try clear c90
                try clear c90b0
                try clear c90b1
                try clear c90b2
                try clear c91
                try clear c91b0
                try clear c91b1
                try clear c91b2
                try clear c92
                try clear c92b0
                try clear c92b1
                try clear c93
                try clear c94
                try clear c96
                try clear c98
                try clear c99
                try clear c99b0
                try clear c99b1
                try clear c102
                try clear c103
                try clear c111
                try clear c111b0
                try clear c111b1
                try clear c111b2
                try clear hx382_0
                try clear hx383_0
                try clear hx384_0
                try clear hx387_0
                try clear hx388_0
                try clear hx389_0
                try clear p2
                try clear p3
                try clear p38
                try clear p382
                try clear p383
                try clear p384
                try clear p387
                try clear p388
                try clear p389
                try clear p6
                try clear p64
                try clear q3
                try clear q38
                try clear q382
                try clear q383
                try clear q384
                try clear q387
                try clear q388
                try clear q389
                obtain ⟨kq, x362_106, rfl, HA, HJ106, HB⟩ := hcut
                cases kq with
                | zero => exact absurd HA.out (by simp [laws_FnProductRuns.j7])
                | succ kj106 =>
                 have H := HA.out
                 clear HA
                 simp only [laws_FnProductRuns.j7] at H
                 by_cases c112 : x362_106 = true
                 ·subst c112
                  have H1 : (some false) = some r := by rw [if_pos rfl] at H; exact H
                  clear H
                  have H := H1
                  clear H1
                  exact absurd (Option.some.inj H) (by rw [HR_.out]; decide)
                 ·replace c112 := Bool.eq_false_iff.mpr c112
                  subst c112
                  have H1 : (if t415 = true then ((impl_PersistenceOf.f kj106 t414 t413).bind fun bt418 => (if bt418.2 = true then (some (bt418.1 == t412)) else (some false))) else (some true)) = some r := by rw [if_neg (show ¬ (false = true) by decide)] at H; exact H
                  clear H
                  have H := H1
                  clear H1
                  by_cases c113 : t415 = true
                  ·subst c113
                   have H1 : ((impl_PersistenceOf.f kj106 t414 t413).bind fun bt418 => (if bt418.2 = true then (some (bt418.1 == t412)) else (some false))) = some r := by rw [if_pos rfl] at H; exact H
                   clear H
                   have H := H1
                   clear H1
                   replace H := Option.bind_eq_some_iff.mp H
                   obtain ⟨⟨t418, t419⟩, A1140, H⟩ := H
                   replace H : (if t419 = true then (some (t418 == t412)) else (some false)) = some r := H
                   have A114 := Aside0.mk A1140
                   clear A1140
                   by_cases c115 : t419 = true
                   ·subst c115
                    have H1 : (some (t418 == t412)) = some r := by rw [if_pos rfl] at H; exact H
                    clear H
                    have H := H1
                    clear H1
                    as_aux_lemma =>
                     obtain rfl := Option.some.inj H
                     go_wp2_with (first | (go_at_call 8; (with_reducible refine (impl_PersistenceOf.calls kj106 t414 t413 t418 true _ A114.out).mono ?_); rintro e w116 ⟨rfl, hb⟩; have n0_ := Aside0.mk (below_step (by repeat (first | (with_reducible first | exact HB.out | apply below_alloc | apply pw_below_drewN | apply below_drew1) | exact HB.out)) hb); clear HB; have HB := n0_; clear n0_; (try clear hb); (try clear hb2); (try clear hk); (try clear hi)))
                     repeat (go_quiet (first | (go_at_call 8; (with_reducible refine (impl_PersistenceOf.calls kj106 t414 t413 t418 true _ A114.out).mono ?_); rintro e w116 ⟨rfl, hb⟩; have n0_ := Aside0.mk (below_step (by repeat (first | (with_reducible first | exact HB.out | apply below_alloc | apply pw_below_drewN | apply below_drew1) | exact HB.out)) hb); clear HB; have HB := n0_; clear n0_; (try clear hb); (try clear hb2); (try clear hk); (try clear hi))); try go_wp2_with (first | (go_at_call 8; (with_reducible refine (impl_PersistenceOf.calls kj106 t414 t413 t418 true _ A114.out).mono ?_); rintro e w116 ⟨rfl, hb⟩; have n0_ := Aside0.mk (below_step (by repeat (first | (with_reducible first | exact HB.out | apply below_alloc | apply pw_below_drewN | apply below_drew1) | exact HB.out)) hb); clear HB; have HB := n0_; clear n0_; (try clear hb); (try clear hb2); (try clear hk); (try clear hi))))
                     go_ret
                     exact ⟨by first | rfl | (simp [errW_none, errW_some] <;> rfl) | (simp [*, errW_none, errW_some] <;> rfl), by repeat (first | (with_reducible first | exact HB.out | apply below_alloc | apply pw_below_drewN | apply below_drew1) | exact HB.out)⟩
                   ·replace c115 := Bool.eq_false_iff.mpr c115
                    subst c115
                    have H1 : (some false) = some r := by rw [if_neg (show ¬ (false = true) by decide)] at H; exact H
                    clear H
                    have H := H1
                    clear H1
                    exact absurd (Option.some.inj H) (by rw [HR_.out]; decide)
                  ·replace c113 := Bool.eq_false_iff.mpr c113
                   subst c113
                   have H1 : (some true) = some r := by rw [if_neg (show ¬ (false = true) by decide)] at H; exact H
                   clear H
                   have H := H1
                   clear H1
                   as_aux_lemma =>
                    obtain rfl := Option.some.inj H
                    go_wp2
                    repeat (go_quiet (fail); try go_wp2)
                    go_ret
                    exact ⟨by first | rfl | (simp [errW_none, errW_some] <;> rfl) | (simp [*, errW_none, errW_some] <;> rfl), by repeat (first | (with_reducible first | exact HB.out | apply below_alloc | apply pw_below_drewN | apply below_drew1) | exact HB.out)⟩

/-- THE ONE PURE STATEMENT of laws_FnProductRuns: yours. -/
def laws_FnProductRuns.Pure : Prop := ∀ (l0 : List Int) (l1 : List Int), l0.length ≤ maxLen → l0.length * 1 ≤ 140737488351232 → (∀ x ∈ l0, (Lit.int .u8 x).wf = true) → l1.length ≤ maxLen → l1.length * 1 ≤ 140737488351232 → (∀ x ∈ l1, (Lit.int .u8 x).wf = true) → ∃ k, laws_FnProductRuns.f k l0 l1 = some true
theorem laws_FnProductRuns.walk (P : laws_FnProductRuns.Pure) (a0 : Option Addr) (len0 cap0 : Nat) (z0 : List Int) (a1 : Option Addr) (len1 cap1 : Nat) (z1 : List Int) (w : World) (w0 : (a0 = none ∧ len0 = 0 ∧ cap0 = 0 ∧ z0 = []) ∨ ∃ x, a0 = some x ∧ len0 ≤ cap0 ∧ cap0 ≤ maxLen ∧ z0.length = cap0 ∧ (∀ i, i < z0.length → w.cell? (x.add i) = some (.int .u8 (z0.getD i 0))) ∧ ∀ n ∈ z0, (Lit.int .u8 n).wf = true) (y0 : len0 * 1 ≤ 140737488351232) (w1 : (a1 = none ∧ len1 = 0 ∧ cap1 = 0 ∧ z1 = []) ∨ ∃ x, a1 = some x ∧ len1 ≤ cap1 ∧ cap1 ≤ maxLen ∧ z1.length = cap1 ∧ (∀ i, i < z1.length → w.cell? (x.add i) = some (.int .u8 (z1.getD i 0))) ∧ ∀ n ∈ z1, (Lit.int .u8 n).wf = true) (y1 : len1 * 1 ≤ 140737488351232) :
  Calls Try.prog 3 #[.slice a0 len0 cap0, .slice a1 len1 cap1] w fun e w' => e = .returned (.bool true) ∧ Below w.heap.size w w' := by
 obtain ⟨l0, rfl, hr0, hm0, hw0, hc0⟩ := ReadsInt.ofRowC w0
 obtain ⟨l1, rfl, hr1, hm1, hw1, hc1⟩ := ReadsInt.ofRowC w1
 obtain ⟨k, h⟩ := P l0 l1 hm0 y0 hw0 hm1 y1 hw1
 refine (laws_FnProductRuns.calls k _ _ l0 _ _ l1 true w (Kd.C_of_reads (d := (0 : Int)) (h1 := fun _ => rfl) hr0) hc0 (Kd.C_of_reads (d := (0 : Int)) (h1 := fun _ => rfl) hr1) hc1 h rfl).mono ?_
 rintro e w' ⟨rfl, hd⟩
 exact ⟨rfl, hd⟩

end Go.Proofs.Ytjkhgigmhmghbaa.PFnProductRuns
