-- out of the kit's print, turned by wip/own_print.py
import Derived.Test.YtiheocddlopfcaaPFnRunsToSymmetricx0
import Derived.Test.YtiheocddlopfcaaPFnRunsToSymmetricx1
import Derived.Test.YtiheocddlopfcaaPFnRunsToSymmetricx3
import Derived.Test.YtiheocddlopfcaaPFnRunsToSymmetricx4
import Derived.Test.YtiheocddlopfcaaPFnRunsToSymmetricx5
import Derived.Test.YtiheocddlopfcaaPFnRunsToSymmetricx6
import Derived.Test.YtiheocddlopfcaaPFnRunsToSymmetricx7
import Derived.Test.YtiheocddlopfcaaPFnRunsToSymmetricx8
import Derived.Test.YtiheocddlopfcaaPFnRunsToSymmetricx9
namespace Go.Proofs.Ytiheocddlopfcaa.PFnRunsToSymmetric
open Go.RowKit Go.Proofs.YtiheocddlopfcaaW.PrintWords Go.Proofs.YtiheocddlopfcaaW.PrintLast Go.Proofs.YtiheocddlopfcaaW.PrintMore
attribute [local go_sem] max2_int min2_int max_two min_two max_three min_three max_four min_four   -- for this text's walks alone
set_option linter.unusedVariables false
set_option linter.unusedSimpArgs false

/-! ### laws_FnRunsToSymmetric: function 9 -/
mutual
def laws_FnRunsToSymmetric.j0 : Nat → List Int → Int → List (List Int) → Bool → Int → Bool → Bool → Option (Bool)
 | 0, _, _, _, _, _, _, _ => none
 | k + 1, x1, x6, x8, x9, x12, x13, x114 => if x114 = true then (some false) else (if x9 = true then (laws_FnRunsToSymmetric.l0 k x1 x6 x8 x12 x13 x8 (x8.length : Int) 0) else (laws_FnRunsToSymmetric.j3 k x1))
def laws_FnRunsToSymmetric.j3 : Nat → List Int → Option (Bool)
 | 0, _ => none
 | k + 1, x1 => (spec_DrawStepsSpread.f k x1).bind fun bt501 => ((impl_StepsSpread.f k bt501.1 bt501.2.1 bt501.2.2).bind fun bt504 => ((spec_StepsSpread.f k bt501.1 bt501.2.1 bt501.2.2).bind fun bt508 => ((impl_SlowestNumber.f k bt501.1 bt501.2.1 bt501.2.2).bind fun bt512 => ((spec_SlowestNumber.f k bt501.1 bt501.2.1 bt501.2.2).bind fun bt515 => (if (bt504.2 != bt508.2) = true then (laws_FnRunsToSymmetric.j4 k x1 bt501.1 bt501.2.1 bt501.2.2 bt504.1 bt504.2 bt512.2.1 bt512.2.2 true) else ((laws_qSame.f k bt504.1 bt508.1).bind fun t518 => (if t518 = true then (if (bt512.2.2 != bt515.2.2) = true then (laws_FnRunsToSymmetric.j4 k x1 bt501.1 bt501.2.1 bt501.2.2 bt504.1 bt504.2 bt512.2.1 bt512.2.2 true) else (if bt512.1 = bt515.1 then (if bt512.2.1 = bt515.2.1 then (if bt512.2.2 = true then (laws_FnRunsToSymmetric.j4 k x1 bt501.1 bt501.2.1 bt501.2.2 bt504.1 bt504.2 bt512.2.1 bt512.2.2 (!bt504.2)) else (laws_FnRunsToSymmetric.j4 k x1 bt501.1 bt501.2.1 bt501.2.2 bt504.1 bt504.2 bt512.2.1 bt512.2.2 false)) else (laws_FnRunsToSymmetric.j4 k x1 bt501.1 bt501.2.1 bt501.2.2 bt504.1 bt504.2 bt512.2.1 bt512.2.2 true)) else (laws_FnRunsToSymmetric.j4 k x1 bt501.1 bt501.2.1 bt501.2.2 bt504.1 bt504.2 bt512.2.1 bt512.2.2 true))) else (laws_FnRunsToSymmetric.j4 k x1 bt501.1 bt501.2.1 bt501.2.2 bt504.1 bt504.2 bt512.2.1 bt512.2.2 true))))))))
def laws_FnRunsToSymmetric.j4 : Nat → List Int → Int → Int → Int → List Int → Bool → Int → Bool → Bool → Option (Bool)
 | 0, _, _, _, _, _, _, _, _, _ => none
 | k + 1, x1, x22, x23, x24, x25, x26, x30, x31, x239 => if x239 = true then (some false) else (if x26 = true then (laws_FnRunsToSymmetric.l1 k x1 x22 x23 x24 x25 x30 x31 (wrap64 (x23 - 1)) 1) else (laws_FnRunsToSymmetric.j7 k x1))
def laws_FnRunsToSymmetric.j7 : Nat → List Int → Option (Bool)
 | 0, _ => none
 | k + 1, x1 => (spec_DrawNeverWord.f x1).bind fun t521 => ((impl_NeverWord.f t521).bind fun bt522 => ((spec_NeverWord.f k t521).bind fun bt526 => (if (bt522.2 != bt526.2) = true then (laws_FnRunsToSymmetric.j8 k t521 bt522.1 bt522.2 true) else ((laws_qSame.f k bt522.1 bt526.1).bind fun t530 => (laws_FnRunsToSymmetric.j8 k t521 bt522.1 bt522.2 (!t530))))))
def laws_FnRunsToSymmetric.j8 : Nat → Int → List Int → Bool → Bool → Option (Bool)
 | 0, _, _, _, _ => none
 | k + 1, x39, x40, x41, x300 => if x300 = true then (some false) else (if x41 = true then (laws_FnRunsToSymmetric.l3 k x39 x40 0) else (some true))
def laws_FnRunsToSymmetric.l3 : Nat → Int → List Int → Int → Option (Bool)
 | 0, _, _, _ => none
 | k + 1, x39, x44, x45 => if x45 < 4 then ((impl_IsSymmetric.f k x44 2).bind fun bt536 => ((impl_AddReversed.f k x44 2).bind fun bt538 => (if bt536.2 = true then (if bt536.1 = true then (some false) else (if bt538.2 = true then (laws_FnRunsToSymmetric.l3 k x39 bt538.1 (wrap64 (x45 + 1))) else (some false))) else (some false)))) else ((impl_NeverWord.f (wrap64 (x39 + 1))).bind fun bt531 => (if bt531.2 = true then ((laws_qSame.f k x44 bt531.1).bind fun t535 => (some t535)) else (some true)))
def laws_FnRunsToSymmetric.l1 : Nat → List Int → Int → Int → Int → List Int → Int → Bool → Int → Int → Option (Bool)
 | 0, _, _, _, _, _, _, _, _, _ => none
 | k + 1, x1, x22, x23, x24, x25, x30, x31, x35, x36 => if x36 < x22 then (laws_FnRunsToSymmetric.l1 k x1 x22 x23 x24 x25 x30 x31 (wrap64 (x35 * x23)) (wrap64 (x36 + 1))) else (laws_FnRunsToSymmetric.l2 k x1 x24 x25 x30 x31 x35 (-1) 0)
def laws_FnRunsToSymmetric.l2 : Nat → List Int → Int → List Int → Int → Bool → Int → Int → Int → Option (Bool)
 | 0, _, _, _, _, _, _, _, _ => none
 | k + 1, x1, x24, x25, x30, x31, x35, x37, x38 => if x38 ≤ x24 then (if 0 ≤ x38 then (if x38 < (x25.length : Int) then (if (rd x25 x38) > 0 then (laws_FnRunsToSymmetric.l2 k x1 x24 x25 x30 x31 x35 x38 (wrap64 (x38 + 1))) else (laws_FnRunsToSymmetric.l2 k x1 x24 x25 x30 x31 x35 x37 (wrap64 (x38 + 1)))) else (none)) else (none)) else ((laws_qSum.f k x25).bind fun t520 => (if t520 = x35 then (if (x31 != (decide (x37 ≥ 0))) = true then (some false) else (if x31 = true then (if x30 = x37 then (laws_FnRunsToSymmetric.j7 k x1) else (some false)) else (laws_FnRunsToSymmetric.j7 k x1))) else (some false)))
def laws_FnRunsToSymmetric.l0 : Nat → List Int → Int → List (List Int) → Int → Bool → List (List Int) → Int → Int → Option (Bool)
 | 0, _, _, _, _, _, _, _, _ => none
 | k + 1, x1, x6, x8, x12, x13, x116, x117, x118 => if x118 < x117 then (if 0 ≤ x118 then (if x118 < (x116.length : Int) then ((impl_IsSymmetric.f k (rd_L2 x116 x118) x6).bind fun bt493 => (if bt493.2 = true then (if x13 = true then (laws_FnRunsToSymmetric.j2 k x1 x6 x8 x12 x13 x118 (rd_L2 x116 x118) x116 x117 x118 (bt493.1 != (x118 == x12))) else (laws_FnRunsToSymmetric.j2 k x1 x6 x8 x12 x13 x118 (rd_L2 x116 x118) x116 x117 x118 (bt493.1 != false))) else (laws_FnRunsToSymmetric.j2 k x1 x6 x8 x12 x13 x118 (rd_L2 x116 x118) x116 x117 x118 true))) else (none)) else (none)) else (if x13 = true then (if (x8.length : Int) = (wrap64 (x12 + 1)) then (laws_FnRunsToSymmetric.j3 k x1) else (some false)) else (laws_FnRunsToSymmetric.j3 k x1))
def laws_FnRunsToSymmetric.j2 : Nat → List Int → Int → List (List Int) → Int → Bool → Int → List Int → List (List Int) → Int → Int → Bool → Option (Bool)
 | 0, _, _, _, _, _, _, _, _, _, _, _ => none
 | k + 1, x1, x6, x8, x12, x13, x16, x17, x116, x117, x118, x140 => if x140 = true then (some false) else (if (wrap64 (x16 + 1)) < (x8.length : Int) then ((impl_AddReversed.f k x17 x6).bind fun bt495 => (if bt495.2 = true then (if 0 ≤ (wrap64 (x16 + 1)) then ((laws_qSame.f k bt495.1 (rd_L2 x8 (wrap64 (x16 + 1)))).bind fun t500 => (if t500 = true then (laws_FnRunsToSymmetric.l0 k x1 x6 x8 x12 x13 x116 x117 (wrap64 (x118 + 1))) else (some false))) else (none)) else (some false))) else (laws_FnRunsToSymmetric.l0 k x1 x6 x8 x12 x13 x116 x117 (wrap64 (x118 + 1))))
end
def laws_FnRunsToSymmetric.f (k : Nat) (l0 : List Int) (l1 : List Int) : Option (Bool) := (laws_big.f l0 l1).bind fun t473 => (if t473 = true then (some true) else ((spec_DrawAddedRun.f k l0).bind fun bt474 => ((impl_AddedRun.f k bt474.1 bt474.2.1 bt474.2.2).bind fun bt479 => ((spec_AddedRun.f k bt474.1 bt474.2.1 bt474.2.2).bind fun bt483 => ((impl_StepsToSymmetric.f k bt474.1 bt474.2.1 bt474.2.2).bind fun bt487 => ((spec_StepsToSymmetric.f k bt474.1 bt474.2.1 bt474.2.2).bind fun bt489 => (if (bt479.2 != bt483.2) = true then (laws_FnRunsToSymmetric.j0 k l1 bt474.2.1 bt479.1 bt479.2 bt487.1 bt487.2 true) else ((laws_qSameRows.f k bt479.1 bt483.1).bind fun t491 => (if t491 = true then (if (bt487.2 != bt489.2) = true then (laws_FnRunsToSymmetric.j0 k l1 bt474.2.1 bt479.1 bt479.2 bt487.1 bt487.2 true) else (if bt487.1 = bt489.1 then (if bt487.2 = true then (laws_FnRunsToSymmetric.j0 k l1 bt474.2.1 bt479.1 bt479.2 bt487.1 bt487.2 (!bt479.2)) else (laws_FnRunsToSymmetric.j0 k l1 bt474.2.1 bt479.1 bt479.2 bt487.1 bt487.2 false)) else (laws_FnRunsToSymmetric.j0 k l1 bt474.2.1 bt479.1 bt479.2 bt487.1 bt487.2 true))) else (laws_FnRunsToSymmetric.j0 k l1 bt474.2.1 bt479.1 bt479.2 bt487.1 bt487.2 true))))))))))
theorem laws_FnRunsToSymmetric.mono_l : ∀ k, (∀ y0 y1 y2 y3 y4 y5 y6, LeO (laws_FnRunsToSymmetric.j0 k y0 y1 y2 y3 y4 y5 y6) (laws_FnRunsToSymmetric.j0 (k + 1) y0 y1 y2 y3 y4 y5 y6)) ∧ (∀ y0, LeO (laws_FnRunsToSymmetric.j3 k y0) (laws_FnRunsToSymmetric.j3 (k + 1) y0)) ∧ (∀ y0 y1 y2 y3 y4 y5 y6 y7 y8, LeO (laws_FnRunsToSymmetric.j4 k y0 y1 y2 y3 y4 y5 y6 y7 y8) (laws_FnRunsToSymmetric.j4 (k + 1) y0 y1 y2 y3 y4 y5 y6 y7 y8)) ∧ (∀ y0, LeO (laws_FnRunsToSymmetric.j7 k y0) (laws_FnRunsToSymmetric.j7 (k + 1) y0)) ∧ (∀ y0 y1 y2 y3, LeO (laws_FnRunsToSymmetric.j8 k y0 y1 y2 y3) (laws_FnRunsToSymmetric.j8 (k + 1) y0 y1 y2 y3)) ∧ (∀ y0 y1 y2, LeO (laws_FnRunsToSymmetric.l3 k y0 y1 y2) (laws_FnRunsToSymmetric.l3 (k + 1) y0 y1 y2)) ∧ (∀ y0 y1 y2 y3 y4 y5 y6 y7 y8, LeO (laws_FnRunsToSymmetric.l1 k y0 y1 y2 y3 y4 y5 y6 y7 y8) (laws_FnRunsToSymmetric.l1 (k + 1) y0 y1 y2 y3 y4 y5 y6 y7 y8)) ∧ (∀ y0 y1 y2 y3 y4 y5 y6 y7, LeO (laws_FnRunsToSymmetric.l2 k y0 y1 y2 y3 y4 y5 y6 y7) (laws_FnRunsToSymmetric.l2 (k + 1) y0 y1 y2 y3 y4 y5 y6 y7)) ∧ (∀ y0 y1 y2 y3 y4 y5 y6 y7, LeO (laws_FnRunsToSymmetric.l0 k y0 y1 y2 y3 y4 y5 y6 y7) (laws_FnRunsToSymmetric.l0 (k + 1) y0 y1 y2 y3 y4 y5 y6 y7)) ∧ (∀ y0 y1 y2 y3 y4 y5 y6 y7 y8 y9 y10, LeO (laws_FnRunsToSymmetric.j2 k y0 y1 y2 y3 y4 y5 y6 y7 y8 y9 y10) (laws_FnRunsToSymmetric.j2 (k + 1) y0 y1 y2 y3 y4 y5 y6 y7 y8 y9 y10))
 | 0 => ⟨fun _ _ _ _ _ _ _ r h => by simp [laws_FnRunsToSymmetric.j0] at h, fun _ r h => by simp [laws_FnRunsToSymmetric.j3] at h, fun _ _ _ _ _ _ _ _ _ r h => by simp [laws_FnRunsToSymmetric.j4] at h, fun _ r h => by simp [laws_FnRunsToSymmetric.j7] at h, fun _ _ _ _ r h => by simp [laws_FnRunsToSymmetric.j8] at h, fun _ _ _ r h => by simp [laws_FnRunsToSymmetric.l3] at h, fun _ _ _ _ _ _ _ _ _ r h => by simp [laws_FnRunsToSymmetric.l1] at h, fun _ _ _ _ _ _ _ _ r h => by simp [laws_FnRunsToSymmetric.l2] at h, fun _ _ _ _ _ _ _ _ r h => by simp [laws_FnRunsToSymmetric.l0] at h, fun _ _ _ _ _ _ _ _ _ _ _ r h => by simp [laws_FnRunsToSymmetric.j2] at h⟩
 | k + 1 => by
  obtain ⟨ih0, ih1, ih2, ih3, ih4, ih5, ih6, ih7, ih8, ih9⟩ := laws_FnRunsToSymmetric.mono_l k
  refine ⟨?_, ?_, ?_, ?_, ?_, ?_, ?_, ?_, ?_, ?_⟩
  ·intro y0 y1 y2 y3 y4 y5 y6
   unfold laws_FnRunsToSymmetric.j0
   repeat' first
   | (with_reducible exact ih0 _ _ _ _ _ _ _)
   | (with_reducible exact ih1 _)
   | (with_reducible exact ih2 _ _ _ _ _ _ _ _ _)
   | (with_reducible exact ih3 _)
   | (with_reducible exact ih4 _ _ _ _)
   | (with_reducible exact ih5 _ _ _)
   | (with_reducible exact ih6 _ _ _ _ _ _ _ _ _)
   | (with_reducible exact ih7 _ _ _ _ _ _ _ _)
   | (with_reducible exact ih8 _ _ _ _ _ _ _ _)
   | (with_reducible exact ih9 _ _ _ _ _ _ _ _ _ _ _)
   | (with_reducible exact impl_AddReversed.mono _ _ _)
   | (with_reducible exact impl_AddedRun.mono _ _ _ _)
   | (with_reducible exact impl_IsSymmetric.mono _ _ _)
   | (with_reducible exact impl_SlowestNumber.mono _ _ _ _)
   | (with_reducible exact impl_StepsSpread.mono _ _ _ _)
   | (with_reducible exact impl_StepsToSymmetric.mono _ _ _ _)
   | (with_reducible exact laws_qSame.mono _ _ _)
   | (with_reducible exact laws_qSameRows.mono _ _ _)
   | (with_reducible exact laws_qSum.mono _ _)
   | (with_reducible exact spec_AddedRun.mono _ _ _ _)
   | (with_reducible exact spec_DrawAddedRun.mono _ _)
   | (with_reducible exact spec_DrawStepsSpread.mono _ _)
   | (with_reducible exact spec_NeverWord.mono _ _)
   | (with_reducible exact spec_SlowestNumber.mono _ _ _ _)
   | (with_reducible exact spec_StepsSpread.mono _ _ _ _)
   | (with_reducible exact spec_StepsToSymmetric.mono _ _ _ _)
   | (with_reducible exact LeO.refl _)
   | (with_reducible exact LeO.none _)
   | (with_reducible refine LeO.ite ?_ ?_)
   | (with_reducible refine LeO.bind ?_ (fun _ => ?_))
   | exact ih0 _ _ _ _ _ _ _
   | exact ih1 _
   | exact ih2 _ _ _ _ _ _ _ _ _
   | exact ih3 _
   | exact ih4 _ _ _ _
   | exact ih5 _ _ _
   | exact ih6 _ _ _ _ _ _ _ _ _
   | exact ih7 _ _ _ _ _ _ _ _
   | exact ih8 _ _ _ _ _ _ _ _
   | exact ih9 _ _ _ _ _ _ _ _ _ _ _
   | exact impl_AddReversed.mono _ _ _
   | exact impl_AddedRun.mono _ _ _ _
   | exact impl_IsSymmetric.mono _ _ _
   | exact impl_SlowestNumber.mono _ _ _ _
   | exact impl_StepsSpread.mono _ _ _ _
   | exact impl_StepsToSymmetric.mono _ _ _ _
   | exact laws_qSame.mono _ _ _
   | exact laws_qSameRows.mono _ _ _
   | exact laws_qSum.mono _ _
   | exact spec_AddedRun.mono _ _ _ _
   | exact spec_DrawAddedRun.mono _ _
   | exact spec_DrawStepsSpread.mono _ _
   | exact spec_NeverWord.mono _ _
   | exact spec_SlowestNumber.mono _ _ _ _
   | exact spec_StepsSpread.mono _ _ _ _
   | exact spec_StepsToSymmetric.mono _ _ _ _
   | exact LeO.none _
   | refine LeO.ite ?_ ?_
   | refine LeO.bind ?_ (fun _ => ?_)
  ·intro y0
   unfold laws_FnRunsToSymmetric.j3
   repeat' first
   | (with_reducible exact ih0 _ _ _ _ _ _ _)
   | (with_reducible exact ih1 _)
   | (with_reducible exact ih2 _ _ _ _ _ _ _ _ _)
   | (with_reducible exact ih3 _)
   | (with_reducible exact ih4 _ _ _ _)
   | (with_reducible exact ih5 _ _ _)
   | (with_reducible exact ih6 _ _ _ _ _ _ _ _ _)
   | (with_reducible exact ih7 _ _ _ _ _ _ _ _)
   | (with_reducible exact ih8 _ _ _ _ _ _ _ _)
   | (with_reducible exact ih9 _ _ _ _ _ _ _ _ _ _ _)
   | (with_reducible exact impl_AddReversed.mono _ _ _)
   | (with_reducible exact impl_AddedRun.mono _ _ _ _)
   | (with_reducible exact impl_IsSymmetric.mono _ _ _)
   | (with_reducible exact impl_SlowestNumber.mono _ _ _ _)
   | (with_reducible exact impl_StepsSpread.mono _ _ _ _)
   | (with_reducible exact impl_StepsToSymmetric.mono _ _ _ _)
   | (with_reducible exact laws_qSame.mono _ _ _)
   | (with_reducible exact laws_qSameRows.mono _ _ _)
   | (with_reducible exact laws_qSum.mono _ _)
   | (with_reducible exact spec_AddedRun.mono _ _ _ _)
   | (with_reducible exact spec_DrawAddedRun.mono _ _)
   | (with_reducible exact spec_DrawStepsSpread.mono _ _)
   | (with_reducible exact spec_NeverWord.mono _ _)
   | (with_reducible exact spec_SlowestNumber.mono _ _ _ _)
   | (with_reducible exact spec_StepsSpread.mono _ _ _ _)
   | (with_reducible exact spec_StepsToSymmetric.mono _ _ _ _)
   | (with_reducible exact LeO.refl _)
   | (with_reducible exact LeO.none _)
   | (with_reducible refine LeO.ite ?_ ?_)
   | (with_reducible refine LeO.bind ?_ (fun _ => ?_))
   | exact ih0 _ _ _ _ _ _ _
   | exact ih1 _
   | exact ih2 _ _ _ _ _ _ _ _ _
   | exact ih3 _
   | exact ih4 _ _ _ _
   | exact ih5 _ _ _
   | exact ih6 _ _ _ _ _ _ _ _ _
   | exact ih7 _ _ _ _ _ _ _ _
   | exact ih8 _ _ _ _ _ _ _ _
   | exact ih9 _ _ _ _ _ _ _ _ _ _ _
   | exact impl_AddReversed.mono _ _ _
   | exact impl_AddedRun.mono _ _ _ _
   | exact impl_IsSymmetric.mono _ _ _
   | exact impl_SlowestNumber.mono _ _ _ _
   | exact impl_StepsSpread.mono _ _ _ _
   | exact impl_StepsToSymmetric.mono _ _ _ _
   | exact laws_qSame.mono _ _ _
   | exact laws_qSameRows.mono _ _ _
   | exact laws_qSum.mono _ _
   | exact spec_AddedRun.mono _ _ _ _
   | exact spec_DrawAddedRun.mono _ _
   | exact spec_DrawStepsSpread.mono _ _
   | exact spec_NeverWord.mono _ _
   | exact spec_SlowestNumber.mono _ _ _ _
   | exact spec_StepsSpread.mono _ _ _ _
   | exact spec_StepsToSymmetric.mono _ _ _ _
   | exact LeO.none _
   | refine LeO.ite ?_ ?_
   | refine LeO.bind ?_ (fun _ => ?_)
  ·intro y0 y1 y2 y3 y4 y5 y6 y7 y8
   unfold laws_FnRunsToSymmetric.j4
   repeat' first
   | (with_reducible exact ih0 _ _ _ _ _ _ _)
   | (with_reducible exact ih1 _)
   | (with_reducible exact ih2 _ _ _ _ _ _ _ _ _)
   | (with_reducible exact ih3 _)
   | (with_reducible exact ih4 _ _ _ _)
   | (with_reducible exact ih5 _ _ _)
   | (with_reducible exact ih6 _ _ _ _ _ _ _ _ _)
   | (with_reducible exact ih7 _ _ _ _ _ _ _ _)
   | (with_reducible exact ih8 _ _ _ _ _ _ _ _)
   | (with_reducible exact ih9 _ _ _ _ _ _ _ _ _ _ _)
   | (with_reducible exact impl_AddReversed.mono _ _ _)
   | (with_reducible exact impl_AddedRun.mono _ _ _ _)
   | (with_reducible exact impl_IsSymmetric.mono _ _ _)
   | (with_reducible exact impl_SlowestNumber.mono _ _ _ _)
   | (with_reducible exact impl_StepsSpread.mono _ _ _ _)
   | (with_reducible exact impl_StepsToSymmetric.mono _ _ _ _)
   | (with_reducible exact laws_qSame.mono _ _ _)
   | (with_reducible exact laws_qSameRows.mono _ _ _)
   | (with_reducible exact laws_qSum.mono _ _)
   | (with_reducible exact spec_AddedRun.mono _ _ _ _)
   | (with_reducible exact spec_DrawAddedRun.mono _ _)
   | (with_reducible exact spec_DrawStepsSpread.mono _ _)
   | (with_reducible exact spec_NeverWord.mono _ _)
   | (with_reducible exact spec_SlowestNumber.mono _ _ _ _)
   | (with_reducible exact spec_StepsSpread.mono _ _ _ _)
   | (with_reducible exact spec_StepsToSymmetric.mono _ _ _ _)
   | (with_reducible exact LeO.refl _)
   | (with_reducible exact LeO.none _)
   | (with_reducible refine LeO.ite ?_ ?_)
   | (with_reducible refine LeO.bind ?_ (fun _ => ?_))
   | exact ih0 _ _ _ _ _ _ _
   | exact ih1 _
   | exact ih2 _ _ _ _ _ _ _ _ _
   | exact ih3 _
   | exact ih4 _ _ _ _
   | exact ih5 _ _ _
   | exact ih6 _ _ _ _ _ _ _ _ _
   | exact ih7 _ _ _ _ _ _ _ _
   | exact ih8 _ _ _ _ _ _ _ _
   | exact ih9 _ _ _ _ _ _ _ _ _ _ _
   | exact impl_AddReversed.mono _ _ _
   | exact impl_AddedRun.mono _ _ _ _
   | exact impl_IsSymmetric.mono _ _ _
   | exact impl_SlowestNumber.mono _ _ _ _
   | exact impl_StepsSpread.mono _ _ _ _
   | exact impl_StepsToSymmetric.mono _ _ _ _
   | exact laws_qSame.mono _ _ _
   | exact laws_qSameRows.mono _ _ _
   | exact laws_qSum.mono _ _
   | exact spec_AddedRun.mono _ _ _ _
   | exact spec_DrawAddedRun.mono _ _
   | exact spec_DrawStepsSpread.mono _ _
   | exact spec_NeverWord.mono _ _
   | exact spec_SlowestNumber.mono _ _ _ _
   | exact spec_StepsSpread.mono _ _ _ _
   | exact spec_StepsToSymmetric.mono _ _ _ _
   | exact LeO.none _
   | refine LeO.ite ?_ ?_
   | refine LeO.bind ?_ (fun _ => ?_)
  ·intro y0
   unfold laws_FnRunsToSymmetric.j7
   repeat' first
   | (with_reducible exact ih0 _ _ _ _ _ _ _)
   | (with_reducible exact ih1 _)
   | (with_reducible exact ih2 _ _ _ _ _ _ _ _ _)
   | (with_reducible exact ih3 _)
   | (with_reducible exact ih4 _ _ _ _)
   | (with_reducible exact ih5 _ _ _)
   | (with_reducible exact ih6 _ _ _ _ _ _ _ _ _)
   | (with_reducible exact ih7 _ _ _ _ _ _ _ _)
   | (with_reducible exact ih8 _ _ _ _ _ _ _ _)
   | (with_reducible exact ih9 _ _ _ _ _ _ _ _ _ _ _)
   | (with_reducible exact impl_AddReversed.mono _ _ _)
   | (with_reducible exact impl_AddedRun.mono _ _ _ _)
   | (with_reducible exact impl_IsSymmetric.mono _ _ _)
   | (with_reducible exact impl_SlowestNumber.mono _ _ _ _)
   | (with_reducible exact impl_StepsSpread.mono _ _ _ _)
   | (with_reducible exact impl_StepsToSymmetric.mono _ _ _ _)
   | (with_reducible exact laws_qSame.mono _ _ _)
   | (with_reducible exact laws_qSameRows.mono _ _ _)
   | (with_reducible exact laws_qSum.mono _ _)
   | (with_reducible exact spec_AddedRun.mono _ _ _ _)
   | (with_reducible exact spec_DrawAddedRun.mono _ _)
   | (with_reducible exact spec_DrawStepsSpread.mono _ _)
   | (with_reducible exact spec_NeverWord.mono _ _)
   | (with_reducible exact spec_SlowestNumber.mono _ _ _ _)
   | (with_reducible exact spec_StepsSpread.mono _ _ _ _)
   | (with_reducible exact spec_StepsToSymmetric.mono _ _ _ _)
   | (with_reducible exact LeO.refl _)
   | (with_reducible exact LeO.none _)
   | (with_reducible refine LeO.ite ?_ ?_)
   | (with_reducible refine LeO.bind ?_ (fun _ => ?_))
   | exact ih0 _ _ _ _ _ _ _
   | exact ih1 _
   | exact ih2 _ _ _ _ _ _ _ _ _
   | exact ih3 _
   | exact ih4 _ _ _ _
   | exact ih5 _ _ _
   | exact ih6 _ _ _ _ _ _ _ _ _
   | exact ih7 _ _ _ _ _ _ _ _
   | exact ih8 _ _ _ _ _ _ _ _
   | exact ih9 _ _ _ _ _ _ _ _ _ _ _
   | exact impl_AddReversed.mono _ _ _
   | exact impl_AddedRun.mono _ _ _ _
   | exact impl_IsSymmetric.mono _ _ _
   | exact impl_SlowestNumber.mono _ _ _ _
   | exact impl_StepsSpread.mono _ _ _ _
   | exact impl_StepsToSymmetric.mono _ _ _ _
   | exact laws_qSame.mono _ _ _
   | exact laws_qSameRows.mono _ _ _
   | exact laws_qSum.mono _ _
   | exact spec_AddedRun.mono _ _ _ _
   | exact spec_DrawAddedRun.mono _ _
   | exact spec_DrawStepsSpread.mono _ _
   | exact spec_NeverWord.mono _ _
   | exact spec_SlowestNumber.mono _ _ _ _
   | exact spec_StepsSpread.mono _ _ _ _
   | exact spec_StepsToSymmetric.mono _ _ _ _
   | exact LeO.none _
   | refine LeO.ite ?_ ?_
   | refine LeO.bind ?_ (fun _ => ?_)
  ·intro y0 y1 y2 y3
   unfold laws_FnRunsToSymmetric.j8
   repeat' first
   | (with_reducible exact ih0 _ _ _ _ _ _ _)
   | (with_reducible exact ih1 _)
   | (with_reducible exact ih2 _ _ _ _ _ _ _ _ _)
   | (with_reducible exact ih3 _)
   | (with_reducible exact ih4 _ _ _ _)
   | (with_reducible exact ih5 _ _ _)
   | (with_reducible exact ih6 _ _ _ _ _ _ _ _ _)
   | (with_reducible exact ih7 _ _ _ _ _ _ _ _)
   | (with_reducible exact ih8 _ _ _ _ _ _ _ _)
   | (with_reducible exact ih9 _ _ _ _ _ _ _ _ _ _ _)
   | (with_reducible exact impl_AddReversed.mono _ _ _)
   | (with_reducible exact impl_AddedRun.mono _ _ _ _)
   | (with_reducible exact impl_IsSymmetric.mono _ _ _)
   | (with_reducible exact impl_SlowestNumber.mono _ _ _ _)
   | (with_reducible exact impl_StepsSpread.mono _ _ _ _)
   | (with_reducible exact impl_StepsToSymmetric.mono _ _ _ _)
   | (with_reducible exact laws_qSame.mono _ _ _)
   | (with_reducible exact laws_qSameRows.mono _ _ _)
   | (with_reducible exact laws_qSum.mono _ _)
   | (with_reducible exact spec_AddedRun.mono _ _ _ _)
   | (with_reducible exact spec_DrawAddedRun.mono _ _)
   | (with_reducible exact spec_DrawStepsSpread.mono _ _)
   | (with_reducible exact spec_NeverWord.mono _ _)
   | (with_reducible exact spec_SlowestNumber.mono _ _ _ _)
   | (with_reducible exact spec_StepsSpread.mono _ _ _ _)
   | (with_reducible exact spec_StepsToSymmetric.mono _ _ _ _)
   | (with_reducible exact LeO.refl _)
   | (with_reducible exact LeO.none _)
   | (with_reducible refine LeO.ite ?_ ?_)
   | (with_reducible refine LeO.bind ?_ (fun _ => ?_))
   | exact ih0 _ _ _ _ _ _ _
   | exact ih1 _
   | exact ih2 _ _ _ _ _ _ _ _ _
   | exact ih3 _
   | exact ih4 _ _ _ _
   | exact ih5 _ _ _
   | exact ih6 _ _ _ _ _ _ _ _ _
   | exact ih7 _ _ _ _ _ _ _ _
   | exact ih8 _ _ _ _ _ _ _ _
   | exact ih9 _ _ _ _ _ _ _ _ _ _ _
   | exact impl_AddReversed.mono _ _ _
   | exact impl_AddedRun.mono _ _ _ _
   | exact impl_IsSymmetric.mono _ _ _
   | exact impl_SlowestNumber.mono _ _ _ _
   | exact impl_StepsSpread.mono _ _ _ _
   | exact impl_StepsToSymmetric.mono _ _ _ _
   | exact laws_qSame.mono _ _ _
   | exact laws_qSameRows.mono _ _ _
   | exact laws_qSum.mono _ _
   | exact spec_AddedRun.mono _ _ _ _
   | exact spec_DrawAddedRun.mono _ _
   | exact spec_DrawStepsSpread.mono _ _
   | exact spec_NeverWord.mono _ _
   | exact spec_SlowestNumber.mono _ _ _ _
   | exact spec_StepsSpread.mono _ _ _ _
   | exact spec_StepsToSymmetric.mono _ _ _ _
   | exact LeO.none _
   | refine LeO.ite ?_ ?_
   | refine LeO.bind ?_ (fun _ => ?_)
  ·intro y0 y1 y2
   unfold laws_FnRunsToSymmetric.l3
   repeat' first
   | (with_reducible exact ih0 _ _ _ _ _ _ _)
   | (with_reducible exact ih1 _)
   | (with_reducible exact ih2 _ _ _ _ _ _ _ _ _)
   | (with_reducible exact ih3 _)
   | (with_reducible exact ih4 _ _ _ _)
   | (with_reducible exact ih5 _ _ _)
   | (with_reducible exact ih6 _ _ _ _ _ _ _ _ _)
   | (with_reducible exact ih7 _ _ _ _ _ _ _ _)
   | (with_reducible exact ih8 _ _ _ _ _ _ _ _)
   | (with_reducible exact ih9 _ _ _ _ _ _ _ _ _ _ _)
   | (with_reducible exact impl_AddReversed.mono _ _ _)
   | (with_reducible exact impl_AddedRun.mono _ _ _ _)
   | (with_reducible exact impl_IsSymmetric.mono _ _ _)
   | (with_reducible exact impl_SlowestNumber.mono _ _ _ _)
   | (with_reducible exact impl_StepsSpread.mono _ _ _ _)
   | (with_reducible exact impl_StepsToSymmetric.mono _ _ _ _)
   | (with_reducible exact laws_qSame.mono _ _ _)
   | (with_reducible exact laws_qSameRows.mono _ _ _)
   | (with_reducible exact laws_qSum.mono _ _)
   | (with_reducible exact spec_AddedRun.mono _ _ _ _)
   | (with_reducible exact spec_DrawAddedRun.mono _ _)
   | (with_reducible exact spec_DrawStepsSpread.mono _ _)
   | (with_reducible exact spec_NeverWord.mono _ _)
   | (with_reducible exact spec_SlowestNumber.mono _ _ _ _)
   | (with_reducible exact spec_StepsSpread.mono _ _ _ _)
   | (with_reducible exact spec_StepsToSymmetric.mono _ _ _ _)
   | (with_reducible exact LeO.refl _)
   | (with_reducible exact LeO.none _)
   | (with_reducible refine LeO.ite ?_ ?_)
   | (with_reducible refine LeO.bind ?_ (fun _ => ?_))
   | exact ih0 _ _ _ _ _ _ _
   | exact ih1 _
   | exact ih2 _ _ _ _ _ _ _ _ _
   | exact ih3 _
   | exact ih4 _ _ _ _
   | exact ih5 _ _ _
   | exact ih6 _ _ _ _ _ _ _ _ _
   | exact ih7 _ _ _ _ _ _ _ _
   | exact ih8 _ _ _ _ _ _ _ _
   | exact ih9 _ _ _ _ _ _ _ _ _ _ _
   | exact impl_AddReversed.mono _ _ _
   | exact impl_AddedRun.mono _ _ _ _
   | exact impl_IsSymmetric.mono _ _ _
   | exact impl_SlowestNumber.mono _ _ _ _
   | exact impl_StepsSpread.mono _ _ _ _
   | exact impl_StepsToSymmetric.mono _ _ _ _
   | exact laws_qSame.mono _ _ _
   | exact laws_qSameRows.mono _ _ _
   | exact laws_qSum.mono _ _
   | exact spec_AddedRun.mono _ _ _ _
   | exact spec_DrawAddedRun.mono _ _
   | exact spec_DrawStepsSpread.mono _ _
   | exact spec_NeverWord.mono _ _
   | exact spec_SlowestNumber.mono _ _ _ _
   | exact spec_StepsSpread.mono _ _ _ _
   | exact spec_StepsToSymmetric.mono _ _ _ _
   | exact LeO.none _
   | refine LeO.ite ?_ ?_
   | refine LeO.bind ?_ (fun _ => ?_)
  ·intro y0 y1 y2 y3 y4 y5 y6 y7 y8
   unfold laws_FnRunsToSymmetric.l1
   repeat' first
   | (with_reducible exact ih0 _ _ _ _ _ _ _)
   | (with_reducible exact ih1 _)
   | (with_reducible exact ih2 _ _ _ _ _ _ _ _ _)
   | (with_reducible exact ih3 _)
   | (with_reducible exact ih4 _ _ _ _)
   | (with_reducible exact ih5 _ _ _)
   | (with_reducible exact ih6 _ _ _ _ _ _ _ _ _)
   | (with_reducible exact ih7 _ _ _ _ _ _ _ _)
   | (with_reducible exact ih8 _ _ _ _ _ _ _ _)
   | (with_reducible exact ih9 _ _ _ _ _ _ _ _ _ _ _)
   | (with_reducible exact impl_AddReversed.mono _ _ _)
   | (with_reducible exact impl_AddedRun.mono _ _ _ _)
   | (with_reducible exact impl_IsSymmetric.mono _ _ _)
   | (with_reducible exact impl_SlowestNumber.mono _ _ _ _)
   | (with_reducible exact impl_StepsSpread.mono _ _ _ _)
   | (with_reducible exact impl_StepsToSymmetric.mono _ _ _ _)
   | (with_reducible exact laws_qSame.mono _ _ _)
   | (with_reducible exact laws_qSameRows.mono _ _ _)
   | (with_reducible exact laws_qSum.mono _ _)
   | (with_reducible exact spec_AddedRun.mono _ _ _ _)
   | (with_reducible exact spec_DrawAddedRun.mono _ _)
   | (with_reducible exact spec_DrawStepsSpread.mono _ _)
   | (with_reducible exact spec_NeverWord.mono _ _)
   | (with_reducible exact spec_SlowestNumber.mono _ _ _ _)
   | (with_reducible exact spec_StepsSpread.mono _ _ _ _)
   | (with_reducible exact spec_StepsToSymmetric.mono _ _ _ _)
   | (with_reducible exact LeO.refl _)
   | (with_reducible exact LeO.none _)
   | (with_reducible refine LeO.ite ?_ ?_)
   | (with_reducible refine LeO.bind ?_ (fun _ => ?_))
   | exact ih0 _ _ _ _ _ _ _
   | exact ih1 _
   | exact ih2 _ _ _ _ _ _ _ _ _
   | exact ih3 _
   | exact ih4 _ _ _ _
   | exact ih5 _ _ _
   | exact ih6 _ _ _ _ _ _ _ _ _
   | exact ih7 _ _ _ _ _ _ _ _
   | exact ih8 _ _ _ _ _ _ _ _
   | exact ih9 _ _ _ _ _ _ _ _ _ _ _
   | exact impl_AddReversed.mono _ _ _
   | exact impl_AddedRun.mono _ _ _ _
   | exact impl_IsSymmetric.mono _ _ _
   | exact impl_SlowestNumber.mono _ _ _ _
   | exact impl_StepsSpread.mono _ _ _ _
   | exact impl_StepsToSymmetric.mono _ _ _ _
   | exact laws_qSame.mono _ _ _
   | exact laws_qSameRows.mono _ _ _
   | exact laws_qSum.mono _ _
   | exact spec_AddedRun.mono _ _ _ _
   | exact spec_DrawAddedRun.mono _ _
   | exact spec_DrawStepsSpread.mono _ _
   | exact spec_NeverWord.mono _ _
   | exact spec_SlowestNumber.mono _ _ _ _
   | exact spec_StepsSpread.mono _ _ _ _
   | exact spec_StepsToSymmetric.mono _ _ _ _
   | exact LeO.none _
   | refine LeO.ite ?_ ?_
   | refine LeO.bind ?_ (fun _ => ?_)
  ·intro y0 y1 y2 y3 y4 y5 y6 y7
   unfold laws_FnRunsToSymmetric.l2
   repeat' first
   | (with_reducible exact ih0 _ _ _ _ _ _ _)
   | (with_reducible exact ih1 _)
   | (with_reducible exact ih2 _ _ _ _ _ _ _ _ _)
   | (with_reducible exact ih3 _)
   | (with_reducible exact ih4 _ _ _ _)
   | (with_reducible exact ih5 _ _ _)
   | (with_reducible exact ih6 _ _ _ _ _ _ _ _ _)
   | (with_reducible exact ih7 _ _ _ _ _ _ _ _)
   | (with_reducible exact ih8 _ _ _ _ _ _ _ _)
   | (with_reducible exact ih9 _ _ _ _ _ _ _ _ _ _ _)
   | (with_reducible exact impl_AddReversed.mono _ _ _)
   | (with_reducible exact impl_AddedRun.mono _ _ _ _)
   | (with_reducible exact impl_IsSymmetric.mono _ _ _)
   | (with_reducible exact impl_SlowestNumber.mono _ _ _ _)
   | (with_reducible exact impl_StepsSpread.mono _ _ _ _)
   | (with_reducible exact impl_StepsToSymmetric.mono _ _ _ _)
   | (with_reducible exact laws_qSame.mono _ _ _)
   | (with_reducible exact laws_qSameRows.mono _ _ _)
   | (with_reducible exact laws_qSum.mono _ _)
   | (with_reducible exact spec_AddedRun.mono _ _ _ _)
   | (with_reducible exact spec_DrawAddedRun.mono _ _)
   | (with_reducible exact spec_DrawStepsSpread.mono _ _)
   | (with_reducible exact spec_NeverWord.mono _ _)
   | (with_reducible exact spec_SlowestNumber.mono _ _ _ _)
   | (with_reducible exact spec_StepsSpread.mono _ _ _ _)
   | (with_reducible exact spec_StepsToSymmetric.mono _ _ _ _)
   | (with_reducible exact LeO.refl _)
   | (with_reducible exact LeO.none _)
   | (with_reducible refine LeO.ite ?_ ?_)
   | (with_reducible refine LeO.bind ?_ (fun _ => ?_))
   | exact ih0 _ _ _ _ _ _ _
   | exact ih1 _
   | exact ih2 _ _ _ _ _ _ _ _ _
   | exact ih3 _
   | exact ih4 _ _ _ _
   | exact ih5 _ _ _
   | exact ih6 _ _ _ _ _ _ _ _ _
   | exact ih7 _ _ _ _ _ _ _ _
   | exact ih8 _ _ _ _ _ _ _ _
   | exact ih9 _ _ _ _ _ _ _ _ _ _ _
   | exact impl_AddReversed.mono _ _ _
   | exact impl_AddedRun.mono _ _ _ _
   | exact impl_IsSymmetric.mono _ _ _
   | exact impl_SlowestNumber.mono _ _ _ _
   | exact impl_StepsSpread.mono _ _ _ _
   | exact impl_StepsToSymmetric.mono _ _ _ _
   | exact laws_qSame.mono _ _ _
   | exact laws_qSameRows.mono _ _ _
   | exact laws_qSum.mono _ _
   | exact spec_AddedRun.mono _ _ _ _
   | exact spec_DrawAddedRun.mono _ _
   | exact spec_DrawStepsSpread.mono _ _
   | exact spec_NeverWord.mono _ _
   | exact spec_SlowestNumber.mono _ _ _ _
   | exact spec_StepsSpread.mono _ _ _ _
   | exact spec_StepsToSymmetric.mono _ _ _ _
   | exact LeO.none _
   | refine LeO.ite ?_ ?_
   | refine LeO.bind ?_ (fun _ => ?_)
  ·intro y0 y1 y2 y3 y4 y5 y6 y7
   unfold laws_FnRunsToSymmetric.l0
   repeat' first
   | (with_reducible exact ih0 _ _ _ _ _ _ _)
   | (with_reducible exact ih1 _)
   | (with_reducible exact ih2 _ _ _ _ _ _ _ _ _)
   | (with_reducible exact ih3 _)
   | (with_reducible exact ih4 _ _ _ _)
   | (with_reducible exact ih5 _ _ _)
   | (with_reducible exact ih6 _ _ _ _ _ _ _ _ _)
   | (with_reducible exact ih7 _ _ _ _ _ _ _ _)
   | (with_reducible exact ih8 _ _ _ _ _ _ _ _)
   | (with_reducible exact ih9 _ _ _ _ _ _ _ _ _ _ _)
   | (with_reducible exact impl_AddReversed.mono _ _ _)
   | (with_reducible exact impl_AddedRun.mono _ _ _ _)
   | (with_reducible exact impl_IsSymmetric.mono _ _ _)
   | (with_reducible exact impl_SlowestNumber.mono _ _ _ _)
   | (with_reducible exact impl_StepsSpread.mono _ _ _ _)
   | (with_reducible exact impl_StepsToSymmetric.mono _ _ _ _)
   | (with_reducible exact laws_qSame.mono _ _ _)
   | (with_reducible exact laws_qSameRows.mono _ _ _)
   | (with_reducible exact laws_qSum.mono _ _)
   | (with_reducible exact spec_AddedRun.mono _ _ _ _)
   | (with_reducible exact spec_DrawAddedRun.mono _ _)
   | (with_reducible exact spec_DrawStepsSpread.mono _ _)
   | (with_reducible exact spec_NeverWord.mono _ _)
   | (with_reducible exact spec_SlowestNumber.mono _ _ _ _)
   | (with_reducible exact spec_StepsSpread.mono _ _ _ _)
   | (with_reducible exact spec_StepsToSymmetric.mono _ _ _ _)
   | (with_reducible exact LeO.refl _)
   | (with_reducible exact LeO.none _)
   | (with_reducible refine LeO.ite ?_ ?_)
   | (with_reducible refine LeO.bind ?_ (fun _ => ?_))
   | exact ih0 _ _ _ _ _ _ _
   | exact ih1 _
   | exact ih2 _ _ _ _ _ _ _ _ _
   | exact ih3 _
   | exact ih4 _ _ _ _
   | exact ih5 _ _ _
   | exact ih6 _ _ _ _ _ _ _ _ _
   | exact ih7 _ _ _ _ _ _ _ _
   | exact ih8 _ _ _ _ _ _ _ _
   | exact ih9 _ _ _ _ _ _ _ _ _ _ _
   | exact impl_AddReversed.mono _ _ _
   | exact impl_AddedRun.mono _ _ _ _
   | exact impl_IsSymmetric.mono _ _ _
   | exact impl_SlowestNumber.mono _ _ _ _
   | exact impl_StepsSpread.mono _ _ _ _
   | exact impl_StepsToSymmetric.mono _ _ _ _
   | exact laws_qSame.mono _ _ _
   | exact laws_qSameRows.mono _ _ _
   | exact laws_qSum.mono _ _
   | exact spec_AddedRun.mono _ _ _ _
   | exact spec_DrawAddedRun.mono _ _
   | exact spec_DrawStepsSpread.mono _ _
   | exact spec_NeverWord.mono _ _
   | exact spec_SlowestNumber.mono _ _ _ _
   | exact spec_StepsSpread.mono _ _ _ _
   | exact spec_StepsToSymmetric.mono _ _ _ _
   | exact LeO.none _
   | refine LeO.ite ?_ ?_
   | refine LeO.bind ?_ (fun _ => ?_)
  ·intro y0 y1 y2 y3 y4 y5 y6 y7 y8 y9 y10
   unfold laws_FnRunsToSymmetric.j2
   repeat' first
   | (with_reducible exact ih0 _ _ _ _ _ _ _)
   | (with_reducible exact ih1 _)
   | (with_reducible exact ih2 _ _ _ _ _ _ _ _ _)
   | (with_reducible exact ih3 _)
   | (with_reducible exact ih4 _ _ _ _)
   | (with_reducible exact ih5 _ _ _)
   | (with_reducible exact ih6 _ _ _ _ _ _ _ _ _)
   | (with_reducible exact ih7 _ _ _ _ _ _ _ _)
   | (with_reducible exact ih8 _ _ _ _ _ _ _ _)
   | (with_reducible exact ih9 _ _ _ _ _ _ _ _ _ _ _)
   | (with_reducible exact impl_AddReversed.mono _ _ _)
   | (with_reducible exact impl_AddedRun.mono _ _ _ _)
   | (with_reducible exact impl_IsSymmetric.mono _ _ _)
   | (with_reducible exact impl_SlowestNumber.mono _ _ _ _)
   | (with_reducible exact impl_StepsSpread.mono _ _ _ _)
   | (with_reducible exact impl_StepsToSymmetric.mono _ _ _ _)
   | (with_reducible exact laws_qSame.mono _ _ _)
   | (with_reducible exact laws_qSameRows.mono _ _ _)
   | (with_reducible exact laws_qSum.mono _ _)
   | (with_reducible exact spec_AddedRun.mono _ _ _ _)
   | (with_reducible exact spec_DrawAddedRun.mono _ _)
   | (with_reducible exact spec_DrawStepsSpread.mono _ _)
   | (with_reducible exact spec_NeverWord.mono _ _)
   | (with_reducible exact spec_SlowestNumber.mono _ _ _ _)
   | (with_reducible exact spec_StepsSpread.mono _ _ _ _)
   | (with_reducible exact spec_StepsToSymmetric.mono _ _ _ _)
   | (with_reducible exact LeO.refl _)
   | (with_reducible exact LeO.none _)
   | (with_reducible refine LeO.ite ?_ ?_)
   | (with_reducible refine LeO.bind ?_ (fun _ => ?_))
   | exact ih0 _ _ _ _ _ _ _
   | exact ih1 _
   | exact ih2 _ _ _ _ _ _ _ _ _
   | exact ih3 _
   | exact ih4 _ _ _ _
   | exact ih5 _ _ _
   | exact ih6 _ _ _ _ _ _ _ _ _
   | exact ih7 _ _ _ _ _ _ _ _
   | exact ih8 _ _ _ _ _ _ _ _
   | exact ih9 _ _ _ _ _ _ _ _ _ _ _
   | exact impl_AddReversed.mono _ _ _
   | exact impl_AddedRun.mono _ _ _ _
   | exact impl_IsSymmetric.mono _ _ _
   | exact impl_SlowestNumber.mono _ _ _ _
   | exact impl_StepsSpread.mono _ _ _ _
   | exact impl_StepsToSymmetric.mono _ _ _ _
   | exact laws_qSame.mono _ _ _
   | exact laws_qSameRows.mono _ _ _
   | exact laws_qSum.mono _ _
   | exact spec_AddedRun.mono _ _ _ _
   | exact spec_DrawAddedRun.mono _ _
   | exact spec_DrawStepsSpread.mono _ _
   | exact spec_NeverWord.mono _ _
   | exact spec_SlowestNumber.mono _ _ _ _
   | exact spec_StepsSpread.mono _ _ _ _
   | exact spec_StepsToSymmetric.mono _ _ _ _
   | exact LeO.none _
   | refine LeO.ite ?_ ?_
   | refine LeO.bind ?_ (fun _ => ?_)
theorem laws_FnRunsToSymmetric.mono : ∀ a0 a1 k, LeO (laws_FnRunsToSymmetric.f k a0 a1) (laws_FnRunsToSymmetric.f (k + 1) a0 a1) := by
 intro a0 a1 k
 obtain ⟨ih0, ih1, ih2, ih3, ih4, ih5, ih6, ih7, ih8, ih9⟩ := laws_FnRunsToSymmetric.mono_l k
 unfold laws_FnRunsToSymmetric.f
 repeat' first
   | (with_reducible exact ih0 _ _ _ _ _ _ _)
   | (with_reducible exact ih1 _)
   | (with_reducible exact ih2 _ _ _ _ _ _ _ _ _)
   | (with_reducible exact ih3 _)
   | (with_reducible exact ih4 _ _ _ _)
   | (with_reducible exact ih5 _ _ _)
   | (with_reducible exact ih6 _ _ _ _ _ _ _ _ _)
   | (with_reducible exact ih7 _ _ _ _ _ _ _ _)
   | (with_reducible exact ih8 _ _ _ _ _ _ _ _)
   | (with_reducible exact ih9 _ _ _ _ _ _ _ _ _ _ _)
   | (with_reducible exact impl_AddReversed.mono _ _ _)
   | (with_reducible exact impl_AddedRun.mono _ _ _ _)
   | (with_reducible exact impl_IsSymmetric.mono _ _ _)
   | (with_reducible exact impl_SlowestNumber.mono _ _ _ _)
   | (with_reducible exact impl_StepsSpread.mono _ _ _ _)
   | (with_reducible exact impl_StepsToSymmetric.mono _ _ _ _)
   | (with_reducible exact laws_qSame.mono _ _ _)
   | (with_reducible exact laws_qSameRows.mono _ _ _)
   | (with_reducible exact laws_qSum.mono _ _)
   | (with_reducible exact spec_AddedRun.mono _ _ _ _)
   | (with_reducible exact spec_DrawAddedRun.mono _ _)
   | (with_reducible exact spec_DrawStepsSpread.mono _ _)
   | (with_reducible exact spec_NeverWord.mono _ _)
   | (with_reducible exact spec_SlowestNumber.mono _ _ _ _)
   | (with_reducible exact spec_StepsSpread.mono _ _ _ _)
   | (with_reducible exact spec_StepsToSymmetric.mono _ _ _ _)
   | (with_reducible exact LeO.refl _)
   | (with_reducible exact LeO.none _)
   | (with_reducible refine LeO.ite ?_ ?_)
   | (with_reducible refine LeO.bind ?_ (fun _ => ?_))
   | exact ih0 _ _ _ _ _ _ _
   | exact ih1 _
   | exact ih2 _ _ _ _ _ _ _ _ _
   | exact ih3 _
   | exact ih4 _ _ _ _
   | exact ih5 _ _ _
   | exact ih6 _ _ _ _ _ _ _ _ _
   | exact ih7 _ _ _ _ _ _ _ _
   | exact ih8 _ _ _ _ _ _ _ _
   | exact ih9 _ _ _ _ _ _ _ _ _ _ _
   | exact impl_AddReversed.mono _ _ _
   | exact impl_AddedRun.mono _ _ _ _
   | exact impl_IsSymmetric.mono _ _ _
   | exact impl_SlowestNumber.mono _ _ _ _
   | exact impl_StepsSpread.mono _ _ _ _
   | exact impl_StepsToSymmetric.mono _ _ _ _
   | exact laws_qSame.mono _ _ _
   | exact laws_qSameRows.mono _ _ _
   | exact laws_qSum.mono _ _
   | exact spec_AddedRun.mono _ _ _ _
   | exact spec_DrawAddedRun.mono _ _
   | exact spec_DrawStepsSpread.mono _ _
   | exact spec_NeverWord.mono _ _
   | exact spec_SlowestNumber.mono _ _ _ _
   | exact spec_StepsSpread.mono _ _ _ _
   | exact spec_StepsToSymmetric.mono _ _ _ _
   | exact LeO.none _
   | refine LeO.ite ?_ ?_
   | refine LeO.bind ?_ (fun _ => ?_)
theorem laws_FnRunsToSymmetric.j0_no {r : Bool} (hr : r = true) (k : Nat) (x1 : List Int) (x6 : Int) (x8 : List (List Int)) (x9 : Bool) (x12 : Int) (x13 : Bool) (h : laws_FnRunsToSymmetric.j0 k x1 x6 x8 x9 x12 x13 true = some r) : False := by
 subst hr
 cases k with
 | zero => simp [laws_FnRunsToSymmetric.j0] at h
 | succ k => simp [laws_FnRunsToSymmetric.j0] at h
theorem laws_FnRunsToSymmetric.j4_no {r : Bool} (hr : r = true) (k : Nat) (x1 : List Int) (x22 : Int) (x23 : Int) (x24 : Int) (x25 : List Int) (x26 : Bool) (x30 : Int) (x31 : Bool) (h : laws_FnRunsToSymmetric.j4 k x1 x22 x23 x24 x25 x26 x30 x31 true = some r) : False := by
 subst hr
 cases k with
 | zero => simp [laws_FnRunsToSymmetric.j4] at h
 | succ k => simp [laws_FnRunsToSymmetric.j4] at h
theorem laws_FnRunsToSymmetric.j8_no {r : Bool} (hr : r = true) (k : Nat) (x39 : Int) (x40 : List Int) (x41 : Bool) (h : laws_FnRunsToSymmetric.j8 k x39 x40 x41 true = some r) : False := by
 subst hr
 cases k with
 | zero => simp [laws_FnRunsToSymmetric.j8] at h
 | succ k => simp [laws_FnRunsToSymmetric.j8] at h
theorem laws_FnRunsToSymmetric.j2_no {r : Bool} (hr : r = true) (k : Nat) (x1 : List Int) (x6 : Int) (x8 : List (List Int)) (x12 : Int) (x13 : Bool) (x16 : Int) (x17 : List Int) (x116 : List (List Int)) (x117 : Int) (x118 : Int) (h : laws_FnRunsToSymmetric.j2 k x1 x6 x8 x12 x13 x16 x17 x116 x117 x118 true = some r) : False := by
 subst hr
 cases k with
 | zero => simp [laws_FnRunsToSymmetric.j2] at h
 | succ k => simp [laws_FnRunsToSymmetric.j2] at h
set_option maxHeartbeats 8000000 in
set_option maxRecDepth 100000 in
theorem laws_FnRunsToSymmetric.calls (k : Nat) (A0 : Option Addr) (c0 : Nat) (l0 : List Int) (A1 : Option Addr) (c1 : Nat) (l1 : List Int) (r : Bool) (w : World) (hr0 : Kd.C (Kd.int .u8) w A0 l0.length l0) (hc0 : l0.length ≤ c0) (hr1 : Kd.C (Kd.int .u8) w A1 l1.length l1) (hc1 : l1.length ≤ c1) (h : laws_FnRunsToSymmetric.f k l0 l1 = some r) (hr_ : r = true) :
  Calls Try.prog 9 #[.slice A0 l0.length c0, .slice A1 l1.length c1] w fun e w' => e = .returned (.bool r) ∧ Below w.heap.size w w' := by
 have HR0 := Aside0.mk hr0
 have HC0 := Aside0.mk hc0
 clear hr0 hc0
 have HR1 := Aside0.mk hr1
 have HC1 := Aside0.mk hc1
 clear hr1 hc1
 have HB := Aside0.mk (Below.refl w.heap.size w)
 have H : ((laws_big.f l0 l1).bind fun t473 => (if t473 = true then (some true) else ((spec_DrawAddedRun.f k l0).bind fun bt474 => ((impl_AddedRun.f k bt474.1 bt474.2.1 bt474.2.2).bind fun bt479 => ((spec_AddedRun.f k bt474.1 bt474.2.1 bt474.2.2).bind fun bt483 => ((impl_StepsToSymmetric.f k bt474.1 bt474.2.1 bt474.2.2).bind fun bt487 => ((spec_StepsToSymmetric.f k bt474.1 bt474.2.1 bt474.2.2).bind fun bt489 => (if (bt479.2 != bt483.2) = true then (laws_FnRunsToSymmetric.j0 k l1 bt474.2.1 bt479.1 bt479.2 bt487.1 bt487.2 true) else ((laws_qSameRows.f k bt479.1 bt483.1).bind fun t491 => (if t491 = true then (if (bt487.2 != bt489.2) = true then (laws_FnRunsToSymmetric.j0 k l1 bt474.2.1 bt479.1 bt479.2 bt487.1 bt487.2 true) else (if bt487.1 = bt489.1 then (if bt487.2 = true then (laws_FnRunsToSymmetric.j0 k l1 bt474.2.1 bt479.1 bt479.2 bt487.1 bt487.2 (!bt479.2)) else (laws_FnRunsToSymmetric.j0 k l1 bt474.2.1 bt479.1 bt479.2 bt487.1 bt487.2 false)) else (laws_FnRunsToSymmetric.j0 k l1 bt474.2.1 bt479.1 bt479.2 bt487.1 bt487.2 true))) else (laws_FnRunsToSymmetric.j0 k l1 bt474.2.1 bt479.1 bt479.2 bt487.1 bt487.2 true))))))))))) = some r := h
 clear h
 have HR_ := Aside0.mk hr_
 clear hr_
 replace H := Option.bind_eq_some_iff.mp H
 obtain ⟨t473, A30, H⟩ := H
 replace H : (if t473 = true then (some true) else ((spec_DrawAddedRun.f k l0).bind fun bt474 => ((impl_AddedRun.f k bt474.1 bt474.2.1 bt474.2.2).bind fun bt479 => ((spec_AddedRun.f k bt474.1 bt474.2.1 bt474.2.2).bind fun bt483 => ((impl_StepsToSymmetric.f k bt474.1 bt474.2.1 bt474.2.2).bind fun bt487 => ((spec_StepsToSymmetric.f k bt474.1 bt474.2.1 bt474.2.2).bind fun bt489 => (if (bt479.2 != bt483.2) = true then (laws_FnRunsToSymmetric.j0 k l1 bt474.2.1 bt479.1 bt479.2 bt487.1 bt487.2 true) else ((laws_qSameRows.f k bt479.1 bt483.1).bind fun t491 => (if t491 = true then (if (bt487.2 != bt489.2) = true then (laws_FnRunsToSymmetric.j0 k l1 bt474.2.1 bt479.1 bt479.2 bt487.1 bt487.2 true) else (if bt487.1 = bt489.1 then (if bt487.2 = true then (laws_FnRunsToSymmetric.j0 k l1 bt474.2.1 bt479.1 bt479.2 bt487.1 bt487.2 (!bt479.2)) else (laws_FnRunsToSymmetric.j0 k l1 bt474.2.1 bt479.1 bt479.2 bt487.1 bt487.2 false)) else (laws_FnRunsToSymmetric.j0 k l1 bt474.2.1 bt479.1 bt479.2 bt487.1 bt487.2 true))) else (laws_FnRunsToSymmetric.j0 k l1 bt474.2.1 bt479.1 bt479.2 bt487.1 bt487.2 true)))))))))) = some r := H
 have A3 := Aside0.mk A30
 clear A30
 by_cases c4 : t473 = true
 ·subst c4
  have H1 : (some true) = some r := by rw [if_pos rfl] at H; exact H
  clear H
  have H := H1
  clear H1
  as_aux_lemma =>
   obtain rfl := Option.some.inj H
   go_enter Try.func9, Try.ntmps9
   go_wp2_with (first | ((with_reducible refine gate_callee (f := 15) rfl ?_); refine goesL_ (some 54) rfl rfl Try.func15 (by kernel_rfl) rfl #[.slice A0 l0.length c0, .slice A1 l1.length c1] rfl (by (try simp only [List.map_toArray, List.map_cons, List.map_nil]); first | done | rfl | (simp only [List.length_drop, List.length_take]; rfl)) ?_; (with_reducible refine (laws_big.calls _ _ l0 _ _ l1 true _ ?side1 ?side2 ?side3 ?side4 A3.out).mono ?_); (case side1 => repeat (first | exact HR0.out | (with_reducible refine Kd.C_alloc ?_ _) | (with_reducible refine Kd.C_drewN ?_ _) | (with_reducible refine Kd.C_drew ?_))); (case side2 => exact HC0.out); (case side3 => repeat (first | exact HR1.out | (with_reducible refine Kd.C_alloc ?_ _) | (with_reducible refine Kd.C_drewN ?_ _) | (with_reducible refine Kd.C_drew ?_))); (case side4 => exact HC1.out); rintro e w' ⟨rfl, ⟨nd, rfl⟩⟩; refine ⟨_, rfl, ?_⟩))
   go_ret
   exact ⟨by first | rfl | (simp [errW_none, errW_some] <;> rfl) | (simp [*, errW_none, errW_some] <;> rfl), by repeat (first | (with_reducible first | exact HB.out | apply below_alloc | apply pw_below_drewN | apply below_drew1) | exact HB.out)⟩
 ·replace c4 := Bool.eq_false_iff.mpr c4
  subst c4
  have H1 : ((spec_DrawAddedRun.f k l0).bind fun bt474 => ((impl_AddedRun.f k bt474.1 bt474.2.1 bt474.2.2).bind fun bt479 => ((spec_AddedRun.f k bt474.1 bt474.2.1 bt474.2.2).bind fun bt483 => ((impl_StepsToSymmetric.f k bt474.1 bt474.2.1 bt474.2.2).bind fun bt487 => ((spec_StepsToSymmetric.f k bt474.1 bt474.2.1 bt474.2.2).bind fun bt489 => (if (bt479.2 != bt483.2) = true then (laws_FnRunsToSymmetric.j0 k l1 bt474.2.1 bt479.1 bt479.2 bt487.1 bt487.2 true) else ((laws_qSameRows.f k bt479.1 bt483.1).bind fun t491 => (if t491 = true then (if (bt487.2 != bt489.2) = true then (laws_FnRunsToSymmetric.j0 k l1 bt474.2.1 bt479.1 bt479.2 bt487.1 bt487.2 true) else (if bt487.1 = bt489.1 then (if bt487.2 = true then (laws_FnRunsToSymmetric.j0 k l1 bt474.2.1 bt479.1 bt479.2 bt487.1 bt487.2 (!bt479.2)) else (laws_FnRunsToSymmetric.j0 k l1 bt474.2.1 bt479.1 bt479.2 bt487.1 bt487.2 false)) else (laws_FnRunsToSymmetric.j0 k l1 bt474.2.1 bt479.1 bt479.2 bt487.1 bt487.2 true))) else (laws_FnRunsToSymmetric.j0 k l1 bt474.2.1 bt479.1 bt479.2 bt487.1 bt487.2 true))))))))) = some r := by rw [if_neg (show ¬ (false = true) by decide)] at H; exact H
  clear H
  have H := H1
  clear H1
  replace H := Option.bind_eq_some_iff.mp H
  obtain ⟨⟨t474, t475, t476⟩, A50, H⟩ := H
  replace H : ((impl_AddedRun.f k t474 t475 t476).bind fun bt479 => ((spec_AddedRun.f k t474 t475 t476).bind fun bt483 => ((impl_StepsToSymmetric.f k t474 t475 t476).bind fun bt487 => ((spec_StepsToSymmetric.f k t474 t475 t476).bind fun bt489 => (if (bt479.2 != bt483.2) = true then (laws_FnRunsToSymmetric.j0 k l1 t475 bt479.1 bt479.2 bt487.1 bt487.2 true) else ((laws_qSameRows.f k bt479.1 bt483.1).bind fun t491 => (if t491 = true then (if (bt487.2 != bt489.2) = true then (laws_FnRunsToSymmetric.j0 k l1 t475 bt479.1 bt479.2 bt487.1 bt487.2 true) else (if bt487.1 = bt489.1 then (if bt487.2 = true then (laws_FnRunsToSymmetric.j0 k l1 t475 bt479.1 bt479.2 bt487.1 bt487.2 (!bt479.2)) else (laws_FnRunsToSymmetric.j0 k l1 t475 bt479.1 bt479.2 bt487.1 bt487.2 false)) else (laws_FnRunsToSymmetric.j0 k l1 t475 bt479.1 bt479.2 bt487.1 bt487.2 true))) else (laws_FnRunsToSymmetric.j0 k l1 t475 bt479.1 bt479.2 bt487.1 bt487.2 true)))))))) = some r := H
  have A5 := Aside0.mk A50
  clear A50
  replace H := Option.bind_eq_some_iff.mp H
  obtain ⟨⟨t479, t482⟩, A60, H⟩ := H
  replace H : ((spec_AddedRun.f k t474 t475 t476).bind fun bt483 => ((impl_StepsToSymmetric.f k t474 t475 t476).bind fun bt487 => ((spec_StepsToSymmetric.f k t474 t475 t476).bind fun bt489 => (if (t482 != bt483.2) = true then (laws_FnRunsToSymmetric.j0 k l1 t475 t479 t482 bt487.1 bt487.2 true) else ((laws_qSameRows.f k t479 bt483.1).bind fun t491 => (if t491 = true then (if (bt487.2 != bt489.2) = true then (laws_FnRunsToSymmetric.j0 k l1 t475 t479 t482 bt487.1 bt487.2 true) else (if bt487.1 = bt489.1 then (if bt487.2 = true then (laws_FnRunsToSymmetric.j0 k l1 t475 t479 t482 bt487.1 bt487.2 (!t482)) else (laws_FnRunsToSymmetric.j0 k l1 t475 t479 t482 bt487.1 bt487.2 false)) else (laws_FnRunsToSymmetric.j0 k l1 t475 t479 t482 bt487.1 bt487.2 true))) else (laws_FnRunsToSymmetric.j0 k l1 t475 t479 t482 bt487.1 bt487.2 true))))))) = some r := H
  have A6 := Aside0.mk A60
  clear A60
  replace H := Option.bind_eq_some_iff.mp H
  obtain ⟨⟨t483, t486⟩, A70, H⟩ := H
  replace H : ((impl_StepsToSymmetric.f k t474 t475 t476).bind fun bt487 => ((spec_StepsToSymmetric.f k t474 t475 t476).bind fun bt489 => (if (t482 != t486) = true then (laws_FnRunsToSymmetric.j0 k l1 t475 t479 t482 bt487.1 bt487.2 true) else ((laws_qSameRows.f k t479 t483).bind fun t491 => (if t491 = true then (if (bt487.2 != bt489.2) = true then (laws_FnRunsToSymmetric.j0 k l1 t475 t479 t482 bt487.1 bt487.2 true) else (if bt487.1 = bt489.1 then (if bt487.2 = true then (laws_FnRunsToSymmetric.j0 k l1 t475 t479 t482 bt487.1 bt487.2 (!t482)) else (laws_FnRunsToSymmetric.j0 k l1 t475 t479 t482 bt487.1 bt487.2 false)) else (laws_FnRunsToSymmetric.j0 k l1 t475 t479 t482 bt487.1 bt487.2 true))) else (laws_FnRunsToSymmetric.j0 k l1 t475 t479 t482 bt487.1 bt487.2 true)))))) = some r := H
  have A7 := Aside0.mk A70
  clear A70
  replace H := Option.bind_eq_some_iff.mp H
  obtain ⟨⟨t487, t488⟩, A80, H⟩ := H
  replace H : ((spec_StepsToSymmetric.f k t474 t475 t476).bind fun bt489 => (if (t482 != t486) = true then (laws_FnRunsToSymmetric.j0 k l1 t475 t479 t482 t487 t488 true) else ((laws_qSameRows.f k t479 t483).bind fun t491 => (if t491 = true then (if (t488 != bt489.2) = true then (laws_FnRunsToSymmetric.j0 k l1 t475 t479 t482 t487 t488 true) else (if t487 = bt489.1 then (if t488 = true then (laws_FnRunsToSymmetric.j0 k l1 t475 t479 t482 t487 t488 (!t482)) else (laws_FnRunsToSymmetric.j0 k l1 t475 t479 t482 t487 t488 false)) else (laws_FnRunsToSymmetric.j0 k l1 t475 t479 t482 t487 t488 true))) else (laws_FnRunsToSymmetric.j0 k l1 t475 t479 t482 t487 t488 true))))) = some r := H
  have A8 := Aside0.mk A80
  clear A80
  replace H := Option.bind_eq_some_iff.mp H
  obtain ⟨⟨t489, t490⟩, A90, H⟩ := H
  replace H : (if (t482 != t486) = true then (laws_FnRunsToSymmetric.j0 k l1 t475 t479 t482 t487 t488 true) else ((laws_qSameRows.f k t479 t483).bind fun t491 => (if t491 = true then (if (t488 != t490) = true then (laws_FnRunsToSymmetric.j0 k l1 t475 t479 t482 t487 t488 true) else (if t487 = t489 then (if t488 = true then (laws_FnRunsToSymmetric.j0 k l1 t475 t479 t482 t487 t488 (!t482)) else (laws_FnRunsToSymmetric.j0 k l1 t475 t479 t482 t487 t488 false)) else (laws_FnRunsToSymmetric.j0 k l1 t475 t479 t482 t487 t488 true))) else (laws_FnRunsToSymmetric.j0 k l1 t475 t479 t482 t487 t488 true)))) = some r := H
  have A9 := Aside0.mk A90
  clear A90
  have HC10 := Aside0.mk H
  clear H
  go_enter Try.func9, Try.ntmps9
  go_upto_region 8 with (first | ((with_reducible refine gate_callee (f := 15) rfl ?_); refine goesL_ (some 54) rfl rfl Try.func15 (by kernel_rfl) rfl #[.slice A0 l0.length c0, .slice A1 l1.length c1] rfl (by (try simp only [List.map_toArray, List.map_cons, List.map_nil]); first | done | rfl | (simp only [List.length_drop, List.length_take]; rfl)) ?_; (with_reducible refine (laws_big.calls _ _ l0 _ _ l1 false _ ?side1 ?side2 ?side3 ?side4 A3.out).mono ?_); (case side1 => repeat (first | exact HR0.out | (with_reducible refine Kd.C_alloc ?_ _) | (with_reducible refine Kd.C_drewN ?_ _) | (with_reducible refine Kd.C_drew ?_))); (case side2 => exact HC0.out); (case side3 => repeat (first | exact HR1.out | (with_reducible refine Kd.C_alloc ?_ _) | (with_reducible refine Kd.C_drewN ?_ _) | (with_reducible refine Kd.C_drew ?_))); (case side4 => exact HC1.out); rintro e w' ⟨rfl, ⟨nd, rfl⟩⟩; refine ⟨_, rfl, ?_⟩) | ((with_reducible refine gate_callee (f := 100) rfl ?_); refine goesL_ (some 57) rfl rfl Try.func100 (by kernel_rfl) rfl #[.slice A0 l0.length c0] rfl (by (try simp only [List.map_toArray, List.map_cons, List.map_nil]); first | done | rfl | (simp only [List.length_drop, List.length_take]; rfl)) ?_; (with_reducible refine (spec_DrawAddedRun.calls k _ _ l0 t474 t475 t476 _ ?side1 ?side2 A5.out).mono ?_); (case side1 => repeat (first | exact HR0.out | (with_reducible refine Kd.C_alloc ?_ _) | (with_reducible refine Kd.C_drewN ?_ _) | (with_reducible refine Kd.C_drew ?_))); (case side2 => exact HC0.out); rintro e w11 ⟨v477, rfl, ho0, hb⟩; refine ⟨_, rfl, ?_⟩; have n0_ := Aside0.mk (Kd.R_lower ho0 (below_size (by repeat (first | (with_reducible first | exact HB.out | apply below_alloc | apply pw_below_drewN | apply below_drew1) | exact HB.out)))); have n1_ := Aside0.mk (below_step (by repeat (first | (with_reducible first | exact HB.out | apply below_alloc | apply pw_below_drewN | apply below_drew1) | exact HB.out)) hb); clear HB; have HO478 := n0_; have HB := n1_; clear n0_ n1_; (try clear hb); (try clear hb2); (try clear hk); (try clear hi); (try clear ho0); obtain ⟨Ao12, co12, eo12⟩ := Kd.R_slice HO478.out; subst eo12) | ((with_reducible refine gate_callee (f := 101) rfl ?_); refine goesL_ (some 65) rfl rfl Try.func101 (by kernel_rfl) rfl #[.slice Ao12 t474.length co12, .int .i64 t475, .int .i64 t476] rfl (by (try simp only [List.map_toArray, List.map_cons, List.map_nil]); first | done | rfl | (simp only [List.length_drop, List.length_take]; rfl)) ?_; (with_reducible refine (impl_AddedRun.calls k _ _ t474 t475 t476 t479 t482 _ ?side1 ?side2 A6.out).mono ?_); (case side1 => repeat (first | exact (Kd.R_reads' HO478.out).2.2 | (with_reducible refine Kd.C_alloc ?_ _) | (with_reducible refine Kd.C_drewN ?_ _) | (with_reducible refine Kd.C_drew ?_))); (case side2 => exact (Kd.R_reads' HO478.out).2.1); rintro e w13 ⟨v480, rfl, ho0, hb⟩; refine ⟨_, rfl, ?_⟩; have n0_ := Aside0.mk (Kd.R_below (by (with_reducible repeat (first | apply Kd.R_alloc | apply Kd.R_drewN | apply Kd.R_drew)); exact HO478.out) hb); have n1_ := Aside0.mk (Kd.N_lower (Kd.N_mono (ok' := fun k_ => some k_ ≠ (.slice Ao12 t474.length co12 : Value).ownBlock) ho0 (fun k_ hk_ => (Kd.fresh' (Kd.R_lt (by (with_reducible repeat (first | apply Kd.R_alloc | apply Kd.R_drewN | apply Kd.R_drew)); exact HO478.out)) k_ hk_))) (below_size (by repeat (first | (with_reducible first | exact HB.out | apply below_alloc | apply pw_below_drewN | apply below_drew1) | exact HB.out)))); have n2_ := Aside0.mk (below_step (by repeat (first | (with_reducible first | exact HB.out | apply below_alloc | apply pw_below_drewN | apply below_drew1) | exact HB.out)) hb); clear HO478; clear HB; have HO478 := n0_; have HO481 := n1_; have HB := n2_; clear n0_ n1_ n2_; (try clear hb); (try clear hb2); (try clear hk); (try clear hi); (try clear ho0)) | ((with_reducible refine gate_callee (f := 102) rfl ?_); refine goesL_ (some 72) rfl rfl Try.func102 (by kernel_rfl) rfl #[.slice Ao12 t474.length co12, .int .i64 t475, .int .i64 t476] rfl (by (try simp only [List.map_toArray, List.map_cons, List.map_nil]); first | done | rfl | (simp only [List.length_drop, List.length_take]; rfl)) ?_; (with_reducible refine (spec_AddedRun.calls k _ _ t474 t475 t476 t483 t486 _ ?side1 ?side2 A7.out).mono ?_); (case side1 => repeat (first | exact (Kd.R_reads' HO478.out).2.2 | (with_reducible refine Kd.C_alloc ?_ _) | (with_reducible refine Kd.C_drewN ?_ _) | (with_reducible refine Kd.C_drew ?_))); (case side2 => exact (Kd.R_reads' HO478.out).2.1); rintro e w14 ⟨v484, rfl, ho0, hb⟩; refine ⟨_, rfl, ?_⟩; have n0_ := Aside0.mk (Kd.R_below (by (with_reducible repeat (first | apply Kd.R_alloc | apply Kd.R_drewN | apply Kd.R_drew)); exact HO478.out) hb); have n1_ := Aside0.mk (Kd.N_elder' (by (with_reducible repeat (first | apply Kd.N_alloc | apply Kd.N_drewN | apply Kd.N_drew)); exact HO481.out) (Kd.N_base ho0) hb); have n2_ := Aside0.mk (Kd.N_lower (Kd.N_mono (ok' := fun k_ => some k_ ≠ (.slice Ao12 t474.length co12 : Value).ownBlock ∧ some k_ ≠ (v480 : Value).ownBlock) ho0 (fun k_ hk_ => ⟨(Kd.fresh' (Kd.R_lt (by (with_reducible repeat (first | apply Kd.R_alloc | apply Kd.R_drewN | apply Kd.R_drew)); exact HO478.out)) k_ hk_), (Kd.fresh' (Kd.N_lt (by (with_reducible repeat (first | apply Kd.N_alloc | apply Kd.N_drewN | apply Kd.N_drew)); exact HO481.out)) k_ hk_)⟩)) (below_size (by repeat (first | (with_reducible first | exact HB.out | apply below_alloc | apply pw_below_drewN | apply below_drew1) | exact HB.out)))); have n3_ := Aside0.mk (below_step (by repeat (first | (with_reducible first | exact HB.out | apply below_alloc | apply pw_below_drewN | apply below_drew1) | exact HB.out)) hb); clear HO478; clear HO481; clear HB; have HO478 := n0_; have HO481 := n1_; have HO485 := n2_; have HB := n3_; clear n0_ n1_ n2_ n3_; (try clear hb); (try clear hb2); (try clear hk); (try clear hi); (try clear ho0)) | ((with_reducible refine gate_callee (f := 103) rfl ?_); refine goesL_ (some 79) rfl rfl Try.func103 (by kernel_rfl) rfl #[.slice Ao12 t474.length co12, .int .i64 t475, .int .i64 t476] rfl (by (try simp only [List.map_toArray, List.map_cons, List.map_nil]); first | done | rfl | (simp only [List.length_drop, List.length_take]; rfl)) ?_; (with_reducible refine (impl_StepsToSymmetric.calls k _ _ t474 t475 t476 t487 t488 _ ?side1 ?side2 A8.out).mono ?_); (case side1 => repeat (first | exact (Kd.R_reads' HO478.out).2.2 | (with_reducible refine Kd.C_alloc ?_ _) | (with_reducible refine Kd.C_drewN ?_ _) | (with_reducible refine Kd.C_drew ?_))); (case side2 => exact (Kd.R_reads' HO478.out).2.1); rintro e w15 ⟨rfl, hb⟩; refine ⟨_, rfl, ?_⟩; have n0_ := Aside0.mk (Kd.R_below (by (with_reducible repeat (first | apply Kd.R_alloc | apply Kd.R_drewN | apply Kd.R_drew)); exact HO478.out) hb); have n1_ := Aside0.mk (Kd.N_below (by (with_reducible repeat (first | apply Kd.N_alloc | apply Kd.N_drewN | apply Kd.N_drew)); exact HO481.out) hb); have n2_ := Aside0.mk (Kd.N_below (by (with_reducible repeat (first | apply Kd.N_alloc | apply Kd.N_drewN | apply Kd.N_drew)); exact HO485.out) hb); have n3_ := Aside0.mk (below_step (by repeat (first | (with_reducible first | exact HB.out | apply below_alloc | apply pw_below_drewN | apply below_drew1) | exact HB.out)) hb); clear HO478; clear HO481; clear HO485; clear HB; have HO478 := n0_; have HO481 := n1_; have HO485 := n2_; have HB := n3_; clear n0_ n1_ n2_ n3_; (try clear hb); (try clear hb2); (try clear hk); (try clear hi)) | ((with_reducible refine gate_callee (f := 104) rfl ?_); refine goesL_ (some 86) rfl rfl Try.func104 (by kernel_rfl) rfl #[.slice Ao12 t474.length co12, .int .i64 t475, .int .i64 t476] rfl (by (try simp only [List.map_toArray, List.map_cons, List.map_nil]); first | done | rfl | (simp only [List.length_drop, List.length_take]; rfl)) ?_; (with_reducible refine (spec_StepsToSymmetric.calls k _ _ t474 t475 t476 t489 t490 _ ?side1 ?side2 A9.out).mono ?_); (case side1 => repeat (first | exact (Kd.R_reads' HO478.out).2.2 | (with_reducible refine Kd.C_alloc ?_ _) | (with_reducible refine Kd.C_drewN ?_ _) | (with_reducible refine Kd.C_drew ?_))); (case side2 => exact (Kd.R_reads' HO478.out).2.1); rintro e w16 ⟨rfl, hb⟩; refine ⟨_, rfl, ?_⟩; have n0_ := Aside0.mk (Kd.R_below (by (with_reducible repeat (first | apply Kd.R_alloc | apply Kd.R_drewN | apply Kd.R_drew)); exact HO478.out) hb); have n1_ := Aside0.mk (Kd.N_below (by (with_reducible repeat (first | apply Kd.N_alloc | apply Kd.N_drewN | apply Kd.N_drew)); exact HO481.out) hb); have n2_ := Aside0.mk (Kd.N_below (by (with_reducible repeat (first | apply Kd.N_alloc | apply Kd.N_drewN | apply Kd.N_drew)); exact HO485.out) hb); have n3_ := Aside0.mk (below_step (by repeat (first | (with_reducible first | exact HB.out | apply below_alloc | apply pw_below_drewN | apply below_drew1) | exact HB.out)) hb); clear HO478; clear HO481; clear HO485; clear HB; have HO478 := n0_; have HO481 := n1_; have HO485 := n2_; have HB := n3_; clear n0_ n1_ n2_ n3_; (try clear hb); (try clear hb2); (try clear hk); (try clear hi)))
  (try simp only [Act.put, List.setIfInBounds_toArray, List.set_cons_zero, List.set_cons_succ])
  go_cut [114] (fun v114 wc => ∃ (kq : Nat) (x114_9 : Bool), v114 = .bool x114_9 ∧ Aside0 (laws_FnRunsToSymmetric.j0 kq l1 t475 t479 t482 t487 t488 x114_9 = some r) ∧ Aside0 (kq ≤ k) ∧ Aside0 (Kd.N (Kd.slice 3 (Kd.int .i64)) 29 wc w.heap.size (fun _ => True) v480 t479) ∧ Aside0 (Below w.heap.size w wc))
  case first =>
   as_aux_lemma =>
   have H := HC10.out
   clear HC10
   by_cases c17 : (t482 != t486) = true
   ·rw [if_pos c17] at H
    have c17b0 : (t482 != t486) = true := c17
    (try (have c17b1 : decide (t482 = t486) = false := by simpa using c17))
    (try (have c17b2 : (t482 == t486) = false := by simpa using c17))
    (try (have c17b3 : ¬ (t482 = t486) := by simpa using c17))
    clear c17
    (first | rw [c17b0] | (simp only [i64_w, i32_w]; rw [c17b0]) | skip)
    exact (laws_FnRunsToSymmetric.j0_no HR_.out _ _ _ _ _ _ _ H).elim
   ·rw [if_neg c17] at H
    have c17b0 : (t482 != t486) = false := by simpa using c17
    (try (have c17b1 : decide (t482 = t486) = true := by simpa using c17))
    (try (have c17b2 : (t482 == t486) = true := by simpa using c17))
    clear c17
    (first | rw [c17b0] | (simp only [i64_w, i32_w]; rw [c17b0]) | skip)
    replace H := Option.bind_eq_some_iff.mp H
    obtain ⟨t491, A180, H⟩ := H
    replace H : (if t491 = true then (if (t488 != t490) = true then (laws_FnRunsToSymmetric.j0 k l1 t475 t479 t482 t487 t488 true) else (if t487 = t489 then (if t488 = true then (laws_FnRunsToSymmetric.j0 k l1 t475 t479 t482 t487 t488 (!t482)) else (laws_FnRunsToSymmetric.j0 k l1 t475 t479 t482 t487 t488 false)) else (laws_FnRunsToSymmetric.j0 k l1 t475 t479 t482 t487 t488 true))) else (laws_FnRunsToSymmetric.j0 k l1 t475 t479 t482 t487 t488 true)) = some r := H
    have A18 := Aside0.mk A180
    clear A180
    by_cases c19 : t491 = true
    ·subst c19
     have H1 : (if (t488 != t490) = true then (laws_FnRunsToSymmetric.j0 k l1 t475 t479 t482 t487 t488 true) else (if t487 = t489 then (if t488 = true then (laws_FnRunsToSymmetric.j0 k l1 t475 t479 t482 t487 t488 (!t482)) else (laws_FnRunsToSymmetric.j0 k l1 t475 t479 t482 t487 t488 false)) else (laws_FnRunsToSymmetric.j0 k l1 t475 t479 t482 t487 t488 true))) = some r := by rw [if_pos rfl] at H; exact H
     clear H
     have H := H1
     clear H1
     by_cases c20 : (t488 != t490) = true
     ·rw [if_pos c20] at H
      have c20b0 : (t488 != t490) = true := c20
      (try (have c20b1 : decide (t488 = t490) = false := by simpa using c20))
      (try (have c20b2 : (t488 == t490) = false := by simpa using c20))
      (try (have c20b3 : ¬ (t488 = t490) := by simpa using c20))
      clear c20
      exact (laws_FnRunsToSymmetric.j0_no HR_.out _ _ _ _ _ _ _ H).elim
     ·rw [if_neg c20] at H
      have c20b0 : (t488 != t490) = false := by simpa using c20
      (try (have c20b1 : decide (t488 = t490) = true := by simpa using c20))
      (try (have c20b2 : (t488 == t490) = true := by simpa using c20))
      clear c20
      by_cases c21 : t487 = t489
      ·rw [if_pos c21] at H
       have c21b0 : (t487 == t489) = true := beq_iff_eq.mpr c21
       have c21b1 : (t487 != t489) = false := bne_eq_false_iff_eq.mpr c21
       clear c21
       by_cases c22 : t488 = true
       ·subst c22
        have H1 : (laws_FnRunsToSymmetric.j0 k l1 t475 t479 t482 t487 true (!t482)) = some r := by rw [if_pos rfl] at H; exact H
        clear H
        have H := H1
        clear H1
        as_aux_lemma =>
         have H' := Aside0.mk H
         clear H
         obtain ⟨Ao23, co23, eo23⟩ := Kd.N_slice HO481.out
         subst eo23
         obtain ⟨Ao24, co24, eo24⟩ := Kd.N_slice HO485.out
         subst eo24
         go_wp2_with (first | (go_at_call 19; (with_reducible refine (laws_qSameRows.calls k _ _ t479 _ _ t483 true _ ?side1 ?side2 ?side3 ?side4 A18.out).mono ?_); (case side1 => repeat (first | exact (Kd.N_reads' HO481.out).2.2 | (with_reducible refine Kd.C_alloc ?_ _) | (with_reducible refine Kd.C_drewN ?_ _) | (with_reducible refine Kd.C_drew ?_))); (case side2 => exact (Kd.N_reads' HO481.out).2.1); (case side3 => repeat (first | exact (Kd.N_reads' HO485.out).2.2 | (with_reducible refine Kd.C_alloc ?_ _) | (with_reducible refine Kd.C_drewN ?_ _) | (with_reducible refine Kd.C_drew ?_))); (case side4 => exact (Kd.N_reads' HO485.out).2.1); rintro e w' ⟨rfl, ⟨nd, rfl⟩⟩))
         go_meet
         case rel => exact ⟨_, (!t482), (by first | rfl | (simp; done) | (simp [*]; done)), H', ⟨by first | omega | exact Nat.le_refl _⟩, ⟨by (with_reducible repeat (first | apply Kd.N_alloc | apply Kd.N_drewN | apply Kd.N_drew)); exact Kd.N_mono HO481.out (fun _ hk => trivial)⟩, ⟨by repeat (first | (with_reducible first | exact HB.out | apply below_alloc | apply pw_below_drewN | apply below_drew1) | exact HB.out)⟩⟩
       ·replace c22 := Bool.eq_false_iff.mpr c22
        subst c22
        have H1 : (laws_FnRunsToSymmetric.j0 k l1 t475 t479 t482 t487 false false) = some r := by rw [if_neg (show ¬ (false = true) by decide)] at H; exact H
        clear H
        have H := H1
        clear H1
        as_aux_lemma =>
         have H' := Aside0.mk H
         clear H
         obtain ⟨Ao25, co25, eo25⟩ := Kd.N_slice HO481.out
         subst eo25
         obtain ⟨Ao26, co26, eo26⟩ := Kd.N_slice HO485.out
         subst eo26
         go_wp2_with (first | (go_at_call 19; (with_reducible refine (laws_qSameRows.calls k _ _ t479 _ _ t483 true _ ?side1 ?side2 ?side3 ?side4 A18.out).mono ?_); (case side1 => repeat (first | exact (Kd.N_reads' HO481.out).2.2 | (with_reducible refine Kd.C_alloc ?_ _) | (with_reducible refine Kd.C_drewN ?_ _) | (with_reducible refine Kd.C_drew ?_))); (case side2 => exact (Kd.N_reads' HO481.out).2.1); (case side3 => repeat (first | exact (Kd.N_reads' HO485.out).2.2 | (with_reducible refine Kd.C_alloc ?_ _) | (with_reducible refine Kd.C_drewN ?_ _) | (with_reducible refine Kd.C_drew ?_))); (case side4 => exact (Kd.N_reads' HO485.out).2.1); rintro e w' ⟨rfl, ⟨nd, rfl⟩⟩))
         go_meet
         case rel => exact ⟨_, (false), (by first | rfl | (simp; done) | (simp [*]; done)), H', ⟨by first | omega | exact Nat.le_refl _⟩, ⟨by (with_reducible repeat (first | apply Kd.N_alloc | apply Kd.N_drewN | apply Kd.N_drew)); exact Kd.N_mono HO481.out (fun _ hk => trivial)⟩, ⟨by repeat (first | (with_reducible first | exact HB.out | apply below_alloc | apply pw_below_drewN | apply below_drew1) | exact HB.out)⟩⟩
      ·rw [if_neg c21] at H
       have c21b0 : (t487 == t489) = false := beq_eq_false_iff_ne.mpr c21
       have c21b1 : (t487 != t489) = true := bne_iff_ne.mpr c21
       exact (laws_FnRunsToSymmetric.j0_no HR_.out _ _ _ _ _ _ _ H).elim
    ·replace c19 := Bool.eq_false_iff.mpr c19
     subst c19
     have H1 : (laws_FnRunsToSymmetric.j0 k l1 t475 t479 t482 t487 t488 true) = some r := by rw [if_neg (show ¬ (false = true) by decide)] at H; exact H
     clear H
     have H := H1
     clear H1
     exact (laws_FnRunsToSymmetric.j0_no HR_.out _ _ _ _ _ _ _ H).elim
  case rest =>
   as_aux_lemma =>
   clear HC10
   try clear c1
   try clear c2
   try clear p2
   try clear c4
   try clear c9
   try clear c10
   try clear c15
   try clear c17
   try clear c17b0
   try clear c17b1
   try clear c17b2
   try clear c19
   try clear c20
   try clear c20b0
   try clear c20b1
   try clear c20b2
   try clear c21
   try clear c21b0
   try clear c21b1
   try clear c22
   obtain ⟨kq, x114_9, rfl, HA, HJ9, HO_8, HB⟩ := hcut
   cases kq with
   | zero => exact absurd HA.out (by simp [laws_FnRunsToSymmetric.j0])
   | succ kj9 =>
    have H := HA.out
    clear HA
    simp only [laws_FnRunsToSymmetric.j0] at H
    by_cases c27 : x114_9 = true
    ·subst c27
     have H1 : (some false) = some r := by rw [if_pos rfl] at H; exact H
     clear H
     have H := H1
     clear H1
     exact absurd (Option.some.inj H) (by rw [HR_.out]; decide)
    ·replace c27 := Bool.eq_false_iff.mpr c27
     subst c27
     have H1 : (if t482 = true then (laws_FnRunsToSymmetric.l0 kj9 l1 t475 t479 t487 t488 t479 (t479.length : Int) 0) else (laws_FnRunsToSymmetric.j3 kj9 l1)) = some r := by rw [if_neg (show ¬ (false = true) by decide)] at H; exact H
     clear H
     have H := H1
     clear H1
     have HC28 := Aside0.mk H
     clear H
     go_upto_if 115 with (fail)
     go_cut [] (fun wc => ∃ (kq : Nat), Aside0 (laws_FnRunsToSymmetric.j3 kq l1 = some r) ∧ Aside0 (kq ≤ kj9) ∧ Aside0 (Below w.heap.size w wc))
     case first =>
      as_aux_lemma =>
      have H := HC28.out
      clear HC28
      by_cases c29 : t482 = true
      ·subst c29
       have H1 : (laws_FnRunsToSymmetric.l0 kj9 l1 t475 t479 t487 t488 t479 (t479.length : Int) 0) = some r := by rw [if_pos rfl] at H; exact H
       clear H
       have H := H1
       clear H1
       have H' := Aside0.mk H
       clear H
       obtain ⟨Ao30, co30, eo30⟩ := Kd.N_slice HO_8.out
       subst eo30
       go_wp2
       go_loopg [118] kj9 (fun kq v118 w' => ∃ (x118_2 : Int), v118 = .int .i64 x118_2 ∧ Aside0 (laws_FnRunsToSymmetric.l0 kq l1 t475 t479 t487 t488 t479 (t479.length : Int) x118_2 = some r) ∧ Aside0 (kq ≤ kj9) ∧ Aside0 (Kd.N (Kd.slice 3 (Kd.int .i64)) 29 w' w.heap.size (fun _ => True) (.slice Ao30 t479.length co30) t479) ∧ Aside0 (Kd.N (Kd.slice 3 (Kd.int .i64)) 29 w' w.heap.size (fun _ => True) (.slice Ao30 t479.length co30) t479) ∧ Aside0 (Below w.heap.size w w'))
       case atStart => exact ⟨(0), (by first | rfl | (simp; done) | (simp [*]; done)), H', ⟨Nat.le_refl _⟩, ⟨by (with_reducible repeat (first | apply Kd.N_alloc | apply Kd.N_drewN | apply Kd.N_drew)); exact HO_8.out⟩, ⟨by (with_reducible repeat (first | apply Kd.N_alloc | apply Kd.N_drewN | apply Kd.N_drew)); exact HO_8.out⟩, ⟨by repeat (first | (with_reducible first | exact HB.out | apply below_alloc | apply pw_below_drewN | apply below_drew1) | exact HB.out)⟩⟩
       case round =>
        as_aux_lemma =>
        clear H'
        try clear c1
        try clear c2
        try clear p2
        try clear c4
        try clear c9
        try clear c10
        try clear c15
        try clear c17
        try clear c17b0
        try clear c17b1
        try clear c17b2
        try clear c19
        try clear c20
        try clear c20b0
        try clear c20b1
        try clear c20b2
        try clear c21
        try clear c21b0
        try clear c21b1
        try clear c22
        try clear c27
        try clear c29
        try clear p2
        obtain ⟨x118_2, rfl, HA, HK2, HO_8, HO_116, HB⟩ := hrel
        cases gk with
        | zero => exact absurd HA.out (by simp [laws_FnRunsToSymmetric.l0])
        | succ k2 =>
         have H := HA.out
         clear HA
         simp only [laws_FnRunsToSymmetric.l0] at H
         by_cases c31 : x118_2 < (t479.length : Int)
         ·rw [if_pos c31] at H
          have c31b0 : decide (x118_2 < (t479.length : Int)) = true := decide_eq_true c31
          clear c31
          (first | rw [c31b0] | (simp only [i64_w, i32_w]; rw [c31b0]) | skip)
          by_cases c32 : 0 ≤ x118_2
          ·rw [if_pos c32] at H
           have c32b0 : decide (0 ≤ x118_2) = true := decide_eq_true c32
           clear c32
           by_cases c33 : x118_2 < (t479.length : Int)
           ·rw [if_pos c33] at H
            have c33b0 : decide (x118_2 < (t479.length : Int)) = true := decide_eq_true c33
            clear c33
            replace H := Option.bind_eq_some_iff.mp H
            obtain ⟨⟨t493, t494⟩, A340, H⟩ := H
            replace H : (if t494 = true then (if t488 = true then (laws_FnRunsToSymmetric.j2 k2 l1 t475 t479 t487 t488 x118_2 (rd_L2 t479 x118_2) t479 (t479.length : Int) x118_2 (t493 != (x118_2 == t487))) else (laws_FnRunsToSymmetric.j2 k2 l1 t475 t479 t487 t488 x118_2 (rd_L2 t479 x118_2) t479 (t479.length : Int) x118_2 (t493 != false))) else (laws_FnRunsToSymmetric.j2 k2 l1 t475 t479 t487 t488 x118_2 (rd_L2 t479 x118_2) t479 (t479.length : Int) x118_2 true)) = some r := H
            have A34 := Aside0.mk A340
            clear A340
            have HC35 := Aside0.mk H
            clear H
            have p492 : 0 ≤ (x118_2 : Int) := of_decide_eq_true (by first | (with_reducible assumption) | assumption)
            have q492 : x118_2 < (t479.length : Int) := of_decide_eq_true (by first | (with_reducible assumption) | assumption)
            obtain ⟨ad492, A492_0, c492_0, e492, hx492_0, hl492_0, hi492_0⟩ := at_L2 (Kd.N_reads' HO_116.out).2.2 x118_2 p492 q492
            cases e492
            obtain ⟨ce492, hce492, hMe492, hcc492⟩ := Kd.N_get HO_116.out [] x118_2 p492 (by first | exact q492 | exact of_decide_eq_true (by first | (with_reducible assumption) | assumption) | (have e_ := (Kd.N_reads' HO_116.out).1; omega))
            obtain ⟨ua492_0, uc492_0, rfl, ul492_0, ge492_0⟩ := Kd.FK_slice_open hMe492
            have hv492_0 := hcc492 0 _ rfl
            rw [Nat.add_zero, show ((Kd.slice 3 (Kd.int .i64))).sz = 1 from rfl, Nat.mul_one] at hv492_0
            replace hv492_0 := Option.some.inj (hv492_0.symm.trans hx492_0)
            injection hv492_0 with hva_ hvn_ hvc_
            rw [hva_] at ge492_0
            rw [hvc_] at ul492_0
            have HL492_0 := Aside0.mk (show Kd.V (Kd.int .i64) 3 _ w.heap.size _ _ (rd_L2 t479 x118_2) from Kd.V_mk ul492_0 ge492_0)
            clear hva_ hvn_ hvc_ ge492_0 ul492_0
            clear hcc492 hce492
            have HR492_0 := Aside0.mk hi492_0
            have HC492_0 := Aside0.mk hl492_0
            clear hi492_0 hl492_0
            replace p492 := eq_true p492
            replace q492 := eq_true q492
            go_upto_region 15 with (first | ((with_reducible refine gate_callee (f := 67) rfl ?_); refine goesL_ (some 126) rfl rfl Try.func67 (by kernel_rfl) rfl #[.slice A492_0 (rd_L2 t479 x118_2).length c492_0, .int .i64 t475] rfl (by (try simp only [List.map_toArray, List.map_cons, List.map_nil]); first | done | rfl | (simp only [List.length_drop, List.length_take]; rfl)) ?_; (with_reducible refine (impl_IsSymmetric.calls k2 _ _ (rd_L2 t479 x118_2) t475 t493 t494 _ ?side1 ?side2 A34.out).mono ?_); (case side1 => repeat (first | exact (by repeat (first | (with_reducible exact HR492_0.out) | (with_reducible refine Kd.C_alloc ?_ _) | (with_reducible refine Kd.C_drewN ?_ _) | (with_reducible refine Kd.C_drew ?_) | exact HR492_0.out)) | (with_reducible refine Kd.C_alloc ?_ _) | (with_reducible refine Kd.C_drewN ?_ _) | (with_reducible refine Kd.C_drew ?_))); (case side2 => exact HC492_0.out); rintro e w36 ⟨rfl, hb⟩; refine ⟨_, rfl, ?_⟩; have n0_ := Aside0.mk (Kd.N_below (by (with_reducible repeat (first | apply Kd.N_alloc | apply Kd.N_drewN | apply Kd.N_drew)); exact HO_8.out) hb); have n1_ := Aside0.mk (Kd.N_below (by (with_reducible repeat (first | apply Kd.N_alloc | apply Kd.N_drewN | apply Kd.N_drew)); exact HO_116.out) hb); have n2_ := Aside0.mk (Kd.V_below (by (with_reducible repeat (first | apply Kd.V_alloc | apply Kd.V_drewN | apply Kd.V_drew)); exact HL492_0.out) hb); have n3_ := Aside0.mk (Kd.C_below (by repeat (first | (with_reducible exact HR492_0.out) | (with_reducible refine Kd.C_alloc ?_ _) | (with_reducible refine Kd.C_drewN ?_ _) | (with_reducible refine Kd.C_drew ?_) | exact HR492_0.out)) hb); have n4_ := Aside0.mk (below_step (by repeat (first | (with_reducible first | exact HB.out | apply below_alloc | apply pw_below_drewN | apply below_drew1) | exact HB.out)) hb); clear HO_8; clear HO_116; clear HL492_0; clear HR492_0; clear HB; have HO_8 := n0_; have HO_116 := n1_; have HL492_0 := n2_; have HR492_0 := n3_; have HB := n4_; clear n0_ n1_ n2_ n3_ n4_; (try clear hb); (try clear hb2); (try clear hk); (try clear hi)))
            (try simp only [Act.put, List.setIfInBounds_toArray, List.set_cons_zero, List.set_cons_succ])
            go_cut [140] (fun v140 wc => ∃ (kq : Nat) (x140_34 : Bool), v140 = .bool x140_34 ∧ Aside0 (laws_FnRunsToSymmetric.j2 kq l1 t475 t479 t487 t488 x118_2 (rd_L2 t479 x118_2) t479 (t479.length : Int) x118_2 x140_34 = some r) ∧ Aside0 (kq ≤ k2) ∧ Aside0 (Kd.N (Kd.slice 3 (Kd.int .i64)) 29 wc w.heap.size (fun _ => True) (.slice (some ad492) t479.length co30) t479) ∧ Aside0 (Kd.N (Kd.slice 3 (Kd.int .i64)) 29 wc w.heap.size (fun _ => True) (.slice (some ad492) t479.length co30) t479) ∧ Aside0 (Kd.C (Kd.int .i64) wc A492_0 (rd_L2 t479 x118_2).length (rd_L2 t479 x118_2)) ∧ Aside0 (Below w.heap.size w wc))
            case first =>
             as_aux_lemma =>
             have H := HC35.out
             clear HC35
             by_cases c37 : t494 = true
             ·subst c37
              have H1 : (if t488 = true then (laws_FnRunsToSymmetric.j2 k2 l1 t475 t479 t487 t488 x118_2 (rd_L2 t479 x118_2) t479 (t479.length : Int) x118_2 (t493 != (x118_2 == t487))) else (laws_FnRunsToSymmetric.j2 k2 l1 t475 t479 t487 t488 x118_2 (rd_L2 t479 x118_2) t479 (t479.length : Int) x118_2 (t493 != false))) = some r := by rw [if_pos rfl] at H; exact H
              clear H
              have H := H1
              clear H1
              by_cases c38 : t488 = true
              ·subst c38
               have H1 : (laws_FnRunsToSymmetric.j2 k2 l1 t475 t479 t487 true x118_2 (rd_L2 t479 x118_2) t479 (t479.length : Int) x118_2 (t493 != (x118_2 == t487))) = some r := by rw [if_pos rfl] at H; exact H
               clear H
               have H := H1
               clear H1
               as_aux_lemma =>
                have H' := Aside0.mk H
                clear H
                go_wp2
                go_meet
                case rel => exact ⟨_, ((t493 != (x118_2 == t487))), (by first | rfl | (simp; done) | (simp [*]; done)), H', ⟨by have := HJ9.out; have := HK2.out; first | omega | exact Nat.le_refl _⟩, ⟨by (with_reducible repeat (first | apply Kd.N_alloc | apply Kd.N_drewN | apply Kd.N_drew)); exact HO_8.out⟩, ⟨by (with_reducible repeat (first | apply Kd.N_alloc | apply Kd.N_drewN | apply Kd.N_drew)); exact HO_116.out⟩, ⟨by repeat (first | (with_reducible exact HR492_0.out) | (with_reducible refine Kd.C_alloc ?_ _) | (with_reducible refine Kd.C_drewN ?_ _) | (with_reducible refine Kd.C_drew ?_) | exact HR492_0.out)⟩, ⟨by repeat (first | (with_reducible first | exact HB.out | apply below_alloc | apply pw_below_drewN | apply below_drew1) | exact HB.out)⟩⟩
              ·replace c38 := Bool.eq_false_iff.mpr c38
               subst c38
               have H1 : (laws_FnRunsToSymmetric.j2 k2 l1 t475 t479 t487 false x118_2 (rd_L2 t479 x118_2) t479 (t479.length : Int) x118_2 (t493 != false)) = some r := by rw [if_neg (show ¬ (false = true) by decide)] at H; exact H
               clear H
               have H := H1
               clear H1
               as_aux_lemma =>
                have H' := Aside0.mk H
                clear H
                go_wp2
                go_meet
                case rel => exact ⟨_, ((t493 != false)), (by first | rfl | (simp; done) | (simp [*]; done)), H', ⟨by have := HJ9.out; have := HK2.out; first | omega | exact Nat.le_refl _⟩, ⟨by (with_reducible repeat (first | apply Kd.N_alloc | apply Kd.N_drewN | apply Kd.N_drew)); exact HO_8.out⟩, ⟨by (with_reducible repeat (first | apply Kd.N_alloc | apply Kd.N_drewN | apply Kd.N_drew)); exact HO_116.out⟩, ⟨by repeat (first | (with_reducible exact HR492_0.out) | (with_reducible refine Kd.C_alloc ?_ _) | (with_reducible refine Kd.C_drewN ?_ _) | (with_reducible refine Kd.C_drew ?_) | exact HR492_0.out)⟩, ⟨by repeat (first | (with_reducible first | exact HB.out | apply below_alloc | apply pw_below_drewN | apply below_drew1) | exact HB.out)⟩⟩
             ·replace c37 := Bool.eq_false_iff.mpr c37
              subst c37
              have H1 : (laws_FnRunsToSymmetric.j2 k2 l1 t475 t479 t487 t488 x118_2 (rd_L2 t479 x118_2) t479 (t479.length : Int) x118_2 true) = some r := by rw [if_neg (show ¬ (false = true) by decide)] at H; exact H
              clear H
              have H := H1
              clear H1
              exact (laws_FnRunsToSymmetric.j2_no HR_.out _ _ _ _ _ _ _ _ _ _ _ H).elim
            case rest =>
             as_aux_lemma =>
             clear HC35
             try clear c1
             try clear c2
             try clear p2
             try clear c3
             try clear c4
             try clear p4
             try clear q4
             try clear hx4
             try clear c6
             try clear c9
             try clear c10
             try clear c15
             try clear c17
             try clear c17b0
             try clear c17b1
             try clear c17b2
             try clear c19
             try clear c20
             try clear c20b0
             try clear c20b1
             try clear c20b2
             try clear c21
             try clear c21b0
             try clear c21b1
             try clear c22
             try clear c27
             try clear c29
             try clear c31
             try clear c31b0
             try clear c32
             try clear c32b0
             try clear c33
             try clear c33b0
             try clear c37
             try clear c38
             try clear hx492_0
             try clear p2
             try clear p492
             try clear q492
             obtain ⟨kq, x140_34, rfl, HA, HJ34, HO_8, HO_116, HR492_0, HB⟩ := hcut
             cases kq with
             | zero => exact absurd HA.out (by simp [laws_FnRunsToSymmetric.j2])
             | succ kj34 =>
              have H := HA.out
              clear HA
              simp only [laws_FnRunsToSymmetric.j2] at H
              by_cases c39 : x140_34 = true
              ·subst c39
               have H1 : (some false) = some r := by rw [if_pos rfl] at H; exact H
               clear H
               have H := H1
               clear H1
               exact absurd (Option.some.inj H) (by rw [HR_.out]; decide)
              ·replace c39 := Bool.eq_false_iff.mpr c39
               subst c39
               have H1 : (if (wrap64 (x118_2 + 1)) < (t479.length : Int) then ((impl_AddReversed.f kj34 (rd_L2 t479 x118_2) t475).bind fun bt495 => (if bt495.2 = true then (if 0 ≤ (wrap64 (x118_2 + 1)) then ((laws_qSame.f kj34 bt495.1 (rd_L2 t479 (wrap64 (x118_2 + 1)))).bind fun t500 => (if t500 = true then (laws_FnRunsToSymmetric.l0 kj34 l1 t475 t479 t487 t488 t479 (t479.length : Int) (wrap64 (x118_2 + 1))) else (some false))) else (none)) else (some false))) else (laws_FnRunsToSymmetric.l0 kj34 l1 t475 t479 t487 t488 t479 (t479.length : Int) (wrap64 (x118_2 + 1)))) = some r := by rw [if_neg (show ¬ (false = true) by decide)] at H; exact H
               clear H
               have H := H1
               clear H1
               by_cases c40 : (wrap64 (x118_2 + 1)) < (t479.length : Int)
               ·rw [if_pos c40] at H
                have c40b0 : decide ((wrap64 (x118_2 + 1)) < (t479.length : Int)) = true := decide_eq_true c40
                clear c40
                replace H := Option.bind_eq_some_iff.mp H
                obtain ⟨⟨t495, t496⟩, A410, H⟩ := H
                replace H : (if t496 = true then (if 0 ≤ (wrap64 (x118_2 + 1)) then ((laws_qSame.f kj34 t495 (rd_L2 t479 (wrap64 (x118_2 + 1)))).bind fun t500 => (if t500 = true then (laws_FnRunsToSymmetric.l0 kj34 l1 t475 t479 t487 t488 t479 (t479.length : Int) (wrap64 (x118_2 + 1))) else (some false))) else (none)) else (some false)) = some r := H
                have A41 := Aside0.mk A410
                clear A410
                by_cases c42 : t496 = true
                ·subst c42
                 have H1 : (if 0 ≤ (wrap64 (x118_2 + 1)) then ((laws_qSame.f kj34 t495 (rd_L2 t479 (wrap64 (x118_2 + 1)))).bind fun t500 => (if t500 = true then (laws_FnRunsToSymmetric.l0 kj34 l1 t475 t479 t487 t488 t479 (t479.length : Int) (wrap64 (x118_2 + 1))) else (some false))) else (none)) = some r := by rw [if_pos rfl] at H; exact H
                 clear H
                 have H := H1
                 clear H1
                 obtain ⟨ji43, hji43⟩ : ∃ j_ : Int, (wrap64 (x118_2 + 1)) = j_ := ⟨_, rfl⟩
                 replace H : (if 0 ≤ (ji43) then ((laws_qSame.f kj34 t495 (rd_L2 t479 (ji43))).bind fun t500 => (if t500 = true then (laws_FnRunsToSymmetric.l0 kj34 l1 t475 t479 t487 t488 t479 (t479.length : Int) ji43) else (some false))) else (none)) = some r := by first | (rw [hji43] at H; exact H) | (simp only [hji43] at H ⊢; exact H)
                 (try rw [hji43] at c40b0)
                 (try rw [hji43] at A41)
                 have hji43w : (IntKind.i64.wrap (x118_2 + 1)) = ji43 := (i64_w _).trans hji43
                 by_cases c44 : 0 ≤ (ji43)
                 ·rw [if_pos c44] at H
                  have c44b0 : decide (0 ≤ (ji43)) = true := decide_eq_true c44
                  clear c44
                  replace H := Option.bind_eq_some_iff.mp H
                  obtain ⟨t500, A450, H⟩ := H
                  replace H : (if t500 = true then (laws_FnRunsToSymmetric.l0 kj34 l1 t475 t479 t487 t488 t479 (t479.length : Int) ji43) else (some false)) = some r := H
                  have A45 := Aside0.mk A450
                  clear A450
                  by_cases c46 : t500 = true
                  ·subst c46
                   have H1 : (laws_FnRunsToSymmetric.l0 kj34 l1 t475 t479 t487 t488 t479 (t479.length : Int) ji43) = some r := by rw [if_pos rfl] at H; exact H
                   clear H
                   have H := H1
                   clear H1
                   as_aux_lemma =>
                    have H' := Aside0.mk H
                    clear H
                    go_wp2_with (first | ((with_reducible refine gate_callee (f := 57) rfl ?_); refine goesL_ (some 149) rfl rfl Try.func57 (by kernel_rfl) rfl #[.slice A492_0 (rd_L2 t479 x118_2).length c492_0, .int .i64 t475] rfl (by (try simp only [List.map_toArray, List.map_cons, List.map_nil]); first | done | rfl | (simp only [List.length_drop, List.length_take]; rfl)) ?_; (with_reducible refine (impl_AddReversed.calls kj34 _ _ (rd_L2 t479 x118_2) t475 t495 true _ ?side1 ?side2 A41.out).mono ?_); (case side1 => repeat (first | exact (by repeat (first | (with_reducible exact HR492_0.out) | (with_reducible refine Kd.C_alloc ?_ _) | (with_reducible refine Kd.C_drewN ?_ _) | (with_reducible refine Kd.C_drew ?_) | exact HR492_0.out)) | (with_reducible refine Kd.C_alloc ?_ _) | (with_reducible refine Kd.C_drewN ?_ _) | (with_reducible refine Kd.C_drew ?_))); (case side2 => exact HC492_0.out); rintro e w47 ⟨v497, rfl, ho0, hb⟩; refine ⟨_, rfl, ?_⟩; have n0_ := Aside0.mk (Kd.N_elder' (by (with_reducible repeat (first | apply Kd.N_alloc | apply Kd.N_drewN | apply Kd.N_drew)); exact HO_8.out) (Kd.R_base ho0) hb); have n1_ := Aside0.mk (Kd.N_elder' (by (with_reducible repeat (first | apply Kd.N_alloc | apply Kd.N_drewN | apply Kd.N_drew)); exact HO_116.out) (Kd.R_base ho0) hb); have n2_ := Aside0.mk (Kd.R_lower ho0 (below_size (by repeat (first | (with_reducible first | exact HB.out | apply below_alloc | apply pw_below_drewN | apply below_drew1) | exact HB.out)))); have n3_ := Aside0.mk (Kd.C_below (by repeat (first | (with_reducible exact HR492_0.out) | (with_reducible refine Kd.C_alloc ?_ _) | (with_reducible refine Kd.C_drewN ?_ _) | (with_reducible refine Kd.C_drew ?_) | exact HR492_0.out)) hb); have n4_ := Aside0.mk (below_step (by repeat (first | (with_reducible first | exact HB.out | apply below_alloc | apply pw_below_drewN | apply below_drew1) | exact HB.out)) hb); clear HO_8; clear HO_116; clear HR492_0; clear HB; have HO_8 := n0_; have HO_116 := n1_; have HO498 := n2_; have HR492_0 := n3_; have HB := n4_; clear n0_ n1_ n2_ n3_ n4_; (try clear hb); (try clear hb2); (try clear hk); (try clear hi); (try clear ho0); have p499 : 0 ≤ ((ji43) : Int) := of_decide_eq_true (by first | (with_reducible assumption) | assumption); have q499 : (ji43) < (t479.length : Int) := of_decide_eq_true (by first | (with_reducible assumption) | assumption); obtain ⟨ad499, A499_0, c499_0, e499, hx499_0, hl499_0, hi499_0⟩ := at_L2 (Kd.N_reads' HO_8.out).2.2 (ji43) p499 q499; obtain rfl : ad492 = ad499 := (by injection e499); obtain ⟨ce499, hce499, hMe499, hcc499⟩ := Kd.N_get HO_8.out [] (ji43) p499 (by first | exact q499 | exact of_decide_eq_true (by first | (with_reducible assumption) | assumption) | (have e_ := (Kd.N_reads' HO_8.out).1; omega)); obtain ⟨ua499_0, uc499_0, rfl, ul499_0, ge499_0⟩ := Kd.FK_slice_open hMe499; have hv499_0 := hcc499 0 _ rfl; rw [Nat.add_zero, show ((Kd.slice 3 (Kd.int .i64))).sz = 1 from rfl, Nat.mul_one] at hv499_0; replace hv499_0 := Option.some.inj (hv499_0.symm.trans hx499_0); injection hv499_0 with hva_ hvn_ hvc_; rw [hva_] at ge499_0; rw [hvc_] at ul499_0; have HL499_0 := Aside0.mk (show Kd.V (Kd.int .i64) 3 _ w.heap.size _ _ (rd_L2 t479 (ji43)) from Kd.V_mk ul499_0 ge499_0); clear hva_ hvn_ hvc_ ge499_0 ul499_0; clear hcc499 hce499; have HR499_0 := Aside0.mk hi499_0; have HC499_0 := Aside0.mk hl499_0; clear hi499_0 hl499_0; replace p499 := eq_true p499; replace q499 := eq_true q499; obtain ⟨Ao48, co48, eo48⟩ := Kd.R_slice HO498.out; subst eo48) | (go_at_call 34; (with_reducible refine (laws_qSame.calls kj34 _ _ t495 _ _ (rd_L2 t479 (ji43)) true _ ?side1 ?side2 ?side3 ?side4 A45.out).mono ?_); (case side1 => repeat (first | exact (Kd.R_reads' HO498.out).2.2 | (with_reducible refine Kd.C_alloc ?_ _) | (with_reducible refine Kd.C_drewN ?_ _) | (with_reducible refine Kd.C_drew ?_))); (case side2 => exact (Kd.R_reads' HO498.out).2.1); (case side3 => repeat (first | exact (by repeat (first | (with_reducible exact HR499_0.out) | (with_reducible refine Kd.C_alloc ?_ _) | (with_reducible refine Kd.C_drewN ?_ _) | (with_reducible refine Kd.C_drew ?_) | exact HR499_0.out)) | (with_reducible refine Kd.C_alloc ?_ _) | (with_reducible refine Kd.C_drewN ?_ _) | (with_reducible refine Kd.C_drew ?_))); (case side4 => exact HC499_0.out); rintro e w' ⟨rfl, ⟨nd, rfl⟩⟩))
                    go_roundg kj34
                    case measure => have := HJ9.out; have := HK2.out; have := HJ34.out; omega
                    case rel => exact ⟨(ji43), (by first | rfl | (simp; done) | (simp only [← hji43] <;> (first | rfl | simp)) | (simp [*]; done)), H', ⟨by have := HJ9.out; have := HK2.out; have := HJ34.out; omega⟩, ⟨by (with_reducible repeat (first | apply Kd.N_alloc | apply Kd.N_drewN | apply Kd.N_drew)); exact Kd.N_mono HO_8.out (fun _ hk => trivial)⟩, ⟨by (with_reducible repeat (first | apply Kd.N_alloc | apply Kd.N_drewN | apply Kd.N_drew)); exact Kd.N_mono HO_116.out (fun _ hk => trivial)⟩, ⟨by repeat (first | (with_reducible first | exact HB.out | apply below_alloc | apply pw_below_drewN | apply below_drew1) | exact HB.out)⟩⟩
                  ·replace c46 := Bool.eq_false_iff.mpr c46
                   subst c46
                   have H1 : (some false) = some r := by rw [if_neg (show ¬ (false = true) by decide)] at H; exact H
                   clear H
                   have H := H1
                   clear H1
                   exact absurd (Option.some.inj H) (by rw [HR_.out]; decide)
                 ·rw [if_neg c44] at H
                  exact absurd H (by simp)
                ·replace c42 := Bool.eq_false_iff.mpr c42
                 subst c42
                 have H1 : (some false) = some r := by rw [if_neg (show ¬ (false = true) by decide)] at H; exact H
                 clear H
                 have H := H1
                 clear H1
                 exact absurd (Option.some.inj H) (by rw [HR_.out]; decide)
               ·rw [if_neg c40] at H
                have c40b0 : decide ((wrap64 (x118_2 + 1)) < (t479.length : Int)) = false := decide_eq_false c40
                clear c40
                as_aux_lemma =>
                 have H' := Aside0.mk H
                 clear H
                 go_wp2
                 go_roundg kj34
                 case measure => have := HJ9.out; have := HK2.out; have := HJ34.out; omega
                 case rel => exact ⟨(wrap64 (x118_2 + 1)), (by first | rfl | (simp; done) | (simp [*]; done)), H', ⟨by have := HJ9.out; have := HK2.out; have := HJ34.out; omega⟩, ⟨by (with_reducible repeat (first | apply Kd.N_alloc | apply Kd.N_drewN | apply Kd.N_drew)); exact HO_8.out⟩, ⟨by (with_reducible repeat (first | apply Kd.N_alloc | apply Kd.N_drewN | apply Kd.N_drew)); exact HO_116.out⟩, ⟨by repeat (first | (with_reducible first | exact HB.out | apply below_alloc | apply pw_below_drewN | apply below_drew1) | exact HB.out)⟩⟩
           ·rw [if_neg c33] at H
            exact absurd H (by simp)
          ·rw [if_neg c32] at H
           exact absurd H (by simp)
         ·rw [if_neg c31] at H
          have c31b0 : decide (x118_2 < (t479.length : Int)) = false := decide_eq_false c31
          clear c31
          (first | rw [c31b0] | (simp only [i64_w, i32_w]; rw [c31b0]) | skip)
          by_cases c49 : t488 = true
          ·subst c49
           have H1 : (if (t479.length : Int) = (wrap64 (t487 + 1)) then (laws_FnRunsToSymmetric.j3 k2 l1) else (some false)) = some r := by rw [if_pos rfl] at H; exact H
           clear H
           have H := H1
           clear H1
           by_cases c50 : (t479.length : Int) = (wrap64 (t487 + 1))
           ·rw [if_pos c50] at H
            have c50b0 : ((t479.length : Int) == (wrap64 (t487 + 1))) = true := beq_iff_eq.mpr c50
            have c50b1 : ((t479.length : Int) != (wrap64 (t487 + 1))) = false := bne_eq_false_iff_eq.mpr c50
            clear c50
            as_aux_lemma =>
             have H' := Aside0.mk H
             clear H
             go_wp2
             go_meet
             case rel => exact ⟨_, H', ⟨by have := HJ9.out; have := HK2.out; first | omega | exact Nat.le_refl _⟩, ⟨by repeat (first | (with_reducible first | exact HB.out | apply below_alloc | apply pw_below_drewN | apply below_drew1) | exact HB.out)⟩⟩
           ·rw [if_neg c50] at H
            have c50b0 : ((t479.length : Int) == (wrap64 (t487 + 1))) = false := beq_eq_false_iff_ne.mpr c50
            have c50b1 : ((t479.length : Int) != (wrap64 (t487 + 1))) = true := bne_iff_ne.mpr c50
            exact absurd (Option.some.inj H) (by rw [HR_.out]; decide)
          ·replace c49 := Bool.eq_false_iff.mpr c49
           subst c49
           have H1 : (laws_FnRunsToSymmetric.j3 k2 l1) = some r := by rw [if_neg (show ¬ (false = true) by decide)] at H; exact H
           clear H
           have H := H1
           clear H1
           as_aux_lemma =>
            have H' := Aside0.mk H
            clear H
            go_wp2
            go_meet
            case rel => exact ⟨_, H', ⟨by have := HJ9.out; have := HK2.out; first | omega | exact Nat.le_refl _⟩, ⟨by repeat (first | (with_reducible first | exact HB.out | apply below_alloc | apply pw_below_drewN | apply below_drew1) | exact HB.out)⟩⟩
      ·replace c29 := Bool.eq_false_iff.mpr c29
       subst c29
       have H1 : (laws_FnRunsToSymmetric.j3 kj9 l1) = some r := by rw [if_neg (show ¬ (false = true) by decide)] at H; exact H
       clear H
       have H := H1
       clear H1
       as_aux_lemma =>
        have H' := Aside0.mk H
        clear H
        go_wp2
        go_meet
        case rel => exact ⟨_, H', ⟨by have := HJ9.out; first | omega | exact Nat.le_refl _⟩, ⟨by repeat (first | (with_reducible first | exact HB.out | apply below_alloc | apply pw_below_drewN | apply below_drew1) | exact HB.out)⟩⟩
     case rest =>
      as_aux_lemma =>
      clear HC28
      try clear c1
      try clear c2
      try clear p2
      try clear c3
      try clear c4
      try clear p4
      try clear q4
      try clear hx4
      try clear c5
      try clear c6
      try clear p6
      try clear c9
      try clear c10
      try clear c15
      try clear c17
      try clear c17b0
      try clear c17b1
      try clear c17b2
      try clear c19
      try clear c20
      try clear c20b0
      try clear c20b1
      try clear c20b2
      try clear c21
      try clear c21b0
      try clear c21b1
      try clear c22
      try clear c27
      try clear c29
      try clear c31
      try clear c31b0
      try clear c32
      try clear c32b0
      try clear c33
      try clear c33b0
      try clear c37
      try clear c38
      try clear c39
      try clear c40
      try clear c40b0
      try clear c42
      try clear c44
      try clear c44b0
      try clear c46
      try clear c49
      try clear p49
      try clear q49
      try clear hx49
      try clear c50
      try clear c50b0
      try clear c50b1
      try clear hx492_0
      try clear hx499_0
      try clear p2
      try clear p4
      try clear p492
      try clear p499
      try clear q4
      try clear q492
      try clear q499
      obtain ⟨kq, HA, HJ27, HB⟩ := hcut
      cases kq with
      | zero => exact absurd HA.out (by simp [laws_FnRunsToSymmetric.j3])
      | succ kj27 =>
       have H := HA.out
       clear HA
       simp only [laws_FnRunsToSymmetric.j3] at H
       replace H := Option.bind_eq_some_iff.mp H
       obtain ⟨⟨t501, t502, t503⟩, A510, H⟩ := H
       replace H : ((impl_StepsSpread.f kj27 t501 t502 t503).bind fun bt504 => ((spec_StepsSpread.f kj27 t501 t502 t503).bind fun bt508 => ((impl_SlowestNumber.f kj27 t501 t502 t503).bind fun bt512 => ((spec_SlowestNumber.f kj27 t501 t502 t503).bind fun bt515 => (if (bt504.2 != bt508.2) = true then (laws_FnRunsToSymmetric.j4 kj27 l1 t501 t502 t503 bt504.1 bt504.2 bt512.2.1 bt512.2.2 true) else ((laws_qSame.f kj27 bt504.1 bt508.1).bind fun t518 => (if t518 = true then (if (bt512.2.2 != bt515.2.2) = true then (laws_FnRunsToSymmetric.j4 kj27 l1 t501 t502 t503 bt504.1 bt504.2 bt512.2.1 bt512.2.2 true) else (if bt512.1 = bt515.1 then (if bt512.2.1 = bt515.2.1 then (if bt512.2.2 = true then (laws_FnRunsToSymmetric.j4 kj27 l1 t501 t502 t503 bt504.1 bt504.2 bt512.2.1 bt512.2.2 (!bt504.2)) else (laws_FnRunsToSymmetric.j4 kj27 l1 t501 t502 t503 bt504.1 bt504.2 bt512.2.1 bt512.2.2 false)) else (laws_FnRunsToSymmetric.j4 kj27 l1 t501 t502 t503 bt504.1 bt504.2 bt512.2.1 bt512.2.2 true)) else (laws_FnRunsToSymmetric.j4 kj27 l1 t501 t502 t503 bt504.1 bt504.2 bt512.2.1 bt512.2.2 true))) else (laws_FnRunsToSymmetric.j4 kj27 l1 t501 t502 t503 bt504.1 bt504.2 bt512.2.1 bt512.2.2 true)))))))) = some r := H
       have A51 := Aside0.mk A510
       clear A510
       replace H := Option.bind_eq_some_iff.mp H
       obtain ⟨⟨t504, t505⟩, A520, H⟩ := H
       replace H : ((spec_StepsSpread.f kj27 t501 t502 t503).bind fun bt508 => ((impl_SlowestNumber.f kj27 t501 t502 t503).bind fun bt512 => ((spec_SlowestNumber.f kj27 t501 t502 t503).bind fun bt515 => (if (t505 != bt508.2) = true then (laws_FnRunsToSymmetric.j4 kj27 l1 t501 t502 t503 t504 t505 bt512.2.1 bt512.2.2 true) else ((laws_qSame.f kj27 t504 bt508.1).bind fun t518 => (if t518 = true then (if (bt512.2.2 != bt515.2.2) = true then (laws_FnRunsToSymmetric.j4 kj27 l1 t501 t502 t503 t504 t505 bt512.2.1 bt512.2.2 true) else (if bt512.1 = bt515.1 then (if bt512.2.1 = bt515.2.1 then (if bt512.2.2 = true then (laws_FnRunsToSymmetric.j4 kj27 l1 t501 t502 t503 t504 t505 bt512.2.1 bt512.2.2 (!t505)) else (laws_FnRunsToSymmetric.j4 kj27 l1 t501 t502 t503 t504 t505 bt512.2.1 bt512.2.2 false)) else (laws_FnRunsToSymmetric.j4 kj27 l1 t501 t502 t503 t504 t505 bt512.2.1 bt512.2.2 true)) else (laws_FnRunsToSymmetric.j4 kj27 l1 t501 t502 t503 t504 t505 bt512.2.1 bt512.2.2 true))) else (laws_FnRunsToSymmetric.j4 kj27 l1 t501 t502 t503 t504 t505 bt512.2.1 bt512.2.2 true))))))) = some r := H
       have A52 := Aside0.mk A520
       clear A520
       replace H := Option.bind_eq_some_iff.mp H
       obtain ⟨⟨t508, t509⟩, A530, H⟩ := H
       replace H : ((impl_SlowestNumber.f kj27 t501 t502 t503).bind fun bt512 => ((spec_SlowestNumber.f kj27 t501 t502 t503).bind fun bt515 => (if (t505 != t509) = true then (laws_FnRunsToSymmetric.j4 kj27 l1 t501 t502 t503 t504 t505 bt512.2.1 bt512.2.2 true) else ((laws_qSame.f kj27 t504 t508).bind fun t518 => (if t518 = true then (if (bt512.2.2 != bt515.2.2) = true then (laws_FnRunsToSymmetric.j4 kj27 l1 t501 t502 t503 t504 t505 bt512.2.1 bt512.2.2 true) else (if bt512.1 = bt515.1 then (if bt512.2.1 = bt515.2.1 then (if bt512.2.2 = true then (laws_FnRunsToSymmetric.j4 kj27 l1 t501 t502 t503 t504 t505 bt512.2.1 bt512.2.2 (!t505)) else (laws_FnRunsToSymmetric.j4 kj27 l1 t501 t502 t503 t504 t505 bt512.2.1 bt512.2.2 false)) else (laws_FnRunsToSymmetric.j4 kj27 l1 t501 t502 t503 t504 t505 bt512.2.1 bt512.2.2 true)) else (laws_FnRunsToSymmetric.j4 kj27 l1 t501 t502 t503 t504 t505 bt512.2.1 bt512.2.2 true))) else (laws_FnRunsToSymmetric.j4 kj27 l1 t501 t502 t503 t504 t505 bt512.2.1 bt512.2.2 true)))))) = some r := H
       have A53 := Aside0.mk A530
       clear A530
       replace H := Option.bind_eq_some_iff.mp H
       obtain ⟨⟨t512, t513, t514⟩, A540, H⟩ := H
       replace H : ((spec_SlowestNumber.f kj27 t501 t502 t503).bind fun bt515 => (if (t505 != t509) = true then (laws_FnRunsToSymmetric.j4 kj27 l1 t501 t502 t503 t504 t505 t513 t514 true) else ((laws_qSame.f kj27 t504 t508).bind fun t518 => (if t518 = true then (if (t514 != bt515.2.2) = true then (laws_FnRunsToSymmetric.j4 kj27 l1 t501 t502 t503 t504 t505 t513 t514 true) else (if t512 = bt515.1 then (if t513 = bt515.2.1 then (if t514 = true then (laws_FnRunsToSymmetric.j4 kj27 l1 t501 t502 t503 t504 t505 t513 t514 (!t505)) else (laws_FnRunsToSymmetric.j4 kj27 l1 t501 t502 t503 t504 t505 t513 t514 false)) else (laws_FnRunsToSymmetric.j4 kj27 l1 t501 t502 t503 t504 t505 t513 t514 true)) else (laws_FnRunsToSymmetric.j4 kj27 l1 t501 t502 t503 t504 t505 t513 t514 true))) else (laws_FnRunsToSymmetric.j4 kj27 l1 t501 t502 t503 t504 t505 t513 t514 true))))) = some r := H
       have A54 := Aside0.mk A540
       clear A540
       replace H := Option.bind_eq_some_iff.mp H
       obtain ⟨⟨t515, t516, t517⟩, A550, H⟩ := H
       replace H : (if (t505 != t509) = true then (laws_FnRunsToSymmetric.j4 kj27 l1 t501 t502 t503 t504 t505 t513 t514 true) else ((laws_qSame.f kj27 t504 t508).bind fun t518 => (if t518 = true then (if (t514 != t517) = true then (laws_FnRunsToSymmetric.j4 kj27 l1 t501 t502 t503 t504 t505 t513 t514 true) else (if t512 = t515 then (if t513 = t516 then (if t514 = true then (laws_FnRunsToSymmetric.j4 kj27 l1 t501 t502 t503 t504 t505 t513 t514 (!t505)) else (laws_FnRunsToSymmetric.j4 kj27 l1 t501 t502 t503 t504 t505 t513 t514 false)) else (laws_FnRunsToSymmetric.j4 kj27 l1 t501 t502 t503 t504 t505 t513 t514 true)) else (laws_FnRunsToSymmetric.j4 kj27 l1 t501 t502 t503 t504 t505 t513 t514 true))) else (laws_FnRunsToSymmetric.j4 kj27 l1 t501 t502 t503 t504 t505 t513 t514 true)))) = some r := H
       have A55 := Aside0.mk A550
       clear A550
       have HC56 := Aside0.mk H
       clear H
       go_upto_region 29 with (first | ((with_reducible refine gate_callee (f := 105) rfl ?_); refine goesL_ (some 175) rfl rfl Try.func105 (by kernel_rfl) rfl #[.slice A1 l1.length c1] rfl (by (try simp only [List.map_toArray, List.map_cons, List.map_nil]); first | done | rfl | (simp only [List.length_drop, List.length_take]; rfl)) ?_; (with_reducible refine (spec_DrawStepsSpread.calls kj27 _ _ l1 t501 t502 t503 _ ?side1 ?side2 A51.out).mono ?_); (case side1 => repeat (first | exact (Kd.C_below HR1.out HB.out) | (with_reducible refine Kd.C_alloc ?_ _) | (with_reducible refine Kd.C_drewN ?_ _) | (with_reducible refine Kd.C_drew ?_))); (case side2 => exact HC1.out); rintro e w57 ⟨rfl, hb⟩; refine ⟨_, rfl, ?_⟩; have n0_ := Aside0.mk (below_step (by repeat (first | (with_reducible first | exact HB.out | apply below_alloc | apply pw_below_drewN | apply below_drew1) | exact HB.out)) hb); clear HB; have HB := n0_; clear n0_; (try clear hb); (try clear hb2); (try clear hk); (try clear hi)) | ((with_reducible refine gate_callee (f := 106) rfl ?_); refine goesL_ (some 183) rfl rfl Try.func106 (by kernel_rfl) rfl #[.int .i64 t501, .int .i64 t502, .int .i64 t503] rfl (by (try simp only [List.map_toArray, List.map_cons, List.map_nil]); first | done | rfl | (simp only [List.length_drop, List.length_take]; rfl)) ?_; (with_reducible refine (impl_StepsSpread.calls kj27 t501 t502 t503 t504 t505 _ A52.out).mono ?_); rintro e w58 ⟨v506, rfl, ho0, hb⟩; refine ⟨_, rfl, ?_⟩; have n0_ := Aside0.mk (Kd.R_lower ho0 (below_size (by repeat (first | (with_reducible first | exact HB.out | apply below_alloc | apply pw_below_drewN | apply below_drew1) | exact HB.out)))); have n1_ := Aside0.mk (below_step (by repeat (first | (with_reducible first | exact HB.out | apply below_alloc | apply pw_below_drewN | apply below_drew1) | exact HB.out)) hb); clear HB; have HO507 := n0_; have HB := n1_; clear n0_ n1_; (try clear hb); (try clear hb2); (try clear hk); (try clear hi); (try clear ho0)) | ((with_reducible refine gate_callee (f := 107) rfl ?_); refine goesL_ (some 190) rfl rfl Try.func107 (by kernel_rfl) rfl #[.int .i64 t501, .int .i64 t502, .int .i64 t503] rfl (by (try simp only [List.map_toArray, List.map_cons, List.map_nil]); first | done | rfl | (simp only [List.length_drop, List.length_take]; rfl)) ?_; (with_reducible refine (spec_StepsSpread.calls kj27 t501 t502 t503 t508 t509 _ A53.out).mono ?_); rintro e w59 ⟨v510, rfl, ho0, hb⟩; refine ⟨_, rfl, ?_⟩; have n0_ := Aside0.mk (Kd.R_elder' (by (with_reducible repeat (first | apply Kd.R_alloc | apply Kd.R_drewN | apply Kd.R_drew)); exact HO507.out) (Kd.R_base ho0) hb); have n1_ := Aside0.mk (Kd.R_lower (Kd.R_new' ho0 (Kd.R_lt (by (with_reducible repeat (first | apply Kd.R_alloc | apply Kd.R_drewN | apply Kd.R_drew)); exact HO507.out))) (below_size (by repeat (first | (with_reducible first | exact HB.out | apply below_alloc | apply pw_below_drewN | apply below_drew1) | exact HB.out)))); have n2_ := Aside0.mk (below_step (by repeat (first | (with_reducible first | exact HB.out | apply below_alloc | apply pw_below_drewN | apply below_drew1) | exact HB.out)) hb); clear HO507; clear HB; have HO507 := n0_; have HO511 := n1_; have HB := n2_; clear n0_ n1_ n2_; (try clear hb); (try clear hb2); (try clear hk); (try clear hi); (try clear ho0)) | ((with_reducible refine gate_callee (f := 108) rfl ?_); refine goesL_ (some 197) rfl rfl Try.func108 (by kernel_rfl) rfl #[.int .i64 t501, .int .i64 t502, .int .i64 t503] rfl (by (try simp only [List.map_toArray, List.map_cons, List.map_nil]); first | done | rfl | (simp only [List.length_drop, List.length_take]; rfl)) ?_; (with_reducible refine (impl_SlowestNumber.calls kj27 t501 t502 t503 t512 t513 t514 _ A54.out).mono ?_); rintro e w60 ⟨rfl, hb⟩; refine ⟨_, rfl, ?_⟩; have n0_ := Aside0.mk (Kd.R_below (by (with_reducible repeat (first | apply Kd.R_alloc | apply Kd.R_drewN | apply Kd.R_drew)); exact HO507.out) hb); have n1_ := Aside0.mk (Kd.R_below (by (with_reducible repeat (first | apply Kd.R_alloc | apply Kd.R_drewN | apply Kd.R_drew)); exact HO511.out) hb); have n2_ := Aside0.mk (below_step (by repeat (first | (with_reducible first | exact HB.out | apply below_alloc | apply pw_below_drewN | apply below_drew1) | exact HB.out)) hb); clear HO507; clear HO511; clear HB; have HO507 := n0_; have HO511 := n1_; have HB := n2_; clear n0_ n1_ n2_; (try clear hb); (try clear hb2); (try clear hk); (try clear hi)) | ((with_reducible refine gate_callee (f := 109) rfl ?_); refine goesL_ (some 205) rfl rfl Try.func109 (by kernel_rfl) rfl #[.int .i64 t501, .int .i64 t502, .int .i64 t503] rfl (by (try simp only [List.map_toArray, List.map_cons, List.map_nil]); first | done | rfl | (simp only [List.length_drop, List.length_take]; rfl)) ?_; (with_reducible refine (spec_SlowestNumber.calls kj27 t501 t502 t503 t515 t516 t517 _ A55.out).mono ?_); rintro e w61 ⟨rfl, hb⟩; refine ⟨_, rfl, ?_⟩; have n0_ := Aside0.mk (Kd.R_below (by (with_reducible repeat (first | apply Kd.R_alloc | apply Kd.R_drewN | apply Kd.R_drew)); exact HO507.out) hb); have n1_ := Aside0.mk (Kd.R_below (by (with_reducible repeat (first | apply Kd.R_alloc | apply Kd.R_drewN | apply Kd.R_drew)); exact HO511.out) hb); have n2_ := Aside0.mk (below_step (by repeat (first | (with_reducible first | exact HB.out | apply below_alloc | apply pw_below_drewN | apply below_drew1) | exact HB.out)) hb); clear HO507; clear HO511; clear HB; have HO507 := n0_; have HO511 := n1_; have HB := n2_; clear n0_ n1_ n2_; (try clear hb); (try clear hb2); (try clear hk); (try clear hi)))
       (try simp only [Act.put, List.setIfInBounds_toArray, List.set_cons_zero, List.set_cons_succ])
       go_cut [239] (fun v239 wc => ∃ (kq : Nat) (x239_55 : Bool), v239 = .bool x239_55 ∧ Aside0 (laws_FnRunsToSymmetric.j4 kq l1 t501 t502 t503 t504 t505 t513 t514 x239_55 = some r) ∧ Aside0 (kq ≤ kj27) ∧ Aside0 (Kd.R (Kd.int .i64) 3 wc w.heap.size (fun _ => True) v506 t504) ∧ Aside0 (Below w.heap.size w wc))
       case first =>
        as_aux_lemma =>
        have H := HC56.out
        clear HC56
        by_cases c62 : (t505 != t509) = true
        ·rw [if_pos c62] at H
         have c62b0 : (t505 != t509) = true := c62
         (try (have c62b1 : decide (t505 = t509) = false := by simpa using c62))
         (try (have c62b2 : (t505 == t509) = false := by simpa using c62))
         (try (have c62b3 : ¬ (t505 = t509) := by simpa using c62))
         clear c62
         (first | rw [c62b0] | (simp only [i64_w, i32_w]; rw [c62b0]) | skip)
         exact (laws_FnRunsToSymmetric.j4_no HR_.out _ _ _ _ _ _ _ _ _ H).elim
        ·rw [if_neg c62] at H
         have c62b0 : (t505 != t509) = false := by simpa using c62
         (try (have c62b1 : decide (t505 = t509) = true := by simpa using c62))
         (try (have c62b2 : (t505 == t509) = true := by simpa using c62))
         clear c62
         (first | rw [c62b0] | (simp only [i64_w, i32_w]; rw [c62b0]) | skip)
         replace H := Option.bind_eq_some_iff.mp H
         obtain ⟨t518, A630, H⟩ := H
         replace H : (if t518 = true then (if (t514 != t517) = true then (laws_FnRunsToSymmetric.j4 kj27 l1 t501 t502 t503 t504 t505 t513 t514 true) else (if t512 = t515 then (if t513 = t516 then (if t514 = true then (laws_FnRunsToSymmetric.j4 kj27 l1 t501 t502 t503 t504 t505 t513 t514 (!t505)) else (laws_FnRunsToSymmetric.j4 kj27 l1 t501 t502 t503 t504 t505 t513 t514 false)) else (laws_FnRunsToSymmetric.j4 kj27 l1 t501 t502 t503 t504 t505 t513 t514 true)) else (laws_FnRunsToSymmetric.j4 kj27 l1 t501 t502 t503 t504 t505 t513 t514 true))) else (laws_FnRunsToSymmetric.j4 kj27 l1 t501 t502 t503 t504 t505 t513 t514 true)) = some r := H
         have A63 := Aside0.mk A630
         clear A630
         by_cases c64 : t518 = true
         ·subst c64
          have H1 : (if (t514 != t517) = true then (laws_FnRunsToSymmetric.j4 kj27 l1 t501 t502 t503 t504 t505 t513 t514 true) else (if t512 = t515 then (if t513 = t516 then (if t514 = true then (laws_FnRunsToSymmetric.j4 kj27 l1 t501 t502 t503 t504 t505 t513 t514 (!t505)) else (laws_FnRunsToSymmetric.j4 kj27 l1 t501 t502 t503 t504 t505 t513 t514 false)) else (laws_FnRunsToSymmetric.j4 kj27 l1 t501 t502 t503 t504 t505 t513 t514 true)) else (laws_FnRunsToSymmetric.j4 kj27 l1 t501 t502 t503 t504 t505 t513 t514 true))) = some r := by rw [if_pos rfl] at H; exact H
          clear H
          have H := H1
          clear H1
          by_cases c65 : (t514 != t517) = true
          ·rw [if_pos c65] at H
           have c65b0 : (t514 != t517) = true := c65
           (try (have c65b1 : decide (t514 = t517) = false := by simpa using c65))
           (try (have c65b2 : (t514 == t517) = false := by simpa using c65))
           (try (have c65b3 : ¬ (t514 = t517) := by simpa using c65))
           clear c65
           exact (laws_FnRunsToSymmetric.j4_no HR_.out _ _ _ _ _ _ _ _ _ H).elim
          ·rw [if_neg c65] at H
           have c65b0 : (t514 != t517) = false := by simpa using c65
           (try (have c65b1 : decide (t514 = t517) = true := by simpa using c65))
           (try (have c65b2 : (t514 == t517) = true := by simpa using c65))
           clear c65
           by_cases c66 : t512 = t515
           ·rw [if_pos c66] at H
            have c66b0 : (t512 == t515) = true := beq_iff_eq.mpr c66
            have c66b1 : (t512 != t515) = false := bne_eq_false_iff_eq.mpr c66
            clear c66
            by_cases c67 : t513 = t516
            ·rw [if_pos c67] at H
             have c67b0 : (t513 == t516) = true := beq_iff_eq.mpr c67
             have c67b1 : (t513 != t516) = false := bne_eq_false_iff_eq.mpr c67
             clear c67
             by_cases c68 : t514 = true
             ·subst c68
              have H1 : (laws_FnRunsToSymmetric.j4 kj27 l1 t501 t502 t503 t504 t505 t513 true (!t505)) = some r := by rw [if_pos rfl] at H; exact H
              clear H
              have H := H1
              clear H1
              as_aux_lemma =>
               have H' := Aside0.mk H
               clear H
               obtain ⟨Ao69, co69, eo69⟩ := Kd.R_slice HO507.out
               subst eo69
               obtain ⟨Ao70, co70, eo70⟩ := Kd.R_slice HO511.out
               subst eo70
               go_wp2_with (first | (go_at_call 34; (with_reducible refine (laws_qSame.calls kj27 _ _ t504 _ _ t508 true _ ?side1 ?side2 ?side3 ?side4 A63.out).mono ?_); (case side1 => repeat (first | exact (Kd.R_reads' HO507.out).2.2 | (with_reducible refine Kd.C_alloc ?_ _) | (with_reducible refine Kd.C_drewN ?_ _) | (with_reducible refine Kd.C_drew ?_))); (case side2 => exact (Kd.R_reads' HO507.out).2.1); (case side3 => repeat (first | exact (Kd.R_reads' HO511.out).2.2 | (with_reducible refine Kd.C_alloc ?_ _) | (with_reducible refine Kd.C_drewN ?_ _) | (with_reducible refine Kd.C_drew ?_))); (case side4 => exact (Kd.R_reads' HO511.out).2.1); rintro e w' ⟨rfl, ⟨nd, rfl⟩⟩))
               go_meet
               case rel => exact ⟨_, (!t505), (by first | rfl | (simp; done) | (simp [*]; done)), H', ⟨by have := HJ9.out; have := HJ27.out; first | omega | exact Nat.le_refl _⟩, ⟨by (with_reducible repeat (first | apply Kd.R_alloc | apply Kd.R_drewN | apply Kd.R_drew)); exact Kd.R_mono HO507.out (fun _ hk => trivial)⟩, ⟨by repeat (first | (with_reducible first | exact HB.out | apply below_alloc | apply pw_below_drewN | apply below_drew1) | exact HB.out)⟩⟩
             ·replace c68 := Bool.eq_false_iff.mpr c68
              subst c68
              have H1 : (laws_FnRunsToSymmetric.j4 kj27 l1 t501 t502 t503 t504 t505 t513 false false) = some r := by rw [if_neg (show ¬ (false = true) by decide)] at H; exact H
              clear H
              have H := H1
              clear H1
              as_aux_lemma =>
               have H' := Aside0.mk H
               clear H
               obtain ⟨Ao71, co71, eo71⟩ := Kd.R_slice HO507.out
               subst eo71
               obtain ⟨Ao72, co72, eo72⟩ := Kd.R_slice HO511.out
               subst eo72
               go_wp2_with (first | (go_at_call 34; (with_reducible refine (laws_qSame.calls kj27 _ _ t504 _ _ t508 true _ ?side1 ?side2 ?side3 ?side4 A63.out).mono ?_); (case side1 => repeat (first | exact (Kd.R_reads' HO507.out).2.2 | (with_reducible refine Kd.C_alloc ?_ _) | (with_reducible refine Kd.C_drewN ?_ _) | (with_reducible refine Kd.C_drew ?_))); (case side2 => exact (Kd.R_reads' HO507.out).2.1); (case side3 => repeat (first | exact (Kd.R_reads' HO511.out).2.2 | (with_reducible refine Kd.C_alloc ?_ _) | (with_reducible refine Kd.C_drewN ?_ _) | (with_reducible refine Kd.C_drew ?_))); (case side4 => exact (Kd.R_reads' HO511.out).2.1); rintro e w' ⟨rfl, ⟨nd, rfl⟩⟩))
               go_meet
               case rel => exact ⟨_, (false), (by first | rfl | (simp; done) | (simp [*]; done)), H', ⟨by have := HJ9.out; have := HJ27.out; first | omega | exact Nat.le_refl _⟩, ⟨by (with_reducible repeat (first | apply Kd.R_alloc | apply Kd.R_drewN | apply Kd.R_drew)); exact Kd.R_mono HO507.out (fun _ hk => trivial)⟩, ⟨by repeat (first | (with_reducible first | exact HB.out | apply below_alloc | apply pw_below_drewN | apply below_drew1) | exact HB.out)⟩⟩
            ·rw [if_neg c67] at H
             have c67b0 : (t513 == t516) = false := beq_eq_false_iff_ne.mpr c67
             have c67b1 : (t513 != t516) = true := bne_iff_ne.mpr c67
             exact (laws_FnRunsToSymmetric.j4_no HR_.out _ _ _ _ _ _ _ _ _ H).elim
           ·rw [if_neg c66] at H
            have c66b0 : (t512 == t515) = false := beq_eq_false_iff_ne.mpr c66
            have c66b1 : (t512 != t515) = true := bne_iff_ne.mpr c66
            exact (laws_FnRunsToSymmetric.j4_no HR_.out _ _ _ _ _ _ _ _ _ H).elim
         ·replace c64 := Bool.eq_false_iff.mpr c64
          subst c64
          have H1 : (laws_FnRunsToSymmetric.j4 kj27 l1 t501 t502 t503 t504 t505 t513 t514 true) = some r := by rw [if_neg (show ¬ (false = true) by decide)] at H; exact H
          clear H
          have H := H1
          clear H1
          exact (laws_FnRunsToSymmetric.j4_no HR_.out _ _ _ _ _ _ _ _ _ H).elim
       case rest =>
        as_aux_lemma =>
        clear HC56
        try clear c1
        try clear c2
        try clear p2
        try clear c3
        try clear c4
        try clear p4
        try clear q4
        try clear hx4
        try clear c5
        try clear c6
        try clear p6
        try clear c9
        try clear c10
        try clear c15
        try clear c17
        try clear c17b0
        try clear c17b1
        try clear c17b2
        try clear c19
        try clear c20
        try clear c20b0
        try clear c20b1
        try clear c20b2
        try clear c21
        try clear c21b0
        try clear c21b1
        try clear c22
        try clear c27
        try clear c29
        try clear c31
        try clear c31b0
        try clear c32
        try clear c32b0
        try clear c33
        try clear c33b0
        try clear c37
        try clear c38
        try clear c39
        try clear c40
        try clear c40b0
        try clear c42
        try clear c44
        try clear c44b0
        try clear c46
        try clear c49
        try clear p49
        try clear q49
        try clear hx49
        try clear c50
        try clear c50b0
        try clear c50b1
        try clear c57
        try clear c62
        try clear c62b0
        try clear c62b1
        try clear c62b2
        try clear c64
        try clear p64
        try clear c65
        try clear c65b0
        try clear c65b1
        try clear c65b2
        try clear c66
        try clear c66b0
        try clear c66b1
        try clear c67
        try clear c67b0
        try clear c67b1
        try clear c68
        try clear hx492_0
        try clear hx499_0
        try clear p2
        try clear p4
        try clear p49
        try clear p492
        try clear p499
        try clear p6
        try clear q4
        try clear q49
        try clear q492
        try clear q499
        obtain ⟨kq, x239_55, rfl, HA, HJ55, HO_25, HB⟩ := hcut
        cases kq with
        | zero => exact absurd HA.out (by simp [laws_FnRunsToSymmetric.j4])
        | succ kj55 =>
         have H := HA.out
         clear HA
         simp only [laws_FnRunsToSymmetric.j4] at H
         by_cases c73 : x239_55 = true
         ·subst c73
          have H1 : (some false) = some r := by rw [if_pos rfl] at H; exact H
          clear H
          have H := H1
          clear H1
          exact absurd (Option.some.inj H) (by rw [HR_.out]; decide)
         ·replace c73 := Bool.eq_false_iff.mpr c73
          subst c73
          have H1 : (if t505 = true then (laws_FnRunsToSymmetric.l1 kj55 l1 t501 t502 t503 t504 t513 t514 (wrap64 (t502 - 1)) 1) else (laws_FnRunsToSymmetric.j7 kj55 l1)) = some r := by rw [if_neg (show ¬ (false = true) by decide)] at H; exact H
          clear H
          have H := H1
          clear H1
          have HC74 := Aside0.mk H
          clear H
          go_upto_if 240 with (fail)
          go_cut [] (fun wc => ∃ (kq : Nat), Aside0 (laws_FnRunsToSymmetric.j7 kq l1 = some r) ∧ Aside0 (kq ≤ kj55) ∧ Aside0 (Below w.heap.size w wc))
          case first =>
           as_aux_lemma =>
           have H := HC74.out
           clear HC74
           by_cases c75 : t505 = true
           ·subst c75
            have H1 : (laws_FnRunsToSymmetric.l1 kj55 l1 t501 t502 t503 t504 t513 t514 (wrap64 (t502 - 1)) 1) = some r := by rw [if_pos rfl] at H; exact H
            clear H
            have H := H1
            clear H1
            have H' := Aside0.mk H
            clear H
            go_wp2
            go_loopg [35, 36] kj55 (fun kq v35 v36 w' => ∃ (x35_4 : Int) (x36_4 : Int), v35 = .int .i64 x35_4 ∧ v36 = .int .i64 x36_4 ∧ Aside0 (laws_FnRunsToSymmetric.l1 kq l1 t501 t502 t503 t504 t513 t514 x35_4 x36_4 = some r) ∧ Aside0 (kq ≤ kj55) ∧ Aside0 (Kd.R (Kd.int .i64) 3 w' w.heap.size (fun _ => True) v506 t504) ∧ Aside0 (Below w.heap.size w w'))
            case atStart => exact ⟨(wrap64 (t502 - 1)), (1), (by first | rfl | (simp; done) | (simp [*]; done)), (by first | rfl | (simp; done) | (simp [*]; done)), H', ⟨Nat.le_refl _⟩, ⟨by (with_reducible repeat (first | apply Kd.R_alloc | apply Kd.R_drewN | apply Kd.R_drew)); exact HO_25.out⟩, ⟨by repeat (first | (with_reducible first | exact HB.out | apply below_alloc | apply pw_below_drewN | apply below_drew1) | exact HB.out)⟩⟩
            case round =>
             as_aux_lemma =>
             clear H'
             try clear c1
             try clear c2
             try clear p2
             try clear c3
             try clear c4
             try clear p4
             try clear q4
             try clear hx4
             try clear c5
             try clear c6
             try clear p6
             try clear c7
             try clear c9
             try clear c10
             try clear c15
             try clear c17
             try clear c17b0
             try clear c17b1
             try clear c17b2
             try clear c19
             try clear c20
             try clear c20b0
             try clear c20b1
             try clear c20b2
             try clear c21
             try clear c21b0
             try clear c21b1
             try clear c22
             try clear c27
             try clear c29
             try clear c31
             try clear c31b0
             try clear c32
             try clear c32b0
             try clear c33
             try clear c33b0
             try clear c37
             try clear c38
             try clear c39
             try clear c40
             try clear c40b0
             try clear c42
             try clear c44
             try clear c44b0
             try clear c46
             try clear c49
             try clear p49
             try clear q49
             try clear hx49
             try clear c50
             try clear c50b0
             try clear c50b1
             try clear c57
             try clear c62
             try clear c62b0
             try clear c62b1
             try clear c62b2
             try clear c64
             try clear p64
             try clear c65
             try clear c65b0
             try clear c65b1
             try clear c65b2
             try clear c66
             try clear c66b0
             try clear c66b1
             try clear c67
             try clear c67b0
             try clear c67b1
             try clear c68
             try clear c73
             try clear c75
             try clear hx492_0
             try clear hx499_0
             try clear p2
             try clear p4
             try clear p49
             try clear p492
             try clear p499
             try clear p6
             try clear p64
             try clear q4
             try clear q49
             try clear q492
             try clear q499
             obtain ⟨x35_4, x36_4, rfl, rfl, HA, HK4, HO_25, HB⟩ := hrel
             cases gk with
             | zero => exact absurd HA.out (by simp [laws_FnRunsToSymmetric.l1])
             | succ k4 =>
              have H := HA.out
              clear HA
              simp only [laws_FnRunsToSymmetric.l1] at H
              by_cases c76 : x36_4 < t501
              ·rw [if_pos c76] at H
               have c76b0 : decide (x36_4 < t501) = true := decide_eq_true c76
               clear c76
               (first | rw [c76b0] | (simp only [i64_w, i32_w]; rw [c76b0]) | skip)
               as_aux_lemma =>
                have H' := Aside0.mk H
                clear H
                go_wp2
                go_roundg k4
                case measure => have := HJ9.out; have := HJ27.out; have := HJ55.out; have := HK4.out; omega
                case rel => exact ⟨(wrap64 (x35_4 * t502)), (wrap64 (x36_4 + 1)), (by first | rfl | (simp; done) | (simp [*]; done)), (by first | rfl | (simp; done) | (simp [*]; done)), H', ⟨by have := HJ9.out; have := HJ27.out; have := HJ55.out; have := HK4.out; omega⟩, ⟨by (with_reducible repeat (first | apply Kd.R_alloc | apply Kd.R_drewN | apply Kd.R_drew)); exact HO_25.out⟩, ⟨by repeat (first | (with_reducible first | exact HB.out | apply below_alloc | apply pw_below_drewN | apply below_drew1) | exact HB.out)⟩⟩
              ·rw [if_neg c76] at H
               have c76b0 : decide (x36_4 < t501) = false := decide_eq_false c76
               clear c76
               (first | rw [c76b0] | (simp only [i64_w, i32_w]; rw [c76b0]) | skip)
               have H' := Aside0.mk H
               clear H
               go_wp2
               go_loopg [37, 38] k4 (fun kq v37 v38 w' => ∃ (x37_5 : Int) (x38_5 : Int), v37 = .int .i64 x37_5 ∧ v38 = .int .i64 x38_5 ∧ Aside0 (laws_FnRunsToSymmetric.l2 kq l1 t503 t504 t513 t514 x35_4 x37_5 x38_5 = some r) ∧ Aside0 (kq ≤ k4) ∧ Aside0 (Kd.R (Kd.int .i64) 3 w' w.heap.size (fun _ => True) v506 t504) ∧ Aside0 (Below w.heap.size w w'))
               case atStart => exact ⟨((-1)), (0), (by first | rfl | (simp; done) | (simp [*]; done)), (by first | rfl | (simp; done) | (simp [*]; done)), H', ⟨Nat.le_refl _⟩, ⟨by (with_reducible repeat (first | apply Kd.R_alloc | apply Kd.R_drewN | apply Kd.R_drew)); exact HO_25.out⟩, ⟨by repeat (first | (with_reducible first | exact HB.out | apply below_alloc | apply pw_below_drewN | apply below_drew1) | exact HB.out)⟩⟩
               case round =>
                as_aux_lemma =>
                clear H'
                try clear c1
                try clear c2
                try clear p2
                try clear c3
                try clear c4
                try clear p4
                try clear q4
                try clear hx4
                try clear c5
                try clear c6
                try clear p6
                try clear c7
                try clear c9
                try clear c10
                try clear c15
                try clear c17
                try clear c17b0
                try clear c17b1
                try clear c17b2
                try clear c19
                try clear c20
                try clear c20b0
                try clear c20b1
                try clear c20b2
                try clear c21
                try clear c21b0
                try clear c21b1
                try clear c22
                try clear c27
                try clear c29
                try clear c31
                try clear c31b0
                try clear c32
                try clear c32b0
                try clear c33
                try clear c33b0
                try clear c37
                try clear c38
                try clear c39
                try clear c40
                try clear c40b0
                try clear c42
                try clear c44
                try clear c44b0
                try clear c46
                try clear c49
                try clear p49
                try clear q49
                try clear hx49
                try clear c50
                try clear c50b0
                try clear c50b1
                try clear c57
                try clear c62
                try clear c62b0
                try clear c62b1
                try clear c62b2
                try clear c64
                try clear p64
                try clear c65
                try clear c65b0
                try clear c65b1
                try clear c65b2
                try clear c66
                try clear c66b0
                try clear c66b1
                try clear c67
                try clear c67b0
                try clear c67b1
                try clear c68
                try clear c73
                try clear c75
                try clear c76
                try clear c76b0
                try clear hx492_0
                try clear hx499_0
                try clear p2
                try clear p4
                try clear p49
                try clear p492
                try clear p499
                try clear p6
                try clear p64
                try clear q4
                try clear q49
                try clear q492
                try clear q499
                obtain ⟨x37_5, x38_5, rfl, rfl, HA, HK5, HO_25, HB⟩ := hrel
                cases gk with
                | zero => exact absurd HA.out (by simp [laws_FnRunsToSymmetric.l2])
                | succ k5 =>
                 have H := HA.out
                 clear HA
                 simp only [laws_FnRunsToSymmetric.l2] at H
                 by_cases c77 : x38_5 ≤ t503
                 ·rw [if_pos c77] at H
                  have c77b0 : decide (x38_5 ≤ t503) = true := decide_eq_true c77
                  clear c77
                  by_cases c78 : 0 ≤ x38_5
                  ·rw [if_pos c78] at H
                   have c78b0 : decide (0 ≤ x38_5) = true := decide_eq_true c78
                   clear c78
                   by_cases c79 : x38_5 < (t504.length : Int)
                   ·rw [if_pos c79] at H
                    have c79b0 : decide (x38_5 < (t504.length : Int)) = true := decide_eq_true c79
                    clear c79
                    by_cases c80 : (rd t504 x38_5) > 0
                    ·rw [if_pos c80] at H
                     have c80b0 : decide (0 < (rd t504 x38_5)) = true := decide_eq_true c80
                     clear c80
                     as_aux_lemma =>
                      have H' := Aside0.mk H
                      clear H
                      obtain ⟨Ao81, co81, eo81⟩ := Kd.R_slice HO_25.out
                      subst eo81
                      have p519 : 0 ≤ (x38_5 : Int) := of_decide_eq_true (by first | (with_reducible assumption) | assumption)
                      have q519 : x38_5 < (t504.length : Int) := of_decide_eq_true (by first | (with_reducible assumption) | assumption)
                      obtain ⟨ad519, e519, hx519_0⟩ := Kd.at_int (Kd.R_reads' HO_25.out).2.2 x38_5 p519 q519
                      cases e519
                      replace p519 := eq_true p519
                      replace q519 := eq_true q519
                      go_wp2
                      go_roundg k5
                      case measure => have := HJ9.out; have := HJ27.out; have := HJ55.out; have := HK4.out; have := HK5.out; omega
                      case rel => exact ⟨(x38_5), (wrap64 (x38_5 + 1)), (by first | rfl | (simp; done) | (simp [*]; done)), (by first | rfl | (simp; done) | (simp [*]; done)), H', ⟨by have := HJ9.out; have := HJ27.out; have := HJ55.out; have := HK4.out; have := HK5.out; omega⟩, ⟨by (with_reducible repeat (first | apply Kd.R_alloc | apply Kd.R_drewN | apply Kd.R_drew)); exact HO_25.out⟩, ⟨by repeat (first | (with_reducible first | exact HB.out | apply below_alloc | apply pw_below_drewN | apply below_drew1) | exact HB.out)⟩⟩
                    ·rw [if_neg c80] at H
                     have c80b0 : decide (0 < (rd t504 x38_5)) = false := decide_eq_false c80
                     clear c80
                     as_aux_lemma =>
                      have H' := Aside0.mk H
                      clear H
                      obtain ⟨Ao82, co82, eo82⟩ := Kd.R_slice HO_25.out
                      subst eo82
                      have p519 : 0 ≤ (x38_5 : Int) := of_decide_eq_true (by first | (with_reducible assumption) | assumption)
                      have q519 : x38_5 < (t504.length : Int) := of_decide_eq_true (by first | (with_reducible assumption) | assumption)
                      obtain ⟨ad519, e519, hx519_0⟩ := Kd.at_int (Kd.R_reads' HO_25.out).2.2 x38_5 p519 q519
                      cases e519
                      replace p519 := eq_true p519
                      replace q519 := eq_true q519
                      go_wp2
                      go_roundg k5
                      case measure => have := HJ9.out; have := HJ27.out; have := HJ55.out; have := HK4.out; have := HK5.out; omega
                      case rel => exact ⟨(x37_5), (wrap64 (x38_5 + 1)), (by first | rfl | (simp; done) | (simp [*]; done)), (by first | rfl | (simp; done) | (simp [*]; done)), H', ⟨by have := HJ9.out; have := HJ27.out; have := HJ55.out; have := HK4.out; have := HK5.out; omega⟩, ⟨by (with_reducible repeat (first | apply Kd.R_alloc | apply Kd.R_drewN | apply Kd.R_drew)); exact HO_25.out⟩, ⟨by repeat (first | (with_reducible first | exact HB.out | apply below_alloc | apply pw_below_drewN | apply below_drew1) | exact HB.out)⟩⟩
                   ·rw [if_neg c79] at H
                    exact absurd H (by simp)
                  ·rw [if_neg c78] at H
                   exact absurd H (by simp)
                 ·rw [if_neg c77] at H
                  have c77b0 : decide (x38_5 ≤ t503) = false := decide_eq_false c77
                  clear c77
                  replace H := Option.bind_eq_some_iff.mp H
                  obtain ⟨t520, A830, H⟩ := H
                  replace H : (if t520 = x35_4 then (if (t514 != (decide (x37_5 ≥ 0))) = true then (some false) else (if t514 = true then (if t513 = x37_5 then (laws_FnRunsToSymmetric.j7 k5 l1) else (some false)) else (laws_FnRunsToSymmetric.j7 k5 l1))) else (some false)) = some r := H
                  have A83 := Aside0.mk A830
                  clear A830
                  by_cases c84 : t520 = x35_4
                  ·rw [if_pos c84] at H
                   have c84b0 : (t520 == x35_4) = true := beq_iff_eq.mpr c84
                   have c84b1 : (t520 != x35_4) = false := bne_eq_false_iff_eq.mpr c84
                   clear c84
                   by_cases c85 : (t514 != (decide (x37_5 ≥ 0))) = true
                   ·rw [if_pos c85] at H
                    have c85b0 : (t514 != (decide (x37_5 ≥ 0))) = true := c85
                    (try (have c85b1 : decide (t514 = (decide (x37_5 ≥ 0))) = false := by simpa using c85))
                    (try (have c85b2 : (t514 == (decide (x37_5 ≥ 0))) = false := by simpa using c85))
                    (try (have c85b3 : ¬ (t514 = (decide (x37_5 ≥ 0))) := by simpa using c85))
                    clear c85
                    exact absurd (Option.some.inj H) (by rw [HR_.out]; decide)
                   ·rw [if_neg c85] at H
                    have c85b0 : (t514 != (decide (x37_5 ≥ 0))) = false := by simpa using c85
                    (try (have c85b1 : decide (t514 = (decide (x37_5 ≥ 0))) = true := by simpa using c85))
                    (try (have c85b2 : (t514 == (decide (x37_5 ≥ 0))) = true := by simpa using c85))
                    clear c85
                    by_cases c86 : t514 = true
                    ·subst c86
                     have H1 : (if t513 = x37_5 then (laws_FnRunsToSymmetric.j7 k5 l1) else (some false)) = some r := by rw [if_pos rfl] at H; exact H
                     clear H
                     have H := H1
                     clear H1
                     by_cases c87 : t513 = x37_5
                     ·rw [if_pos c87] at H
                      have c87b0 : (t513 == x37_5) = true := beq_iff_eq.mpr c87
                      have c87b1 : (t513 != x37_5) = false := bne_eq_false_iff_eq.mpr c87
                      clear c87
                      as_aux_lemma =>
                       have H' := Aside0.mk H
                       clear H
                       obtain ⟨Ao88, co88, eo88⟩ := Kd.R_slice HO_25.out
                       subst eo88
                       go_wp2_with (first | ((with_reducible refine gate_callee (f := 65) rfl ?_); refine goesL_ (some 263) rfl rfl Try.func65 (by kernel_rfl) rfl #[.slice Ao88 t504.length co88] rfl (by (try simp only [List.map_toArray, List.map_cons, List.map_nil]); first | done | rfl | (simp only [List.length_drop, List.length_take]; rfl)) ?_; (with_reducible refine (laws_qSum.calls k5 _ _ t504 t520 _ ?side1 ?side2 A83.out).mono ?_); (case side1 => repeat (first | exact (Kd.R_reads' HO_25.out).2.2 | (with_reducible refine Kd.C_alloc ?_ _) | (with_reducible refine Kd.C_drewN ?_ _) | (with_reducible refine Kd.C_drew ?_))); (case side2 => exact (Kd.R_reads' HO_25.out).2.1); rintro e w' ⟨rfl, ⟨nd, rfl⟩⟩; refine ⟨_, rfl, ?_⟩))
                       go_meet
                       case rel => exact ⟨_, H', ⟨by have := HJ9.out; have := HJ27.out; have := HJ55.out; have := HK4.out; have := HK5.out; first | omega | exact Nat.le_refl _⟩, ⟨by repeat (first | (with_reducible first | exact HB.out | apply below_alloc | apply pw_below_drewN | apply below_drew1) | exact HB.out)⟩⟩
                     ·rw [if_neg c87] at H
                      have c87b0 : (t513 == x37_5) = false := beq_eq_false_iff_ne.mpr c87
                      have c87b1 : (t513 != x37_5) = true := bne_iff_ne.mpr c87
                      exact absurd (Option.some.inj H) (by rw [HR_.out]; decide)
                    ·replace c86 := Bool.eq_false_iff.mpr c86
                     subst c86
                     have H1 : (laws_FnRunsToSymmetric.j7 k5 l1) = some r := by rw [if_neg (show ¬ (false = true) by decide)] at H; exact H
                     clear H
                     have H := H1
                     clear H1
                     as_aux_lemma =>
                      have H' := Aside0.mk H
                      clear H
                      obtain ⟨Ao89, co89, eo89⟩ := Kd.R_slice HO_25.out
                      subst eo89
                      go_wp2_with (first | ((with_reducible refine gate_callee (f := 65) rfl ?_); refine goesL_ (some 263) rfl rfl Try.func65 (by kernel_rfl) rfl #[.slice Ao89 t504.length co89] rfl (by (try simp only [List.map_toArray, List.map_cons, List.map_nil]); first | done | rfl | (simp only [List.length_drop, List.length_take]; rfl)) ?_; (with_reducible refine (laws_qSum.calls k5 _ _ t504 t520 _ ?side1 ?side2 A83.out).mono ?_); (case side1 => repeat (first | exact (Kd.R_reads' HO_25.out).2.2 | (with_reducible refine Kd.C_alloc ?_ _) | (with_reducible refine Kd.C_drewN ?_ _) | (with_reducible refine Kd.C_drew ?_))); (case side2 => exact (Kd.R_reads' HO_25.out).2.1); rintro e w' ⟨rfl, ⟨nd, rfl⟩⟩; refine ⟨_, rfl, ?_⟩))
                      go_meet
                      case rel => exact ⟨_, H', ⟨by have := HJ9.out; have := HJ27.out; have := HJ55.out; have := HK4.out; have := HK5.out; first | omega | exact Nat.le_refl _⟩, ⟨by repeat (first | (with_reducible first | exact HB.out | apply below_alloc | apply pw_below_drewN | apply below_drew1) | exact HB.out)⟩⟩
                  ·rw [if_neg c84] at H
                   have c84b0 : (t520 == x35_4) = false := beq_eq_false_iff_ne.mpr c84
                   have c84b1 : (t520 != x35_4) = true := bne_iff_ne.mpr c84
                   exact absurd (Option.some.inj H) (by rw [HR_.out]; decide)
           ·replace c75 := Bool.eq_false_iff.mpr c75
            subst c75
            have H1 : (laws_FnRunsToSymmetric.j7 kj55 l1) = some r := by rw [if_neg (show ¬ (false = true) by decide)] at H; exact H
            clear H
            have H := H1
            clear H1
            as_aux_lemma =>
             have H' := Aside0.mk H
             clear H
             go_wp2
             go_meet
             case rel => exact ⟨_, H', ⟨by have := HJ9.out; have := HJ27.out; have := HJ55.out; first | omega | exact Nat.le_refl _⟩, ⟨by repeat (first | (with_reducible first | exact HB.out | apply below_alloc | apply pw_below_drewN | apply below_drew1) | exact HB.out)⟩⟩
          case rest =>
           as_aux_lemma =>
           clear HC74
           try clear c1
           try clear c2
           try clear p2
           try clear c3
           try clear c4
           try clear p4
           try clear q4
           try clear hx4
           try clear c5
           try clear p5
           try clear q5
           try clear hx5
           try clear c6
           try clear p6
           try clear c7
           try clear c8
           try clear c9
           try clear c10
           try clear c15
           try clear c17
           try clear c17b0
           try clear c17b1
           try clear c17b2
           try clear c19
           try clear c20
           try clear c20b0
           try clear c20b1
           try clear c20b2
           try clear c21
           try clear c21b0
           try clear c21b1
           try clear c22
           try clear c27
           try clear c29
           try clear c31
           try clear c31b0
           try clear c32
           try clear c32b0
           try clear c33
           try clear c33b0
           try clear c37
           try clear c38
           try clear c39
           try clear c40
           try clear c40b0
           try clear c42
           try clear c44
           try clear c44b0
           try clear c46
           try clear c49
           try clear p49
           try clear q49
           try clear hx49
           try clear c50
           try clear c50b0
           try clear c50b1
           try clear p51
           try clear q51
           try clear hx51
           try clear c57
           try clear c62
           try clear c62b0
           try clear c62b1
           try clear c62b2
           try clear c64
           try clear p64
           try clear c65
           try clear c65b0
           try clear c65b1
           try clear c65b2
           try clear c66
           try clear c66b0
           try clear c66b1
           try clear c67
           try clear c67b0
           try clear c67b1
           try clear c68
           try clear c73
           try clear c75
           try clear c76
           try clear c76b0
           try clear c77
           try clear c77b0
           try clear c78
           try clear c78b0
           try clear c79
           try clear c79b0
           try clear c80
           try clear c80b0
           try clear c84
           try clear c84b0
           try clear c84b1
           try clear c85
           try clear c85b0
           try clear c85b1
           try clear c85b2
           try clear c86
           try clear c87
           try clear c87b0
           try clear c87b1
           try clear hx492_0
           try clear hx499_0
           try clear hx519_0
           try clear p2
           try clear p4
           try clear p49
           try clear p492
           try clear p499
           try clear p519
           try clear p6
           try clear p64
           try clear q4
           try clear q49
           try clear q492
           try clear q499
           try clear q519
           obtain ⟨kq, HA, HJ73, HB⟩ := hcut
           cases kq with
           | zero => exact absurd HA.out (by simp [laws_FnRunsToSymmetric.j7])
           | succ kj73 =>
            have H := HA.out
            clear HA
            simp only [laws_FnRunsToSymmetric.j7] at H
            replace H := Option.bind_eq_some_iff.mp H
            obtain ⟨t521, A900, H⟩ := H
            replace H : ((impl_NeverWord.f t521).bind fun bt522 => ((spec_NeverWord.f kj73 t521).bind fun bt526 => (if (bt522.2 != bt526.2) = true then (laws_FnRunsToSymmetric.j8 kj73 t521 bt522.1 bt522.2 true) else ((laws_qSame.f kj73 bt522.1 bt526.1).bind fun t530 => (laws_FnRunsToSymmetric.j8 kj73 t521 bt522.1 bt522.2 (!t530)))))) = some r := H
            have A90 := Aside0.mk A900
            clear A900
            replace H := Option.bind_eq_some_iff.mp H
            obtain ⟨⟨t522, t523⟩, A910, H⟩ := H
            replace H : ((spec_NeverWord.f kj73 t521).bind fun bt526 => (if (t523 != bt526.2) = true then (laws_FnRunsToSymmetric.j8 kj73 t521 t522 t523 true) else ((laws_qSame.f kj73 t522 bt526.1).bind fun t530 => (laws_FnRunsToSymmetric.j8 kj73 t521 t522 t523 (!t530))))) = some r := H
            have A91 := Aside0.mk A910
            clear A910
            replace H := Option.bind_eq_some_iff.mp H
            obtain ⟨⟨t526, t527⟩, A920, H⟩ := H
            replace H : (if (t523 != t527) = true then (laws_FnRunsToSymmetric.j8 kj73 t521 t522 t523 true) else ((laws_qSame.f kj73 t522 t526).bind fun t530 => (laws_FnRunsToSymmetric.j8 kj73 t521 t522 t523 (!t530)))) = some r := H
            have A92 := Aside0.mk A920
            clear A920
            have HC93 := Aside0.mk H
            clear H
            go_upto_region 48 with (first | ((with_reducible refine gate_callee (f := 110) rfl ?_); refine goesL_ (some 281) rfl rfl Try.func110 (by kernel_rfl) rfl #[.slice A1 l1.length c1] rfl (by (try simp only [List.map_toArray, List.map_cons, List.map_nil]); first | done | rfl | (simp only [List.length_drop, List.length_take]; rfl)) ?_; (with_reducible refine (spec_DrawNeverWord.calls _ _ l1 t521 _ ?side1 ?side2 A90.out).mono ?_); (case side1 => repeat (first | exact (Kd.C_below HR1.out HB.out) | (with_reducible refine Kd.C_alloc ?_ _) | (with_reducible refine Kd.C_drewN ?_ _) | (with_reducible refine Kd.C_drew ?_))); (case side2 => exact HC1.out); rintro e w94 ⟨rfl, hb⟩; refine ⟨_, rfl, ?_⟩; have n0_ := Aside0.mk (below_step (by repeat (first | (with_reducible first | exact HB.out | apply below_alloc | apply pw_below_drewN | apply below_drew1) | exact HB.out)) hb); clear HB; have HB := n0_; clear n0_; (try clear hb); (try clear hb2); (try clear hk); (try clear hi)) | ((with_reducible refine gate_callee (f := 111) rfl ?_); refine goesL_ (some 284) rfl rfl Try.func111 (by kernel_rfl) rfl #[.int .i64 t521] rfl (by (try simp only [List.map_toArray, List.map_cons, List.map_nil]); first | done | rfl | (simp only [List.length_drop, List.length_take]; rfl)) ?_; (with_reducible refine (impl_NeverWord.calls t521 t522 t523 _ A91.out).mono ?_); rintro e w95 ⟨v524, rfl, ho0, hb⟩; refine ⟨_, rfl, ?_⟩; have n0_ := Aside0.mk (Kd.R_lower ho0 (below_size (by repeat (first | (with_reducible first | exact HB.out | apply below_alloc | apply pw_below_drewN | apply below_drew1) | exact HB.out)))); have n1_ := Aside0.mk (below_step (by repeat (first | (with_reducible first | exact HB.out | apply below_alloc | apply pw_below_drewN | apply below_drew1) | exact HB.out)) hb); clear HB; have HO525 := n0_; have HB := n1_; clear n0_ n1_; (try clear hb); (try clear hb2); (try clear hk); (try clear hi); (try clear ho0)) | ((with_reducible refine gate_callee (f := 112) rfl ?_); refine goesL_ (some 289) rfl rfl Try.func112 (by kernel_rfl) rfl #[.int .i64 t521] rfl (by (try simp only [List.map_toArray, List.map_cons, List.map_nil]); first | done | rfl | (simp only [List.length_drop, List.length_take]; rfl)) ?_; (with_reducible refine (spec_NeverWord.calls kj73 t521 t526 t527 _ A92.out).mono ?_); rintro e w96 ⟨v528, rfl, ho0, hb⟩; refine ⟨_, rfl, ?_⟩; have n0_ := Aside0.mk (Kd.R_elder' (by (with_reducible repeat (first | apply Kd.R_alloc | apply Kd.R_drewN | apply Kd.R_drew)); exact HO525.out) (Kd.R_base ho0) hb); have n1_ := Aside0.mk (Kd.R_lower (Kd.R_new' ho0 (Kd.R_lt (by (with_reducible repeat (first | apply Kd.R_alloc | apply Kd.R_drewN | apply Kd.R_drew)); exact HO525.out))) (below_size (by repeat (first | (with_reducible first | exact HB.out | apply below_alloc | apply pw_below_drewN | apply below_drew1) | exact HB.out)))); have n2_ := Aside0.mk (below_step (by repeat (first | (with_reducible first | exact HB.out | apply below_alloc | apply pw_below_drewN | apply below_drew1) | exact HB.out)) hb); clear HO525; clear HB; have HO525 := n0_; have HO529 := n1_; have HB := n2_; clear n0_ n1_ n2_; (try clear hb); (try clear hb2); (try clear hk); (try clear hi); (try clear ho0)))
            (try simp only [Act.put, List.setIfInBounds_toArray, List.set_cons_zero, List.set_cons_succ])
            go_cut [300] (fun v300 wc => ∃ (kq : Nat) (x300_92 : Bool), v300 = .bool x300_92 ∧ Aside0 (laws_FnRunsToSymmetric.j8 kq t521 t522 t523 x300_92 = some r) ∧ Aside0 (kq ≤ kj73) ∧ Aside0 (Kd.R (Kd.int .i64) 3 wc w.heap.size (fun _ => True) v524 t522) ∧ Aside0 (Below w.heap.size w wc))
            case first =>
             as_aux_lemma =>
             have H := HC93.out
             clear HC93
             by_cases c97 : (t523 != t527) = true
             ·rw [if_pos c97] at H
              have c97b0 : (t523 != t527) = true := c97
              (try (have c97b1 : decide (t523 = t527) = false := by simpa using c97))
              (try (have c97b2 : (t523 == t527) = false := by simpa using c97))
              (try (have c97b3 : ¬ (t523 = t527) := by simpa using c97))
              clear c97
              (first | rw [c97b0] | (simp only [i64_w, i32_w]; rw [c97b0]) | skip)
              exact (laws_FnRunsToSymmetric.j8_no HR_.out _ _ _ _ H).elim
             ·rw [if_neg c97] at H
              have c97b0 : (t523 != t527) = false := by simpa using c97
              (try (have c97b1 : decide (t523 = t527) = true := by simpa using c97))
              (try (have c97b2 : (t523 == t527) = true := by simpa using c97))
              clear c97
              (first | rw [c97b0] | (simp only [i64_w, i32_w]; rw [c97b0]) | skip)
              replace H := Option.bind_eq_some_iff.mp H
              obtain ⟨t530, A980, H⟩ := H
              replace H : (laws_FnRunsToSymmetric.j8 kj73 t521 t522 t523 (!t530)) = some r := H
              have A98 := Aside0.mk A980
              clear A980
              as_aux_lemma =>
               have H' := Aside0.mk H
               clear H
               obtain ⟨Ao99, co99, eo99⟩ := Kd.R_slice HO525.out
               subst eo99
               obtain ⟨Ao100, co100, eo100⟩ := Kd.R_slice HO529.out
               subst eo100
               go_wp2_with (first | (go_at_call 34; (with_reducible refine (laws_qSame.calls kj73 _ _ t522 _ _ t526 t530 _ ?side1 ?side2 ?side3 ?side4 A98.out).mono ?_); (case side1 => repeat (first | exact (Kd.R_reads' HO525.out).2.2 | (with_reducible refine Kd.C_alloc ?_ _) | (with_reducible refine Kd.C_drewN ?_ _) | (with_reducible refine Kd.C_drew ?_))); (case side2 => exact (Kd.R_reads' HO525.out).2.1); (case side3 => repeat (first | exact (Kd.R_reads' HO529.out).2.2 | (with_reducible refine Kd.C_alloc ?_ _) | (with_reducible refine Kd.C_drewN ?_ _) | (with_reducible refine Kd.C_drew ?_))); (case side4 => exact (Kd.R_reads' HO529.out).2.1); rintro e w' ⟨rfl, ⟨nd, rfl⟩⟩))
               go_meet
               case rel => exact ⟨_, (!t530), (by first | rfl | (simp; done) | (simp [*]; done)), H', ⟨by have := HJ9.out; have := HJ27.out; have := HJ55.out; have := HJ73.out; first | omega | exact Nat.le_refl _⟩, ⟨by (with_reducible repeat (first | apply Kd.R_alloc | apply Kd.R_drewN | apply Kd.R_drew)); exact Kd.R_mono HO525.out (fun _ hk => trivial)⟩, ⟨by repeat (first | (with_reducible first | exact HB.out | apply below_alloc | apply pw_below_drewN | apply below_drew1) | exact HB.out)⟩⟩
            case rest =>
             as_aux_lemma =>
             clear HC93
             try clear c1
             try clear c2
             try clear p2
             try clear c3
             try clear c4
             try clear p4
             try clear q4
             try clear hx4
             try clear c5
             try clear p5
             try clear q5
             try clear hx5
             try clear c6
             try clear p6
             try clear c7
             try clear c8
             try clear c9
             try clear c10
             try clear c11
             try clear c15
             try clear c17
             try clear c17b0
             try clear c17b1
             try clear c17b2
             try clear c19
             try clear c20
             try clear c20b0
             try clear c20b1
             try clear c20b2
             try clear c21
             try clear c21b0
             try clear c21b1
             try clear c22
             try clear c27
             try clear c29
             try clear c31
             try clear c31b0
             try clear c32
             try clear c32b0
             try clear c33
             try clear c33b0
             try clear c37
             try clear c38
             try clear c39
             try clear c40
             try clear c40b0
             try clear c42
             try clear c44
             try clear c44b0
             try clear c46
             try clear c49
             try clear p49
             try clear q49
             try clear hx49
             try clear c50
             try clear c50b0
             try clear c50b1
             try clear p51
             try clear q51
             try clear hx51
             try clear c57
             try clear c62
             try clear c62b0
             try clear c62b1
             try clear c62b2
             try clear c64
             try clear p64
             try clear c65
             try clear c65b0
             try clear c65b1
             try clear c65b2
             try clear c66
             try clear c66b0
             try clear c66b1
             try clear c67
             try clear c67b0
             try clear c67b1
             try clear c68
             try clear c73
             try clear c75
             try clear c76
             try clear c76b0
             try clear c77
             try clear c77b0
             try clear c78
             try clear c78b0
             try clear c79
             try clear c79b0
             try clear c80
             try clear c80b0
             try clear c84
             try clear c84b0
             try clear c84b1
             try clear c85
             try clear c85b0
             try clear c85b1
             try clear c85b2
             try clear c86
             try clear c87
             try clear c87b0
             try clear c87b1
             try clear c97
             try clear c97b0
             try clear c97b1
             try clear c97b2
             try clear hx492_0
             try clear hx499_0
             try clear hx519_0
             try clear p2
             try clear p4
             try clear p49
             try clear p492
             try clear p499
             try clear p5
             try clear p51
             try clear p519
             try clear p6
             try clear p64
             try clear q4
             try clear q49
             try clear q492
             try clear q499
             try clear q5
             try clear q51
             try clear q519
             obtain ⟨kq, x300_92, rfl, HA, HJ92, HO_40, HB⟩ := hcut
             cases kq with
             | zero => exact absurd HA.out (by simp [laws_FnRunsToSymmetric.j8])
             | succ kj92 =>
              have H := HA.out
              clear HA
              simp only [laws_FnRunsToSymmetric.j8] at H
              by_cases c101 : x300_92 = true
              ·subst c101
               have H1 : (some false) = some r := by rw [if_pos rfl] at H; exact H
               clear H
               have H := H1
               clear H1
               exact absurd (Option.some.inj H) (by rw [HR_.out]; decide)
              ·replace c101 := Bool.eq_false_iff.mpr c101
               subst c101
               have H1 : (if t523 = true then (laws_FnRunsToSymmetric.l3 kj92 t521 t522 0) else (some true)) = some r := by rw [if_neg (show ¬ (false = true) by decide)] at H; exact H
               clear H
               have H := H1
               clear H1
               by_cases c102 : t523 = true
               ·subst c102
                have H1 : (laws_FnRunsToSymmetric.l3 kj92 t521 t522 0) = some r := by rw [if_pos rfl] at H; exact H
                clear H
                have H := H1
                clear H1
                have H' := Aside0.mk H
                clear H
                go_wp2
                go_loopg [44, 45] kj92 (fun kq v44 v45 w' => ∃ (x44_6 : List Int) (x45_6 : Int), v45 = .int .i64 x45_6 ∧ Aside0 (laws_FnRunsToSymmetric.l3 kq t521 x44_6 x45_6 = some r) ∧ Aside0 (kq ≤ kj92) ∧ Aside0 (Kd.R (Kd.int .i64) 3 w' w.heap.size (fun _ => True) v44 x44_6) ∧ Aside0 (Below w.heap.size w w'))
                case atStart => exact ⟨(t522), (0), (by first | rfl | (simp; done) | (simp [*]; done)), H', ⟨Nat.le_refl _⟩, ⟨by (with_reducible repeat (first | apply Kd.R_alloc | apply Kd.R_drewN | apply Kd.R_drew)); exact HO_40.out⟩, ⟨by repeat (first | (with_reducible first | exact HB.out | apply below_alloc | apply pw_below_drewN | apply below_drew1) | exact HB.out)⟩⟩
                case round =>
                 as_aux_lemma =>
                 clear H'
                 try clear c1
                 try clear c2
                 try clear p2
                 try clear c3
                 try clear c4
                 try clear p4
                 try clear q4
                 try clear hx4
                 try clear c5
                 try clear p5
                 try clear q5
                 try clear hx5
                 try clear c6
                 try clear p6
                 try clear c7
                 try clear c8
                 try clear c9
                 try clear c10
                 try clear c11
                 try clear c15
                 try clear c17
                 try clear c17b0
                 try clear c17b1
                 try clear c17b2
                 try clear c19
                 try clear c20
                 try clear c20b0
                 try clear c20b1
                 try clear c20b2
                 try clear c21
                 try clear c21b0
                 try clear c21b1
                 try clear c22
                 try clear c27
                 try clear c29
                 try clear c31
                 try clear c31b0
                 try clear c32
                 try clear c32b0
                 try clear c33
                 try clear c33b0
                 try clear c37
                 try clear c38
                 try clear c39
                 try clear c40
                 try clear c40b0
                 try clear c42
                 try clear c44
                 try clear c44b0
                 try clear c46
                 try clear c49
                 try clear p49
                 try clear q49
                 try clear hx49
                 try clear c50
                 try clear c50b0
                 try clear c50b1
                 try clear p51
                 try clear q51
                 try clear hx51
                 try clear c57
                 try clear c62
                 try clear c62b0
                 try clear c62b1
                 try clear c62b2
                 try clear c64
                 try clear p64
                 try clear c65
                 try clear c65b0
                 try clear c65b1
                 try clear c65b2
                 try clear c66
                 try clear c66b0
                 try clear c66b1
                 try clear c67
                 try clear c67b0
                 try clear c67b1
                 try clear c68
                 try clear c73
                 try clear c75
                 try clear c76
                 try clear c76b0
                 try clear c77
                 try clear c77b0
                 try clear c78
                 try clear c78b0
                 try clear c79
                 try clear c79b0
                 try clear c80
                 try clear c80b0
                 try clear c84
                 try clear c84b0
                 try clear c84b1
                 try clear c85
                 try clear c85b0
                 try clear c85b1
                 try clear c85b2
                 try clear c86
                 try clear c87
                 try clear c87b0
                 try clear c87b1
                 try clear c97
                 try clear c97b0
                 try clear c97b1
                 try clear c97b2
                 try clear c101
                 try clear c102
                 try clear hx492_0
                 try clear hx499_0
                 try clear hx519_0
                 try clear p2
                 try clear p4
                 try clear p49
                 try clear p492
                 try clear p499
                 try clear p5
                 try clear p51
                 try clear p519
                 try clear p6
                 try clear p64
                 try clear q4
                 try clear q49
                 try clear q492
                 try clear q499
                 try clear q5
                 try clear q51
                 try clear q519
                 obtain ⟨x44_6, x45_6, rfl, HA, HK6, HO_44, HB⟩ := hrel
                 cases gk with
                 | zero => exact absurd HA.out (by simp [laws_FnRunsToSymmetric.l3])
                 | succ k6 =>
                  have H := HA.out
                  clear HA
                  simp only [laws_FnRunsToSymmetric.l3] at H
                  by_cases c103 : x45_6 < 4
                  ·rw [if_pos c103] at H
                   have c103b0 : decide (x45_6 < 4) = true := decide_eq_true c103
                   clear c103
                   replace H := Option.bind_eq_some_iff.mp H
                   obtain ⟨⟨t536, t537⟩, A1040, H⟩ := H
                   replace H : ((impl_AddReversed.f k6 x44_6 2).bind fun bt538 => (if t537 = true then (if t536 = true then (some false) else (if bt538.2 = true then (laws_FnRunsToSymmetric.l3 k6 t521 bt538.1 (wrap64 (x45_6 + 1))) else (some false))) else (some false))) = some r := H
                   have A104 := Aside0.mk A1040
                   clear A1040
                   replace H := Option.bind_eq_some_iff.mp H
                   obtain ⟨⟨t538, t539⟩, A1050, H⟩ := H
                   replace H : (if t537 = true then (if t536 = true then (some false) else (if t539 = true then (laws_FnRunsToSymmetric.l3 k6 t521 t538 (wrap64 (x45_6 + 1))) else (some false))) else (some false)) = some r := H
                   have A105 := Aside0.mk A1050
                   clear A1050
                   by_cases c106 : t537 = true
                   ·subst c106
                    have H1 : (if t536 = true then (some false) else (if t539 = true then (laws_FnRunsToSymmetric.l3 k6 t521 t538 (wrap64 (x45_6 + 1))) else (some false))) = some r := by rw [if_pos rfl] at H; exact H
                    clear H
                    have H := H1
                    clear H1
                    by_cases c107 : t536 = true
                    ·subst c107
                     have H1 : (some false) = some r := by rw [if_pos rfl] at H; exact H
                     clear H
                     have H := H1
                     clear H1
                     exact absurd (Option.some.inj H) (by rw [HR_.out]; decide)
                    ·replace c107 := Bool.eq_false_iff.mpr c107
                     subst c107
                     have H1 : (if t539 = true then (laws_FnRunsToSymmetric.l3 k6 t521 t538 (wrap64 (x45_6 + 1))) else (some false)) = some r := by rw [if_neg (show ¬ (false = true) by decide)] at H; exact H
                     clear H
                     have H := H1
                     clear H1
                     by_cases c108 : t539 = true
                     ·subst c108
                      have H1 : (laws_FnRunsToSymmetric.l3 k6 t521 t538 (wrap64 (x45_6 + 1))) = some r := by rw [if_pos rfl] at H; exact H
                      clear H
                      have H := H1
                      clear H1
                      as_aux_lemma =>
                       have H' := Aside0.mk H
                       clear H
                       obtain ⟨Ao109, co109, eo109⟩ := Kd.R_slice HO_44.out
                       subst eo109
                       go_wp2_with (first | ((with_reducible refine gate_callee (f := 67) rfl ?_); refine goesL_ (some 309) rfl rfl Try.func67 (by kernel_rfl) rfl #[.slice Ao109 x44_6.length co109, .int .i64 2] rfl (by (try simp only [List.map_toArray, List.map_cons, List.map_nil]); first | done | rfl | (simp only [List.length_drop, List.length_take]; rfl)) ?_; (with_reducible refine (impl_IsSymmetric.calls k6 _ _ x44_6 2 false true _ ?side1 ?side2 A104.out).mono ?_); (case side1 => repeat (first | exact (Kd.R_reads' HO_44.out).2.2 | (with_reducible refine Kd.C_alloc ?_ _) | (with_reducible refine Kd.C_drewN ?_ _) | (with_reducible refine Kd.C_drew ?_))); (case side2 => exact (Kd.R_reads' HO_44.out).2.1); rintro e w110 ⟨rfl, hb⟩; refine ⟨_, rfl, ?_⟩; have n0_ := Aside0.mk (Kd.R_below (by (with_reducible repeat (first | apply Kd.R_alloc | apply Kd.R_drewN | apply Kd.R_drew)); exact HO_44.out) hb); have n1_ := Aside0.mk (below_step (by repeat (first | (with_reducible first | exact HB.out | apply below_alloc | apply pw_below_drewN | apply below_drew1) | exact HB.out)) hb); clear HO_44; clear HB; have HO_44 := n0_; have HB := n1_; clear n0_ n1_; (try clear hb); (try clear hb2); (try clear hk); (try clear hi)) | ((with_reducible refine gate_callee (f := 57) rfl ?_); refine goesL_ (some 314) rfl rfl Try.func57 (by kernel_rfl) rfl #[.slice Ao109 x44_6.length co109, .int .i64 2] rfl (by (try simp only [List.map_toArray, List.map_cons, List.map_nil]); first | done | rfl | (simp only [List.length_drop, List.length_take]; rfl)) ?_; (with_reducible refine (impl_AddReversed.calls k6 _ _ x44_6 2 t538 true _ ?side1 ?side2 A105.out).mono ?_); (case side1 => repeat (first | exact (Kd.R_reads' HO_44.out).2.2 | (with_reducible refine Kd.C_alloc ?_ _) | (with_reducible refine Kd.C_drewN ?_ _) | (with_reducible refine Kd.C_drew ?_))); (case side2 => exact (Kd.R_reads' HO_44.out).2.1); rintro e w111 ⟨v540, rfl, ho0, hb⟩; refine ⟨_, rfl, ?_⟩; have n0_ := Aside0.mk (Kd.R_elder' (by (with_reducible repeat (first | apply Kd.R_alloc | apply Kd.R_drewN | apply Kd.R_drew)); exact HO_44.out) (Kd.R_base ho0) hb); have n1_ := Aside0.mk (Kd.R_lower (Kd.R_new' ho0 (Kd.R_lt (by (with_reducible repeat (first | apply Kd.R_alloc | apply Kd.R_drewN | apply Kd.R_drew)); exact HO_44.out))) (below_size (by repeat (first | (with_reducible first | exact HB.out | apply below_alloc | apply pw_below_drewN | apply below_drew1) | exact HB.out)))); have n2_ := Aside0.mk (below_step (by repeat (first | (with_reducible first | exact HB.out | apply below_alloc | apply pw_below_drewN | apply below_drew1) | exact HB.out)) hb); clear HO_44; clear HB; have HO_44 := n0_; have HO541 := n1_; have HB := n2_; clear n0_ n1_ n2_; (try clear hb); (try clear hb2); (try clear hk); (try clear hi); (try clear ho0)))
                       go_roundg k6
                       case measure => have := HJ9.out; have := HJ27.out; have := HJ55.out; have := HJ73.out; have := HJ92.out; have := HK6.out; omega
                       case rel => exact ⟨(t538), (wrap64 (x45_6 + 1)), (by first | rfl | (simp; done) | (simp [*]; done)), H', ⟨by have := HJ9.out; have := HJ27.out; have := HJ55.out; have := HJ73.out; have := HJ92.out; have := HK6.out; omega⟩, ⟨by (with_reducible repeat (first | apply Kd.R_alloc | apply Kd.R_drewN | apply Kd.R_drew)); exact Kd.R_mono HO541.out (fun _ hk => trivial)⟩, ⟨by repeat (first | (with_reducible first | exact HB.out | apply below_alloc | apply pw_below_drewN | apply below_drew1) | exact HB.out)⟩⟩
                     ·replace c108 := Bool.eq_false_iff.mpr c108
                      subst c108
                      have H1 : (some false) = some r := by rw [if_neg (show ¬ (false = true) by decide)] at H; exact H
                      clear H
                      have H := H1
                      clear H1
                      exact absurd (Option.some.inj H) (by rw [HR_.out]; decide)
                   ·replace c106 := Bool.eq_false_iff.mpr c106
                    subst c106
                    have H1 : (some false) = some r := by rw [if_neg (show ¬ (false = true) by decide)] at H; exact H
                    clear H
                    have H := H1
                    clear H1
                    exact absurd (Option.some.inj H) (by rw [HR_.out]; decide)
                  ·rw [if_neg c103] at H
                   have c103b0 : decide (x45_6 < 4) = false := decide_eq_false c103
                   clear c103
                   replace H := Option.bind_eq_some_iff.mp H
                   obtain ⟨⟨t531, t532⟩, A1120, H⟩ := H
                   replace H : (if t532 = true then ((laws_qSame.f k6 x44_6 t531).bind fun t535 => (some t535)) else (some true)) = some r := H
                   have A112 := Aside0.mk A1120
                   clear A1120
                   by_cases c113 : t532 = true
                   ·subst c113
                    have H1 : ((laws_qSame.f k6 x44_6 t531).bind fun t535 => (some t535)) = some r := by rw [if_pos rfl] at H; exact H
                    clear H
                    have H := H1
                    clear H1
                    replace H := Option.bind_eq_some_iff.mp H
                    obtain ⟨t535, A1140, H⟩ := H
                    replace H : (some t535) = some r := H
                    have A114 := Aside0.mk A1140
                    clear A1140
                    as_aux_lemma =>
                     obtain rfl := Option.some.inj H
                     go_wp2_with (first | ((with_reducible refine gate_callee (f := 111) rfl ?_); refine goesL_ (some 330) rfl rfl Try.func111 (by kernel_rfl) rfl #[.int .i64 (wrap64 (t521 + 1))] rfl (by (try simp only [List.map_toArray, List.map_cons, List.map_nil]); first | done | rfl | (simp only [List.length_drop, List.length_take]; rfl)) ?_; (with_reducible refine (impl_NeverWord.calls (wrap64 (t521 + 1)) t531 true _ A112.out).mono ?_); rintro e w115 ⟨v533, rfl, ho0, hb⟩; refine ⟨_, rfl, ?_⟩; have n0_ := Aside0.mk (Kd.R_elder' (by (with_reducible repeat (first | apply Kd.R_alloc | apply Kd.R_drewN | apply Kd.R_drew)); exact HO_44.out) (Kd.R_base ho0) hb); have n1_ := Aside0.mk (Kd.R_lower (Kd.R_new' ho0 (Kd.R_lt (by (with_reducible repeat (first | apply Kd.R_alloc | apply Kd.R_drewN | apply Kd.R_drew)); exact HO_44.out))) (below_size (by repeat (first | (with_reducible first | exact HB.out | apply below_alloc | apply pw_below_drewN | apply below_drew1) | exact HB.out)))); have n2_ := Aside0.mk (below_step (by repeat (first | (with_reducible first | exact HB.out | apply below_alloc | apply pw_below_drewN | apply below_drew1) | exact HB.out)) hb); clear HO_44; clear HB; have HO_44 := n0_; have HO534 := n1_; have HB := n2_; clear n0_ n1_ n2_; (try clear hb); (try clear hb2); (try clear hk); (try clear hi); (try clear ho0); obtain ⟨Ao116, co116, eo116⟩ := Kd.R_slice HO_44.out; subst eo116; obtain ⟨Ao117, co117, eo117⟩ := Kd.R_slice HO534.out; subst eo117) | (go_at_call 34; (with_reducible refine (laws_qSame.calls k6 _ _ x44_6 _ _ t531 t535 _ ?side1 ?side2 ?side3 ?side4 A114.out).mono ?_); (case side1 => repeat (first | exact (Kd.R_reads' HO_44.out).2.2 | (with_reducible refine Kd.C_alloc ?_ _) | (with_reducible refine Kd.C_drewN ?_ _) | (with_reducible refine Kd.C_drew ?_))); (case side2 => exact (Kd.R_reads' HO_44.out).2.1); (case side3 => repeat (first | exact (Kd.R_reads' HO534.out).2.2 | (with_reducible refine Kd.C_alloc ?_ _) | (with_reducible refine Kd.C_drewN ?_ _) | (with_reducible refine Kd.C_drew ?_))); (case side4 => exact (Kd.R_reads' HO534.out).2.1); rintro e w' ⟨rfl, ⟨nd, rfl⟩⟩))
                     go_ret
                     exact ⟨by first | rfl | (simp [errW_none, errW_some] <;> rfl) | (simp [*, errW_none, errW_some] <;> rfl), by repeat (first | (with_reducible first | exact HB.out | apply below_alloc | apply pw_below_drewN | apply below_drew1) | exact HB.out)⟩
                   ·replace c113 := Bool.eq_false_iff.mpr c113
                    subst c113
                    have H1 : (some true) = some r := by rw [if_neg (show ¬ (false = true) by decide)] at H; exact H
                    clear H
                    have H := H1
                    clear H1
                    as_aux_lemma =>
                     obtain rfl := Option.some.inj H
                     go_wp2_with (first | ((with_reducible refine gate_callee (f := 111) rfl ?_); refine goesL_ (some 330) rfl rfl Try.func111 (by kernel_rfl) rfl #[.int .i64 (wrap64 (t521 + 1))] rfl (by (try simp only [List.map_toArray, List.map_cons, List.map_nil]); first | done | rfl | (simp only [List.length_drop, List.length_take]; rfl)) ?_; (with_reducible refine (impl_NeverWord.calls (wrap64 (t521 + 1)) t531 false _ A112.out).mono ?_); rintro e w118 ⟨v533, rfl, ho0, hb⟩; refine ⟨_, rfl, ?_⟩; have n0_ := Aside0.mk (Kd.R_elder' (by (with_reducible repeat (first | apply Kd.R_alloc | apply Kd.R_drewN | apply Kd.R_drew)); exact HO_44.out) (Kd.R_base ho0) hb); have n1_ := Aside0.mk (Kd.R_lower (Kd.R_new' ho0 (Kd.R_lt (by (with_reducible repeat (first | apply Kd.R_alloc | apply Kd.R_drewN | apply Kd.R_drew)); exact HO_44.out))) (below_size (by repeat (first | (with_reducible first | exact HB.out | apply below_alloc | apply pw_below_drewN | apply below_drew1) | exact HB.out)))); have n2_ := Aside0.mk (below_step (by repeat (first | (with_reducible first | exact HB.out | apply below_alloc | apply pw_below_drewN | apply below_drew1) | exact HB.out)) hb); clear HO_44; clear HB; have HO_44 := n0_; have HO534 := n1_; have HB := n2_; clear n0_ n1_ n2_; (try clear hb); (try clear hb2); (try clear hk); (try clear hi); (try clear ho0)))
                     go_ret
                     exact ⟨by first | rfl | (simp [errW_none, errW_some] <;> rfl) | (simp [*, errW_none, errW_some] <;> rfl), by repeat (first | (with_reducible first | exact HB.out | apply below_alloc | apply pw_below_drewN | apply below_drew1) | exact HB.out)⟩
               ·replace c102 := Bool.eq_false_iff.mpr c102
                subst c102
                have H1 : (some true) = some r := by rw [if_neg (show ¬ (false = true) by decide)] at H; exact H
                clear H
                have H := H1
                clear H1
                as_aux_lemma =>
                 obtain rfl := Option.some.inj H
                 go_wp2
                 go_ret
                 exact ⟨by first | rfl | (simp [errW_none, errW_some] <;> rfl) | (simp [*, errW_none, errW_some] <;> rfl), by repeat (first | (with_reducible first | exact HB.out | apply below_alloc | apply pw_below_drewN | apply below_drew1) | exact HB.out)⟩

/-- THE ONE PURE STATEMENT of laws_FnRunsToSymmetric: yours. -/
def laws_FnRunsToSymmetric.Pure : Prop := ∀ (l0 : List Int) (l1 : List Int), l0.length ≤ maxLen → l0.length * 1 ≤ 140737488351232 → (∀ x ∈ l0, (Lit.int .u8 x).wf = true) → l1.length ≤ maxLen → l1.length * 1 ≤ 140737488351232 → (∀ x ∈ l1, (Lit.int .u8 x).wf = true) → ∃ k, laws_FnRunsToSymmetric.f k l0 l1 = some true
theorem laws_FnRunsToSymmetric.walk (P : laws_FnRunsToSymmetric.Pure) (a0 : Option Addr) (len0 cap0 : Nat) (z0 : List Int) (a1 : Option Addr) (len1 cap1 : Nat) (z1 : List Int) (w : World) (w0 : (a0 = none ∧ len0 = 0 ∧ cap0 = 0 ∧ z0 = []) ∨ ∃ x, a0 = some x ∧ len0 ≤ cap0 ∧ cap0 ≤ maxLen ∧ z0.length = cap0 ∧ (∀ i, i < z0.length → w.cell? (x.add i) = some (.int .u8 (z0.getD i 0))) ∧ ∀ n ∈ z0, (Lit.int .u8 n).wf = true) (y0 : len0 * 1 ≤ 140737488351232) (w1 : (a1 = none ∧ len1 = 0 ∧ cap1 = 0 ∧ z1 = []) ∨ ∃ x, a1 = some x ∧ len1 ≤ cap1 ∧ cap1 ≤ maxLen ∧ z1.length = cap1 ∧ (∀ i, i < z1.length → w.cell? (x.add i) = some (.int .u8 (z1.getD i 0))) ∧ ∀ n ∈ z1, (Lit.int .u8 n).wf = true) (y1 : len1 * 1 ≤ 140737488351232) :
  Calls Try.prog 9 #[.slice a0 len0 cap0, .slice a1 len1 cap1] w fun e w' => e = .returned (.bool true) ∧ Below w.heap.size w w' := by
 obtain ⟨l0, rfl, hr0, hm0, hw0, hc0⟩ := ReadsInt.ofRowC w0
 obtain ⟨l1, rfl, hr1, hm1, hw1, hc1⟩ := ReadsInt.ofRowC w1
 obtain ⟨k, h⟩ := P l0 l1 hm0 y0 hw0 hm1 y1 hw1
 refine (laws_FnRunsToSymmetric.calls k _ _ l0 _ _ l1 true w (Kd.C_of_reads (d := (0 : Int)) (h1 := fun _ => rfl) hr0) hc0 (Kd.C_of_reads (d := (0 : Int)) (h1 := fun _ => rfl) hr1) hc1 h rfl).mono ?_
 rintro e w' ⟨rfl, hd⟩
 exact ⟨rfl, hd⟩

end Go.Proofs.Ytiheocddlopfcaa.PFnRunsToSymmetric
