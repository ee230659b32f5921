-- out of the kit's print, turned by wip/own_print.py
import Derived.Test.YtclnhbppcmcalaaPFnStepsToOnex0
import Derived.Test.YtclnhbppcmcalaaPFnStepsToOnex1
import Derived.Test.YtclnhbppcmcalaaPFnStepsToOnex2
import Derived.Test.YtclnhbppcmcalaaPFnStepsToOnex3
import Derived.Test.YtclnhbppcmcalaaPFnStepsToOnex4
import Derived.Test.YtclnhbppcmcalaaPFnStepsToOnex5
import Derived.Test.YtclnhbppcmcalaaPFnStepsToOnex6
namespace Go.Proofs.Ytclnhbppcmcalaa.PFnStepsToOne
open Go.RowKit Go.Proofs.YtclnhbppcmcalaaW.PrintWords Go.Proofs.YtclnhbppcmcalaaW.PrintLast Go.Proofs.YtclnhbppcmcalaaW.PrintMore
attribute [local go_sem] max2_int min2_int max_two min_two max_three min_three max_four min_four   -- for this text's walks alone
set_option linter.unusedVariables false
set_option linter.unusedSimpArgs false

/-! ### laws_FnStepsToOne: function 3 -/
mutual
def laws_FnStepsToOne.j0 : Nat → List Int → Int → List Int → Bool → Int → Int → Bool → Option (Bool)
  | 0, _, _, _, _, _, _, _ => none
  | k + 1, x1, x5, x6, x7, x10, x14, x141 => if x141 = true then (some false) else (if x7 = true then (laws_FnStepsToOne.l0 k x1 x5 x6 x10 x14 0 x6 (x6.length : Int) 0) else (laws_FnStepsToOne.j3 k x1))
def laws_FnStepsToOne.j3 : Nat → List Int → Option (Bool)
  | 0, _ => none
  | k + 1, x1 => (spec_DrawLevelOf.f x1).bind fun t397 => ((impl_LevelOf.f k t397).bind fun bt398 => ((spec_LevelOf.f k t397).bind fun bt402 => (if (bt398.2 != bt402.2) = true then (laws_FnStepsToOne.j4 k x1 t397 bt398.1 bt398.2 true) else ((laws_rSame.f k bt398.1 bt402.1).bind fun t406 => (if t406 = true then ((laws_rRising.f k bt398.1).bind fun t407 => (laws_FnStepsToOne.j4 k x1 t397 bt398.1 bt398.2 (!t407))) else (laws_FnStepsToOne.j4 k x1 t397 bt398.1 bt398.2 true))))))
def laws_FnStepsToOne.j4 : Nat → List Int → Int → List Int → Bool → Bool → Option (Bool)
  | 0, _, _, _, _, _ => none
  | k + 1, x1, x25, x26, x27, x246 => if x246 = true then (some false) else (laws_FnStepsToOne.l1 k x1 x25 x26 x27 x26 (x26.length : Int) 0)
def laws_FnStepsToOne.l1 : Nat → List Int → Int → List Int → Bool → List Int → Int → Int → Option (Bool)
  | 0, _, _, _, _, _, _, _ => none
  | k + 1, x1, x25, x26, x27, x247, x248, x249 => if x249 < x248 then (if 0 ≤ x249 then (if x249 < (x247.length : Int) then ((impl_StepsTo.f k (rd x247 x249)).bind fun bt409 => (if bt409.2 = true then (if bt409.1 = x25 then (laws_FnStepsToOne.l1 k x1 x25 x26 x27 x247 x248 (wrap64 (x249 + 1))) else (some false)) else (some false))) else (none)) else (none)) else (if x27 = true then (laws_FnStepsToOne.j6 k x1 x25 x26 (decide (x25 ≤ 8))) else (laws_FnStepsToOne.j6 k x1 x25 x26 false))
def laws_FnStepsToOne.j6 : Nat → List Int → Int → List Int → Bool → Option (Bool)
  | 0, _, _, _, _ => none
  | k + 1, x1, x25, x26, x270 => if x270 = true then (laws_FnStepsToOne.l2 k x1 x25 x26 1) else (laws_FnStepsToOne.j8 k x1)
def laws_FnStepsToOne.j8 : Nat → List Int → Option (Bool)
  | 0, _ => none
  | k + 1, x1 => (spec_DrawRecordsUpTo.f x1).bind fun t414 => ((impl_RecordsUpTo.f k t414).bind fun bt415 => ((spec_RecordsUpTo.f k t414).bind fun bt419 => (if (bt415.2 != bt419.2) = true then (laws_FnStepsToOne.j9 k x1 t414 bt415.1 true) else ((laws_rSame.f k bt415.1 bt419.1).bind fun t423 => (if t423 = true then ((laws_rRising.f k bt415.1).bind fun t424 => (laws_FnStepsToOne.j9 k x1 t414 bt415.1 (!t424))) else (laws_FnStepsToOne.j9 k x1 t414 bt415.1 true))))))
def laws_FnStepsToOne.j9 : Nat → List Int → Int → List Int → Bool → Option (Bool)
  | 0, _, _, _, _ => none
  | k + 1, x1, x37, x38, x316 => if x316 = true then (some false) else (laws_FnStepsToOne.l3 k x1 x37 (-1) x38 (x38.length : Int) 0)
def laws_FnStepsToOne.l3 : Nat → List Int → Int → Int → List Int → Int → Int → Option (Bool)
  | 0, _, _, _, _, _, _ => none
  | k + 1, x1, x37, x42, x317, x318, x319 => if x319 < x318 then (if 0 ≤ x319 then (if x319 < (x317.length : Int) then ((impl_StepsTo.f k (rd x317 x319)).bind fun bt426 => (if bt426.2 = true then (if bt426.1 ≤ x42 then (some false) else (if (rd x317 x319) > x37 then (some false) else (laws_FnStepsToOne.l3 k x1 x37 bt426.1 x317 x318 (wrap64 (x319 + 1))))) else (some false))) else (none)) else (none)) else ((spec_DrawStepOf.f k x1).bind fun t428 => ((impl_StepOf.f t428).bind fun bt429 => ((spec_StepOf.f t428).bind fun bt431 => ((impl_ShortStep.f t428).bind fun bt433 => ((spec_ShortStep.f t428).bind fun bt435 => ((impl_BeforeStep.f k t428).bind fun bt437 => ((spec_BeforeStep.f t428).bind fun bt441 => ((impl_FallsBelow.f k t428).bind fun bt445 => ((spec_FallsBelow.f k t428).bind fun bt447 => (if (bt429.2 != bt431.2) = true then (laws_FnStepsToOne.j11 k t428 bt445.1 bt445.2 true) else (if bt429.1 = bt431.1 then (if (bt433.2 != bt435.2) = true then (laws_FnStepsToOne.j11 k t428 bt445.1 bt445.2 true) else (if bt433.1 = bt435.1 then (if (bt437.2 != bt441.2) = true then (laws_FnStepsToOne.j11 k t428 bt445.1 bt445.2 true) else ((laws_rSame.f k bt437.1 bt441.1).bind fun t449 => (if t449 = true then (if (bt445.2 != bt447.2) = true then (laws_FnStepsToOne.j11 k t428 bt445.1 bt445.2 true) else (laws_FnStepsToOne.j11 k t428 bt445.1 bt445.2 (bt445.1 != bt447.1))) else (laws_FnStepsToOne.j11 k t428 bt445.1 bt445.2 true)))) else (laws_FnStepsToOne.j11 k t428 bt445.1 bt445.2 true))) else (laws_FnStepsToOne.j11 k t428 bt445.1 bt445.2 true))))))))))))
def laws_FnStepsToOne.j11 : Nat → Int → Int → Bool → Bool → Option (Bool)
  | 0, _, _, _, _ => none
  | k + 1, x47, x60, x61, x422 => if x422 = true then (some false) else (if x61 = true then (laws_FnStepsToOne.l4 k x47 x60 x47 0) else (some true))
def laws_FnStepsToOne.l4 : Nat → Int → Int → Int → Int → Option (Bool)
  | 0, _, _, _, _ => none
  | k + 1, x47, x60, x64, x65 => if x65 < x60 then (if x64 < x47 then (some false) else ((impl_StepOf.f x64).bind fun bt450 => (if bt450.2 = true then (laws_FnStepsToOne.l4 k x47 x60 bt450.1 (wrap64 (x65 + 1))) else (some false)))) else (some (decide (x64 < x47)))
def laws_FnStepsToOne.l2 : Nat → List Int → Int → List Int → Int → Option (Bool)
  | 0, _, _, _, _ => none
  | k + 1, x1, x25, x26, x34 => if x34 ≤ 256 then ((impl_StepsTo.f k x34).bind fun bt411 => (if bt411.2 = true then ((laws_rHas.f k x26 x34).bind fun t413 => (if ((bt411.1 == x25) != t413) = true then (some false) else (laws_FnStepsToOne.l2 k x1 x25 x26 (wrap64 (x34 + 1))))) else (some false))) else (laws_FnStepsToOne.j8 k x1)
def laws_FnStepsToOne.l0 : Nat → List Int → Int → List Int → Int → Int → Int → List Int → Int → Int → Option (Bool)
  | 0, _, _, _, _, _, _, _, _, _ => none
  | k + 1, x1, x5, x6, x10, x14, x18, x143, x144, x145 => if x145 < x144 then (if 0 ≤ x145 then (if x145 < (x143.length : Int) then (if (rd x143 x145) > x18 then (laws_FnStepsToOne.j2 k x1 x5 x6 x10 x14 (rd x143 x145) x145 (rd x143 x145) x143 x144 x145) else (laws_FnStepsToOne.j2 k x1 x5 x6 x10 x14 x18 x145 (rd x143 x145) x143 x144 x145)) else (none)) else (none)) else (if 0 < (x6.length : Int) then (if (rd x6 0) = x5 then (if 0 ≤ (wrap64 ((x6.length : Int) - 1)) then (if (wrap64 ((x6.length : Int) - 1)) < (x6.length : Int) then (if (rd x6 (wrap64 ((x6.length : Int) - 1))) = 1 then (if (x6.length : Int) = (wrap64 (x10 + 1)) then (if x18 = x14 then (laws_FnStepsToOne.j3 k x1) else (some false)) else (some false)) else (some false)) else (none)) else (none)) else (some false)) else (none))
def laws_FnStepsToOne.j2 : Nat → List Int → Int → List Int → Int → Int → Int → Int → Int → List Int → Int → Int → Option (Bool)
  | 0, _, _, _, _, _, _, _, _, _, _, _ => none
  | k + 1, x1, x5, x6, x10, x14, x18, x19, x20, x143, x144, x145 => if (wrap64 (x19 + 1)) < (x6.length : Int) then ((impl_StepOf.f x20).bind fun bt389 => ((impl_BeforeStep.f k bt389.1).bind fun bt391 => (if bt389.2 = true then (if 0 ≤ (wrap64 (x19 + 1)) then (if bt389.1 = (rd x6 (wrap64 (x19 + 1))) then (if bt391.2 = true then ((laws_rHas.f k bt391.1 x20).bind fun t396 => (if t396 = true then (if x20 = 1 then (some false) else (laws_FnStepsToOne.l0 k x1 x5 x6 x10 x14 x18 x143 x144 (wrap64 (x145 + 1)))) else (some false))) else (some false)) else (some false)) else (none)) else (some false)))) else (laws_FnStepsToOne.l0 k x1 x5 x6 x10 x14 x18 x143 x144 (wrap64 (x145 + 1)))
end
def laws_FnStepsToOne.f (k : Nat) (l0 : List Int) (l1 : List Int) : Option (Bool) := (laws_big.f l0 l1).bind fun t367 => (if t367 = true then (some true) else ((spec_DrawWayToOne.f k l0).bind fun t368 => ((impl_WayToOne.f k t368).bind fun bt369 => ((spec_WayToOne.f k t368).bind fun bt373 => ((impl_StepsTo.f k t368).bind fun bt377 => ((spec_StepsTo.f k t368).bind fun bt379 => ((impl_GreatestOn.f k t368).bind fun bt381 => ((spec_GreatestOn.f k t368).bind fun bt383 => (if (bt369.2 != bt373.2) = true then (laws_FnStepsToOne.j0 k l1 t368 bt369.1 bt369.2 bt377.1 bt381.1 true) else ((laws_rSame.f k bt369.1 bt373.1).bind fun t385 => (if t385 = true then (if (bt377.2 != bt379.2) = true then (laws_FnStepsToOne.j0 k l1 t368 bt369.1 bt369.2 bt377.1 bt381.1 true) else (if bt377.1 = bt379.1 then (if (bt381.2 != bt383.2) = true then (laws_FnStepsToOne.j0 k l1 t368 bt369.1 bt369.2 bt377.1 bt381.1 true) else (if bt381.1 = bt383.1 then (if (bt377.2 != bt369.2) = true then (laws_FnStepsToOne.j0 k l1 t368 bt369.1 bt369.2 bt377.1 bt381.1 true) else (laws_FnStepsToOne.j0 k l1 t368 bt369.1 bt369.2 bt377.1 bt381.1 (bt381.2 != bt369.2))) else (laws_FnStepsToOne.j0 k l1 t368 bt369.1 bt369.2 bt377.1 bt381.1 true))) else (laws_FnStepsToOne.j0 k l1 t368 bt369.1 bt369.2 bt377.1 bt381.1 true))) else (laws_FnStepsToOne.j0 k l1 t368 bt369.1 bt369.2 bt377.1 bt381.1 true))))))))))))
theorem laws_FnStepsToOne.mono_l : ∀ k, (∀ y0 y1 y2 y3 y4 y5 y6, LeO (laws_FnStepsToOne.j0 k y0 y1 y2 y3 y4 y5 y6) (laws_FnStepsToOne.j0 (k + 1) y0 y1 y2 y3 y4 y5 y6)) ∧ (∀ y0, LeO (laws_FnStepsToOne.j3 k y0) (laws_FnStepsToOne.j3 (k + 1) y0)) ∧ (∀ y0 y1 y2 y3 y4, LeO (laws_FnStepsToOne.j4 k y0 y1 y2 y3 y4) (laws_FnStepsToOne.j4 (k + 1) y0 y1 y2 y3 y4)) ∧ (∀ y0 y1 y2 y3 y4 y5 y6, LeO (laws_FnStepsToOne.l1 k y0 y1 y2 y3 y4 y5 y6) (laws_FnStepsToOne.l1 (k + 1) y0 y1 y2 y3 y4 y5 y6)) ∧ (∀ y0 y1 y2 y3, LeO (laws_FnStepsToOne.j6 k y0 y1 y2 y3) (laws_FnStepsToOne.j6 (k + 1) y0 y1 y2 y3)) ∧ (∀ y0, LeO (laws_FnStepsToOne.j8 k y0) (laws_FnStepsToOne.j8 (k + 1) y0)) ∧ (∀ y0 y1 y2 y3, LeO (laws_FnStepsToOne.j9 k y0 y1 y2 y3) (laws_FnStepsToOne.j9 (k + 1) y0 y1 y2 y3)) ∧ (∀ y0 y1 y2 y3 y4 y5, LeO (laws_FnStepsToOne.l3 k y0 y1 y2 y3 y4 y5) (laws_FnStepsToOne.l3 (k + 1) y0 y1 y2 y3 y4 y5)) ∧ (∀ y0 y1 y2 y3, LeO (laws_FnStepsToOne.j11 k y0 y1 y2 y3) (laws_FnStepsToOne.j11 (k + 1) y0 y1 y2 y3)) ∧ (∀ y0 y1 y2 y3, LeO (laws_FnStepsToOne.l4 k y0 y1 y2 y3) (laws_FnStepsToOne.l4 (k + 1) y0 y1 y2 y3)) ∧ (∀ y0 y1 y2 y3, LeO (laws_FnStepsToOne.l2 k y0 y1 y2 y3) (laws_FnStepsToOne.l2 (k + 1) y0 y1 y2 y3)) ∧ (∀ y0 y1 y2 y3 y4 y5 y6 y7 y8, LeO (laws_FnStepsToOne.l0 k y0 y1 y2 y3 y4 y5 y6 y7 y8) (laws_FnStepsToOne.l0 (k + 1) y0 y1 y2 y3 y4 y5 y6 y7 y8)) ∧ (∀ y0 y1 y2 y3 y4 y5 y6 y7 y8 y9 y10, LeO (laws_FnStepsToOne.j2 k y0 y1 y2 y3 y4 y5 y6 y7 y8 y9 y10) (laws_FnStepsToOne.j2 (k + 1) y0 y1 y2 y3 y4 y5 y6 y7 y8 y9 y10))
  | 0 => ⟨fun _ _ _ _ _ _ _ r h => by simp [laws_FnStepsToOne.j0] at h, fun _ r h => by simp [laws_FnStepsToOne.j3] at h, fun _ _ _ _ _ r h => by simp [laws_FnStepsToOne.j4] at h, fun _ _ _ _ _ _ _ r h => by simp [laws_FnStepsToOne.l1] at h, fun _ _ _ _ r h => by simp [laws_FnStepsToOne.j6] at h, fun _ r h => by simp [laws_FnStepsToOne.j8] at h, fun _ _ _ _ r h => by simp [laws_FnStepsToOne.j9] at h, fun _ _ _ _ _ _ r h => by simp [laws_FnStepsToOne.l3] at h, fun _ _ _ _ r h => by simp [laws_FnStepsToOne.j11] at h, fun _ _ _ _ r h => by simp [laws_FnStepsToOne.l4] at h, fun _ _ _ _ r h => by simp [laws_FnStepsToOne.l2] at h, fun _ _ _ _ _ _ _ _ _ r h => by simp [laws_FnStepsToOne.l0] at h, fun _ _ _ _ _ _ _ _ _ _ _ r h => by simp [laws_FnStepsToOne.j2] at h⟩
  | k + 1 => by
    obtain ⟨ih0, ih1, ih2, ih3, ih4, ih5, ih6, ih7, ih8, ih9, ih10, ih11, ih12⟩ := laws_FnStepsToOne.mono_l k
    refine ⟨?_, ?_, ?_, ?_, ?_, ?_, ?_, ?_, ?_, ?_, ?_, ?_, ?_⟩
    · intro y0 y1 y2 y3 y4 y5 y6
      unfold laws_FnStepsToOne.j0
      repeat' first
      | (with_reducible exact ih0 _ _ _ _ _ _ _)
      | (with_reducible exact ih1 _)
      | (with_reducible exact ih2 _ _ _ _ _)
      | (with_reducible exact ih3 _ _ _ _ _ _ _)
      | (with_reducible exact ih4 _ _ _ _)
      | (with_reducible exact ih5 _)
      | (with_reducible exact ih6 _ _ _ _)
      | (with_reducible exact ih7 _ _ _ _ _ _)
      | (with_reducible exact ih8 _ _ _ _)
      | (with_reducible exact ih9 _ _ _ _)
      | (with_reducible exact ih10 _ _ _ _)
      | (with_reducible exact ih11 _ _ _ _ _ _ _ _ _)
      | (with_reducible exact ih12 _ _ _ _ _ _ _ _ _ _ _)
      | (with_reducible exact impl_BeforeStep.mono _ _)
      | (with_reducible exact impl_FallsBelow.mono _ _)
      | (with_reducible exact impl_GreatestOn.mono _ _)
      | (with_reducible exact impl_LevelOf.mono _ _)
      | (with_reducible exact impl_RecordsUpTo.mono _ _)
      | (with_reducible exact impl_StepsTo.mono _ _)
      | (with_reducible exact impl_WayToOne.mono _ _)
      | (with_reducible exact laws_rHas.mono _ _ _)
      | (with_reducible exact laws_rRising.mono _ _)
      | (with_reducible exact laws_rSame.mono _ _ _)
      | (with_reducible exact spec_DrawStepOf.mono _ _)
      | (with_reducible exact spec_DrawWayToOne.mono _ _)
      | (with_reducible exact spec_FallsBelow.mono _ _)
      | (with_reducible exact spec_GreatestOn.mono _ _)
      | (with_reducible exact spec_LevelOf.mono _ _)
      | (with_reducible exact spec_RecordsUpTo.mono _ _)
      | (with_reducible exact spec_StepsTo.mono _ _)
      | (with_reducible exact spec_WayToOne.mono _ _)
      | (with_reducible exact LeO.refl _)
      | (with_reducible exact LeO.none _)
      | (with_reducible refine LeO.ite ?_ ?_)
      | (with_reducible refine LeO.bind ?_ (fun _ => ?_))
      | exact ih0 _ _ _ _ _ _ _
      | exact ih1 _
      | exact ih2 _ _ _ _ _
      | exact ih3 _ _ _ _ _ _ _
      | exact ih4 _ _ _ _
      | exact ih5 _
      | exact ih6 _ _ _ _
      | exact ih7 _ _ _ _ _ _
      | exact ih8 _ _ _ _
      | exact ih9 _ _ _ _
      | exact ih10 _ _ _ _
      | exact ih11 _ _ _ _ _ _ _ _ _
      | exact ih12 _ _ _ _ _ _ _ _ _ _ _
      | exact impl_BeforeStep.mono _ _
      | exact impl_FallsBelow.mono _ _
      | exact impl_GreatestOn.mono _ _
      | exact impl_LevelOf.mono _ _
      | exact impl_RecordsUpTo.mono _ _
      | exact impl_StepsTo.mono _ _
      | exact impl_WayToOne.mono _ _
      | exact laws_rHas.mono _ _ _
      | exact laws_rRising.mono _ _
      | exact laws_rSame.mono _ _ _
      | exact spec_DrawStepOf.mono _ _
      | exact spec_DrawWayToOne.mono _ _
      | exact spec_FallsBelow.mono _ _
      | exact spec_GreatestOn.mono _ _
      | exact spec_LevelOf.mono _ _
      | exact spec_RecordsUpTo.mono _ _
      | exact spec_StepsTo.mono _ _
      | exact spec_WayToOne.mono _ _
      | exact LeO.none _
      | refine LeO.ite ?_ ?_
      | refine LeO.bind ?_ (fun _ => ?_)
    · intro y0
      unfold laws_FnStepsToOne.j3
      repeat' first
      | (with_reducible exact ih0 _ _ _ _ _ _ _)
      | (with_reducible exact ih1 _)
      | (with_reducible exact ih2 _ _ _ _ _)
      | (with_reducible exact ih3 _ _ _ _ _ _ _)
      | (with_reducible exact ih4 _ _ _ _)
      | (with_reducible exact ih5 _)
      | (with_reducible exact ih6 _ _ _ _)
      | (with_reducible exact ih7 _ _ _ _ _ _)
      | (with_reducible exact ih8 _ _ _ _)
      | (with_reducible exact ih9 _ _ _ _)
      | (with_reducible exact ih10 _ _ _ _)
      | (with_reducible exact ih11 _ _ _ _ _ _ _ _ _)
      | (with_reducible exact ih12 _ _ _ _ _ _ _ _ _ _ _)
      | (with_reducible exact impl_BeforeStep.mono _ _)
      | (with_reducible exact impl_FallsBelow.mono _ _)
      | (with_reducible exact impl_GreatestOn.mono _ _)
      | (with_reducible exact impl_LevelOf.mono _ _)
      | (with_reducible exact impl_RecordsUpTo.mono _ _)
      | (with_reducible exact impl_StepsTo.mono _ _)
      | (with_reducible exact impl_WayToOne.mono _ _)
      | (with_reducible exact laws_rHas.mono _ _ _)
      | (with_reducible exact laws_rRising.mono _ _)
      | (with_reducible exact laws_rSame.mono _ _ _)
      | (with_reducible exact spec_DrawStepOf.mono _ _)
      | (with_reducible exact spec_DrawWayToOne.mono _ _)
      | (with_reducible exact spec_FallsBelow.mono _ _)
      | (with_reducible exact spec_GreatestOn.mono _ _)
      | (with_reducible exact spec_LevelOf.mono _ _)
      | (with_reducible exact spec_RecordsUpTo.mono _ _)
      | (with_reducible exact spec_StepsTo.mono _ _)
      | (with_reducible exact spec_WayToOne.mono _ _)
      | (with_reducible exact LeO.refl _)
      | (with_reducible exact LeO.none _)
      | (with_reducible refine LeO.ite ?_ ?_)
      | (with_reducible refine LeO.bind ?_ (fun _ => ?_))
      | exact ih0 _ _ _ _ _ _ _
      | exact ih1 _
      | exact ih2 _ _ _ _ _
      | exact ih3 _ _ _ _ _ _ _
      | exact ih4 _ _ _ _
      | exact ih5 _
      | exact ih6 _ _ _ _
      | exact ih7 _ _ _ _ _ _
      | exact ih8 _ _ _ _
      | exact ih9 _ _ _ _
      | exact ih10 _ _ _ _
      | exact ih11 _ _ _ _ _ _ _ _ _
      | exact ih12 _ _ _ _ _ _ _ _ _ _ _
      | exact impl_BeforeStep.mono _ _
      | exact impl_FallsBelow.mono _ _
      | exact impl_GreatestOn.mono _ _
      | exact impl_LevelOf.mono _ _
      | exact impl_RecordsUpTo.mono _ _
      | exact impl_StepsTo.mono _ _
      | exact impl_WayToOne.mono _ _
      | exact laws_rHas.mono _ _ _
      | exact laws_rRising.mono _ _
      | exact laws_rSame.mono _ _ _
      | exact spec_DrawStepOf.mono _ _
      | exact spec_DrawWayToOne.mono _ _
      | exact spec_FallsBelow.mono _ _
      | exact spec_GreatestOn.mono _ _
      | exact spec_LevelOf.mono _ _
      | exact spec_RecordsUpTo.mono _ _
      | exact spec_StepsTo.mono _ _
      | exact spec_WayToOne.mono _ _
      | exact LeO.none _
      | refine LeO.ite ?_ ?_
      | refine LeO.bind ?_ (fun _ => ?_)
    · intro y0 y1 y2 y3 y4
      unfold laws_FnStepsToOne.j4
      repeat' first
      | (with_reducible exact ih0 _ _ _ _ _ _ _)
      | (with_reducible exact ih1 _)
      | (with_reducible exact ih2 _ _ _ _ _)
      | (with_reducible exact ih3 _ _ _ _ _ _ _)
      | (with_reducible exact ih4 _ _ _ _)
      | (with_reducible exact ih5 _)
      | (with_reducible exact ih6 _ _ _ _)
      | (with_reducible exact ih7 _ _ _ _ _ _)
      | (with_reducible exact ih8 _ _ _ _)
      | (with_reducible exact ih9 _ _ _ _)
      | (with_reducible exact ih10 _ _ _ _)
      | (with_reducible exact ih11 _ _ _ _ _ _ _ _ _)
      | (with_reducible exact ih12 _ _ _ _ _ _ _ _ _ _ _)
      | (with_reducible exact impl_BeforeStep.mono _ _)
      | (with_reducible exact impl_FallsBelow.mono _ _)
      | (with_reducible exact impl_GreatestOn.mono _ _)
      | (with_reducible exact impl_LevelOf.mono _ _)
      | (with_reducible exact impl_RecordsUpTo.mono _ _)
      | (with_reducible exact impl_StepsTo.mono _ _)
      | (with_reducible exact impl_WayToOne.mono _ _)
      | (with_reducible exact laws_rHas.mono _ _ _)
      | (with_reducible exact laws_rRising.mono _ _)
      | (with_reducible exact laws_rSame.mono _ _ _)
      | (with_reducible exact spec_DrawStepOf.mono _ _)
      | (with_reducible exact spec_DrawWayToOne.mono _ _)
      | (with_reducible exact spec_FallsBelow.mono _ _)
      | (with_reducible exact spec_GreatestOn.mono _ _)
      | (with_reducible exact spec_LevelOf.mono _ _)
      | (with_reducible exact spec_RecordsUpTo.mono _ _)
      | (with_reducible exact spec_StepsTo.mono _ _)
      | (with_reducible exact spec_WayToOne.mono _ _)
      | (with_reducible exact LeO.refl _)
      | (with_reducible exact LeO.none _)
      | (with_reducible refine LeO.ite ?_ ?_)
      | (with_reducible refine LeO.bind ?_ (fun _ => ?_))
      | exact ih0 _ _ _ _ _ _ _
      | exact ih1 _
      | exact ih2 _ _ _ _ _
      | exact ih3 _ _ _ _ _ _ _
      | exact ih4 _ _ _ _
      | exact ih5 _
      | exact ih6 _ _ _ _
      | exact ih7 _ _ _ _ _ _
      | exact ih8 _ _ _ _
      | exact ih9 _ _ _ _
      | exact ih10 _ _ _ _
      | exact ih11 _ _ _ _ _ _ _ _ _
      | exact ih12 _ _ _ _ _ _ _ _ _ _ _
      | exact impl_BeforeStep.mono _ _
      | exact impl_FallsBelow.mono _ _
      | exact impl_GreatestOn.mono _ _
      | exact impl_LevelOf.mono _ _
      | exact impl_RecordsUpTo.mono _ _
      | exact impl_StepsTo.mono _ _
      | exact impl_WayToOne.mono _ _
      | exact laws_rHas.mono _ _ _
      | exact laws_rRising.mono _ _
      | exact laws_rSame.mono _ _ _
      | exact spec_DrawStepOf.mono _ _
      | exact spec_DrawWayToOne.mono _ _
      | exact spec_FallsBelow.mono _ _
      | exact spec_GreatestOn.mono _ _
      | exact spec_LevelOf.mono _ _
      | exact spec_RecordsUpTo.mono _ _
      | exact spec_StepsTo.mono _ _
      | exact spec_WayToOne.mono _ _
      | exact LeO.none _
      | refine LeO.ite ?_ ?_
      | refine LeO.bind ?_ (fun _ => ?_)
    · intro y0 y1 y2 y3 y4 y5 y6
      unfold laws_FnStepsToOne.l1
      repeat' first
      | (with_reducible exact ih0 _ _ _ _ _ _ _)
      | (with_reducible exact ih1 _)
      | (with_reducible exact ih2 _ _ _ _ _)
      | (with_reducible exact ih3 _ _ _ _ _ _ _)
      | (with_reducible exact ih4 _ _ _ _)
      | (with_reducible exact ih5 _)
      | (with_reducible exact ih6 _ _ _ _)
      | (with_reducible exact ih7 _ _ _ _ _ _)
      | (with_reducible exact ih8 _ _ _ _)
      | (with_reducible exact ih9 _ _ _ _)
      | (with_reducible exact ih10 _ _ _ _)
      | (with_reducible exact ih11 _ _ _ _ _ _ _ _ _)
      | (with_reducible exact ih12 _ _ _ _ _ _ _ _ _ _ _)
      | (with_reducible exact impl_BeforeStep.mono _ _)
      | (with_reducible exact impl_FallsBelow.mono _ _)
      | (with_reducible exact impl_GreatestOn.mono _ _)
      | (with_reducible exact impl_LevelOf.mono _ _)
      | (with_reducible exact impl_RecordsUpTo.mono _ _)
      | (with_reducible exact impl_StepsTo.mono _ _)
      | (with_reducible exact impl_WayToOne.mono _ _)
      | (with_reducible exact laws_rHas.mono _ _ _)
      | (with_reducible exact laws_rRising.mono _ _)
      | (with_reducible exact laws_rSame.mono _ _ _)
      | (with_reducible exact spec_DrawStepOf.mono _ _)
      | (with_reducible exact spec_DrawWayToOne.mono _ _)
      | (with_reducible exact spec_FallsBelow.mono _ _)
      | (with_reducible exact spec_GreatestOn.mono _ _)
      | (with_reducible exact spec_LevelOf.mono _ _)
      | (with_reducible exact spec_RecordsUpTo.mono _ _)
      | (with_reducible exact spec_StepsTo.mono _ _)
      | (with_reducible exact spec_WayToOne.mono _ _)
      | (with_reducible exact LeO.refl _)
      | (with_reducible exact LeO.none _)
      | (with_reducible refine LeO.ite ?_ ?_)
      | (with_reducible refine LeO.bind ?_ (fun _ => ?_))
      | exact ih0 _ _ _ _ _ _ _
      | exact ih1 _
      | exact ih2 _ _ _ _ _
      | exact ih3 _ _ _ _ _ _ _
      | exact ih4 _ _ _ _
      | exact ih5 _
      | exact ih6 _ _ _ _
      | exact ih7 _ _ _ _ _ _
      | exact ih8 _ _ _ _
      | exact ih9 _ _ _ _
      | exact ih10 _ _ _ _
      | exact ih11 _ _ _ _ _ _ _ _ _
      | exact ih12 _ _ _ _ _ _ _ _ _ _ _
      | exact impl_BeforeStep.mono _ _
      | exact impl_FallsBelow.mono _ _
      | exact impl_GreatestOn.mono _ _
      | exact impl_LevelOf.mono _ _
      | exact impl_RecordsUpTo.mono _ _
      | exact impl_StepsTo.mono _ _
      | exact impl_WayToOne.mono _ _
      | exact laws_rHas.mono _ _ _
      | exact laws_rRising.mono _ _
      | exact laws_rSame.mono _ _ _
      | exact spec_DrawStepOf.mono _ _
      | exact spec_DrawWayToOne.mono _ _
      | exact spec_FallsBelow.mono _ _
      | exact spec_GreatestOn.mono _ _
      | exact spec_LevelOf.mono _ _
      | exact spec_RecordsUpTo.mono _ _
      | exact spec_StepsTo.mono _ _
      | exact spec_WayToOne.mono _ _
      | exact LeO.none _
      | refine LeO.ite ?_ ?_
      | refine LeO.bind ?_ (fun _ => ?_)
    · intro y0 y1 y2 y3
      unfold laws_FnStepsToOne.j6
      repeat' first
      | (with_reducible exact ih0 _ _ _ _ _ _ _)
      | (with_reducible exact ih1 _)
      | (with_reducible exact ih2 _ _ _ _ _)
      | (with_reducible exact ih3 _ _ _ _ _ _ _)
      | (with_reducible exact ih4 _ _ _ _)
      | (with_reducible exact ih5 _)
      | (with_reducible exact ih6 _ _ _ _)
      | (with_reducible exact ih7 _ _ _ _ _ _)
      | (with_reducible exact ih8 _ _ _ _)
      | (with_reducible exact ih9 _ _ _ _)
      | (with_reducible exact ih10 _ _ _ _)
      | (with_reducible exact ih11 _ _ _ _ _ _ _ _ _)
      | (with_reducible exact ih12 _ _ _ _ _ _ _ _ _ _ _)
      | (with_reducible exact impl_BeforeStep.mono _ _)
      | (with_reducible exact impl_FallsBelow.mono _ _)
      | (with_reducible exact impl_GreatestOn.mono _ _)
      | (with_reducible exact impl_LevelOf.mono _ _)
      | (with_reducible exact impl_RecordsUpTo.mono _ _)
      | (with_reducible exact impl_StepsTo.mono _ _)
      | (with_reducible exact impl_WayToOne.mono _ _)
      | (with_reducible exact laws_rHas.mono _ _ _)
      | (with_reducible exact laws_rRising.mono _ _)
      | (with_reducible exact laws_rSame.mono _ _ _)
      | (with_reducible exact spec_DrawStepOf.mono _ _)
      | (with_reducible exact spec_DrawWayToOne.mono _ _)
      | (with_reducible exact spec_FallsBelow.mono _ _)
      | (with_reducible exact spec_GreatestOn.mono _ _)
      | (with_reducible exact spec_LevelOf.mono _ _)
      | (with_reducible exact spec_RecordsUpTo.mono _ _)
      | (with_reducible exact spec_StepsTo.mono _ _)
      | (with_reducible exact spec_WayToOne.mono _ _)
      | (with_reducible exact LeO.refl _)
      | (with_reducible exact LeO.none _)
      | (with_reducible refine LeO.ite ?_ ?_)
      | (with_reducible refine LeO.bind ?_ (fun _ => ?_))
      | exact ih0 _ _ _ _ _ _ _
      | exact ih1 _
      | exact ih2 _ _ _ _ _
      | exact ih3 _ _ _ _ _ _ _
      | exact ih4 _ _ _ _
      | exact ih5 _
      | exact ih6 _ _ _ _
      | exact ih7 _ _ _ _ _ _
      | exact ih8 _ _ _ _
      | exact ih9 _ _ _ _
      | exact ih10 _ _ _ _
      | exact ih11 _ _ _ _ _ _ _ _ _
      | exact ih12 _ _ _ _ _ _ _ _ _ _ _
      | exact impl_BeforeStep.mono _ _
      | exact impl_FallsBelow.mono _ _
      | exact impl_GreatestOn.mono _ _
      | exact impl_LevelOf.mono _ _
      | exact impl_RecordsUpTo.mono _ _
      | exact impl_StepsTo.mono _ _
      | exact impl_WayToOne.mono _ _
      | exact laws_rHas.mono _ _ _
      | exact laws_rRising.mono _ _
      | exact laws_rSame.mono _ _ _
      | exact spec_DrawStepOf.mono _ _
      | exact spec_DrawWayToOne.mono _ _
      | exact spec_FallsBelow.mono _ _
      | exact spec_GreatestOn.mono _ _
      | exact spec_LevelOf.mono _ _
      | exact spec_RecordsUpTo.mono _ _
      | exact spec_StepsTo.mono _ _
      | exact spec_WayToOne.mono _ _
      | exact LeO.none _
      | refine LeO.ite ?_ ?_
      | refine LeO.bind ?_ (fun _ => ?_)
    · intro y0
      unfold laws_FnStepsToOne.j8
      repeat' first
      | (with_reducible exact ih0 _ _ _ _ _ _ _)
      | (with_reducible exact ih1 _)
      | (with_reducible exact ih2 _ _ _ _ _)
      | (with_reducible exact ih3 _ _ _ _ _ _ _)
      | (with_reducible exact ih4 _ _ _ _)
      | (with_reducible exact ih5 _)
      | (with_reducible exact ih6 _ _ _ _)
      | (with_reducible exact ih7 _ _ _ _ _ _)
      | (with_reducible exact ih8 _ _ _ _)
      | (with_reducible exact ih9 _ _ _ _)
      | (with_reducible exact ih10 _ _ _ _)
      | (with_reducible exact ih11 _ _ _ _ _ _ _ _ _)
      | (with_reducible exact ih12 _ _ _ _ _ _ _ _ _ _ _)
      | (with_reducible exact impl_BeforeStep.mono _ _)
      | (with_reducible exact impl_FallsBelow.mono _ _)
      | (with_reducible exact impl_GreatestOn.mono _ _)
      | (with_reducible exact impl_LevelOf.mono _ _)
      | (with_reducible exact impl_RecordsUpTo.mono _ _)
      | (with_reducible exact impl_StepsTo.mono _ _)
      | (with_reducible exact impl_WayToOne.mono _ _)
      | (with_reducible exact laws_rHas.mono _ _ _)
      | (with_reducible exact laws_rRising.mono _ _)
      | (with_reducible exact laws_rSame.mono _ _ _)
      | (with_reducible exact spec_DrawStepOf.mono _ _)
      | (with_reducible exact spec_DrawWayToOne.mono _ _)
      | (with_reducible exact spec_FallsBelow.mono _ _)
      | (with_reducible exact spec_GreatestOn.mono _ _)
      | (with_reducible exact spec_LevelOf.mono _ _)
      | (with_reducible exact spec_RecordsUpTo.mono _ _)
      | (with_reducible exact spec_StepsTo.mono _ _)
      | (with_reducible exact spec_WayToOne.mono _ _)
      | (with_reducible exact LeO.refl _)
      | (with_reducible exact LeO.none _)
      | (with_reducible refine LeO.ite ?_ ?_)
      | (with_reducible refine LeO.bind ?_ (fun _ => ?_))
      | exact ih0 _ _ _ _ _ _ _
      | exact ih1 _
      | exact ih2 _ _ _ _ _
      | exact ih3 _ _ _ _ _ _ _
      | exact ih4 _ _ _ _
      | exact ih5 _
      | exact ih6 _ _ _ _
      | exact ih7 _ _ _ _ _ _
      | exact ih8 _ _ _ _
      | exact ih9 _ _ _ _
      | exact ih10 _ _ _ _
      | exact ih11 _ _ _ _ _ _ _ _ _
      | exact ih12 _ _ _ _ _ _ _ _ _ _ _
      | exact impl_BeforeStep.mono _ _
      | exact impl_FallsBelow.mono _ _
      | exact impl_GreatestOn.mono _ _
      | exact impl_LevelOf.mono _ _
      | exact impl_RecordsUpTo.mono _ _
      | exact impl_StepsTo.mono _ _
      | exact impl_WayToOne.mono _ _
      | exact laws_rHas.mono _ _ _
      | exact laws_rRising.mono _ _
      | exact laws_rSame.mono _ _ _
      | exact spec_DrawStepOf.mono _ _
      | exact spec_DrawWayToOne.mono _ _
      | exact spec_FallsBelow.mono _ _
      | exact spec_GreatestOn.mono _ _
      | exact spec_LevelOf.mono _ _
      | exact spec_RecordsUpTo.mono _ _
      | exact spec_StepsTo.mono _ _
      | exact spec_WayToOne.mono _ _
      | exact LeO.none _
      | refine LeO.ite ?_ ?_
      | refine LeO.bind ?_ (fun _ => ?_)
    · intro y0 y1 y2 y3
      unfold laws_FnStepsToOne.j9
      repeat' first
      | (with_reducible exact ih0 _ _ _ _ _ _ _)
      | (with_reducible exact ih1 _)
      | (with_reducible exact ih2 _ _ _ _ _)
      | (with_reducible exact ih3 _ _ _ _ _ _ _)
      | (with_reducible exact ih4 _ _ _ _)
      | (with_reducible exact ih5 _)
      | (with_reducible exact ih6 _ _ _ _)
      | (with_reducible exact ih7 _ _ _ _ _ _)
      | (with_reducible exact ih8 _ _ _ _)
      | (with_reducible exact ih9 _ _ _ _)
      | (with_reducible exact ih10 _ _ _ _)
      | (with_reducible exact ih11 _ _ _ _ _ _ _ _ _)
      | (with_reducible exact ih12 _ _ _ _ _ _ _ _ _ _ _)
      | (with_reducible exact impl_BeforeStep.mono _ _)
      | (with_reducible exact impl_FallsBelow.mono _ _)
      | (with_reducible exact impl_GreatestOn.mono _ _)
      | (with_reducible exact impl_LevelOf.mono _ _)
      | (with_reducible exact impl_RecordsUpTo.mono _ _)
      | (with_reducible exact impl_StepsTo.mono _ _)
      | (with_reducible exact impl_WayToOne.mono _ _)
      | (with_reducible exact laws_rHas.mono _ _ _)
      | (with_reducible exact laws_rRising.mono _ _)
      | (with_reducible exact laws_rSame.mono _ _ _)
      | (with_reducible exact spec_DrawStepOf.mono _ _)
      | (with_reducible exact spec_DrawWayToOne.mono _ _)
      | (with_reducible exact spec_FallsBelow.mono _ _)
      | (with_reducible exact spec_GreatestOn.mono _ _)
      | (with_reducible exact spec_LevelOf.mono _ _)
      | (with_reducible exact spec_RecordsUpTo.mono _ _)
      | (with_reducible exact spec_StepsTo.mono _ _)
      | (with_reducible exact spec_WayToOne.mono _ _)
      | (with_reducible exact LeO.refl _)
      | (with_reducible exact LeO.none _)
      | (with_reducible refine LeO.ite ?_ ?_)
      | (with_reducible refine LeO.bind ?_ (fun _ => ?_))
      | exact ih0 _ _ _ _ _ _ _
      | exact ih1 _
      | exact ih2 _ _ _ _ _
      | exact ih3 _ _ _ _ _ _ _
      | exact ih4 _ _ _ _
      | exact ih5 _
      | exact ih6 _ _ _ _
      | exact ih7 _ _ _ _ _ _
      | exact ih8 _ _ _ _
      | exact ih9 _ _ _ _
      | exact ih10 _ _ _ _
      | exact ih11 _ _ _ _ _ _ _ _ _
      | exact ih12 _ _ _ _ _ _ _ _ _ _ _
      | exact impl_BeforeStep.mono _ _
      | exact impl_FallsBelow.mono _ _
      | exact impl_GreatestOn.mono _ _
      | exact impl_LevelOf.mono _ _
      | exact impl_RecordsUpTo.mono _ _
      | exact impl_StepsTo.mono _ _
      | exact impl_WayToOne.mono _ _
      | exact laws_rHas.mono _ _ _
      | exact laws_rRising.mono _ _
      | exact laws_rSame.mono _ _ _
      | exact spec_DrawStepOf.mono _ _
      | exact spec_DrawWayToOne.mono _ _
      | exact spec_FallsBelow.mono _ _
      | exact spec_GreatestOn.mono _ _
      | exact spec_LevelOf.mono _ _
      | exact spec_RecordsUpTo.mono _ _
      | exact spec_StepsTo.mono _ _
      | exact spec_WayToOne.mono _ _
      | exact LeO.none _
      | refine LeO.ite ?_ ?_
      | refine LeO.bind ?_ (fun _ => ?_)
    · intro y0 y1 y2 y3 y4 y5
      unfold laws_FnStepsToOne.l3
      repeat' first
      | (with_reducible exact ih0 _ _ _ _ _ _ _)
      | (with_reducible exact ih1 _)
      | (with_reducible exact ih2 _ _ _ _ _)
      | (with_reducible exact ih3 _ _ _ _ _ _ _)
      | (with_reducible exact ih4 _ _ _ _)
      | (with_reducible exact ih5 _)
      | (with_reducible exact ih6 _ _ _ _)
      | (with_reducible exact ih7 _ _ _ _ _ _)
      | (with_reducible exact ih8 _ _ _ _)
      | (with_reducible exact ih9 _ _ _ _)
      | (with_reducible exact ih10 _ _ _ _)
      | (with_reducible exact ih11 _ _ _ _ _ _ _ _ _)
      | (with_reducible exact ih12 _ _ _ _ _ _ _ _ _ _ _)
      | (with_reducible exact impl_BeforeStep.mono _ _)
      | (with_reducible exact impl_FallsBelow.mono _ _)
      | (with_reducible exact impl_GreatestOn.mono _ _)
      | (with_reducible exact impl_LevelOf.mono _ _)
      | (with_reducible exact impl_RecordsUpTo.mono _ _)
      | (with_reducible exact impl_StepsTo.mono _ _)
      | (with_reducible exact impl_WayToOne.mono _ _)
      | (with_reducible exact laws_rHas.mono _ _ _)
      | (with_reducible exact laws_rRising.mono _ _)
      | (with_reducible exact laws_rSame.mono _ _ _)
      | (with_reducible exact spec_DrawStepOf.mono _ _)
      | (with_reducible exact spec_DrawWayToOne.mono _ _)
      | (with_reducible exact spec_FallsBelow.mono _ _)
      | (with_reducible exact spec_GreatestOn.mono _ _)
      | (with_reducible exact spec_LevelOf.mono _ _)
      | (with_reducible exact spec_RecordsUpTo.mono _ _)
      | (with_reducible exact spec_StepsTo.mono _ _)
      | (with_reducible exact spec_WayToOne.mono _ _)
      | (with_reducible exact LeO.refl _)
      | (with_reducible exact LeO.none _)
      | (with_reducible refine LeO.ite ?_ ?_)
      | (with_reducible refine LeO.bind ?_ (fun _ => ?_))
      | exact ih0 _ _ _ _ _ _ _
      | exact ih1 _
      | exact ih2 _ _ _ _ _
      | exact ih3 _ _ _ _ _ _ _
      | exact ih4 _ _ _ _
      | exact ih5 _
      | exact ih6 _ _ _ _
      | exact ih7 _ _ _ _ _ _
      | exact ih8 _ _ _ _
      | exact ih9 _ _ _ _
      | exact ih10 _ _ _ _
      | exact ih11 _ _ _ _ _ _ _ _ _
      | exact ih12 _ _ _ _ _ _ _ _ _ _ _
      | exact impl_BeforeStep.mono _ _
      | exact impl_FallsBelow.mono _ _
      | exact impl_GreatestOn.mono _ _
      | exact impl_LevelOf.mono _ _
      | exact impl_RecordsUpTo.mono _ _
      | exact impl_StepsTo.mono _ _
      | exact impl_WayToOne.mono _ _
      | exact laws_rHas.mono _ _ _
      | exact laws_rRising.mono _ _
      | exact laws_rSame.mono _ _ _
      | exact spec_DrawStepOf.mono _ _
      | exact spec_DrawWayToOne.mono _ _
      | exact spec_FallsBelow.mono _ _
      | exact spec_GreatestOn.mono _ _
      | exact spec_LevelOf.mono _ _
      | exact spec_RecordsUpTo.mono _ _
      | exact spec_StepsTo.mono _ _
      | exact spec_WayToOne.mono _ _
      | exact LeO.none _
      | refine LeO.ite ?_ ?_
      | refine LeO.bind ?_ (fun _ => ?_)
    · intro y0 y1 y2 y3
      unfold laws_FnStepsToOne.j11
      repeat' first
      | (with_reducible exact ih0 _ _ _ _ _ _ _)
      | (with_reducible exact ih1 _)
      | (with_reducible exact ih2 _ _ _ _ _)
      | (with_reducible exact ih3 _ _ _ _ _ _ _)
      | (with_reducible exact ih4 _ _ _ _)
      | (with_reducible exact ih5 _)
      | (with_reducible exact ih6 _ _ _ _)
      | (with_reducible exact ih7 _ _ _ _ _ _)
      | (with_reducible exact ih8 _ _ _ _)
      | (with_reducible exact ih9 _ _ _ _)
      | (with_reducible exact ih10 _ _ _ _)
      | (with_reducible exact ih11 _ _ _ _ _ _ _ _ _)
      | (with_reducible exact ih12 _ _ _ _ _ _ _ _ _ _ _)
      | (with_reducible exact impl_BeforeStep.mono _ _)
      | (with_reducible exact impl_FallsBelow.mono _ _)
      | (with_reducible exact impl_GreatestOn.mono _ _)
      | (with_reducible exact impl_LevelOf.mono _ _)
      | (with_reducible exact impl_RecordsUpTo.mono _ _)
      | (with_reducible exact impl_StepsTo.mono _ _)
      | (with_reducible exact impl_WayToOne.mono _ _)
      | (with_reducible exact laws_rHas.mono _ _ _)
      | (with_reducible exact laws_rRising.mono _ _)
      | (with_reducible exact laws_rSame.mono _ _ _)
      | (with_reducible exact spec_DrawStepOf.mono _ _)
      | (with_reducible exact spec_DrawWayToOne.mono _ _)
      | (with_reducible exact spec_FallsBelow.mono _ _)
      | (with_reducible exact spec_GreatestOn.mono _ _)
      | (with_reducible exact spec_LevelOf.mono _ _)
      | (with_reducible exact spec_RecordsUpTo.mono _ _)
      | (with_reducible exact spec_StepsTo.mono _ _)
      | (with_reducible exact spec_WayToOne.mono _ _)
      | (with_reducible exact LeO.refl _)
      | (with_reducible exact LeO.none _)
      | (with_reducible refine LeO.ite ?_ ?_)
      | (with_reducible refine LeO.bind ?_ (fun _ => ?_))
      | exact ih0 _ _ _ _ _ _ _
      | exact ih1 _
      | exact ih2 _ _ _ _ _
      | exact ih3 _ _ _ _ _ _ _
      | exact ih4 _ _ _ _
      | exact ih5 _
      | exact ih6 _ _ _ _
      | exact ih7 _ _ _ _ _ _
      | exact ih8 _ _ _ _
      | exact ih9 _ _ _ _
      | exact ih10 _ _ _ _
      | exact ih11 _ _ _ _ _ _ _ _ _
      | exact ih12 _ _ _ _ _ _ _ _ _ _ _
      | exact impl_BeforeStep.mono _ _
      | exact impl_FallsBelow.mono _ _
      | exact impl_GreatestOn.mono _ _
      | exact impl_LevelOf.mono _ _
      | exact impl_RecordsUpTo.mono _ _
      | exact impl_StepsTo.mono _ _
      | exact impl_WayToOne.mono _ _
      | exact laws_rHas.mono _ _ _
      | exact laws_rRising.mono _ _
      | exact laws_rSame.mono _ _ _
      | exact spec_DrawStepOf.mono _ _
      | exact spec_DrawWayToOne.mono _ _
      | exact spec_FallsBelow.mono _ _
      | exact spec_GreatestOn.mono _ _
      | exact spec_LevelOf.mono _ _
      | exact spec_RecordsUpTo.mono _ _
      | exact spec_StepsTo.mono _ _
      | exact spec_WayToOne.mono _ _
      | exact LeO.none _
      | refine LeO.ite ?_ ?_
      | refine LeO.bind ?_ (fun _ => ?_)
    · intro y0 y1 y2 y3
      unfold laws_FnStepsToOne.l4
      repeat' first
      | (with_reducible exact ih0 _ _ _ _ _ _ _)
      | (with_reducible exact ih1 _)
      | (with_reducible exact ih2 _ _ _ _ _)
      | (with_reducible exact ih3 _ _ _ _ _ _ _)
      | (with_reducible exact ih4 _ _ _ _)
      | (with_reducible exact ih5 _)
      | (with_reducible exact ih6 _ _ _ _)
      | (with_reducible exact ih7 _ _ _ _ _ _)
      | (with_reducible exact ih8 _ _ _ _)
      | (with_reducible exact ih9 _ _ _ _)
      | (with_reducible exact ih10 _ _ _ _)
      | (with_reducible exact ih11 _ _ _ _ _ _ _ _ _)
      | (with_reducible exact ih12 _ _ _ _ _ _ _ _ _ _ _)
      | (with_reducible exact impl_BeforeStep.mono _ _)
      | (with_reducible exact impl_FallsBelow.mono _ _)
      | (with_reducible exact impl_GreatestOn.mono _ _)
      | (with_reducible exact impl_LevelOf.mono _ _)
      | (with_reducible exact impl_RecordsUpTo.mono _ _)
      | (with_reducible exact impl_StepsTo.mono _ _)
      | (with_reducible exact impl_WayToOne.mono _ _)
      | (with_reducible exact laws_rHas.mono _ _ _)
      | (with_reducible exact laws_rRising.mono _ _)
      | (with_reducible exact laws_rSame.mono _ _ _)
      | (with_reducible exact spec_DrawStepOf.mono _ _)
      | (with_reducible exact spec_DrawWayToOne.mono _ _)
      | (with_reducible exact spec_FallsBelow.mono _ _)
      | (with_reducible exact spec_GreatestOn.mono _ _)
      | (with_reducible exact spec_LevelOf.mono _ _)
      | (with_reducible exact spec_RecordsUpTo.mono _ _)
      | (with_reducible exact spec_StepsTo.mono _ _)
      | (with_reducible exact spec_WayToOne.mono _ _)
      | (with_reducible exact LeO.refl _)
      | (with_reducible exact LeO.none _)
      | (with_reducible refine LeO.ite ?_ ?_)
      | (with_reducible refine LeO.bind ?_ (fun _ => ?_))
      | exact ih0 _ _ _ _ _ _ _
      | exact ih1 _
      | exact ih2 _ _ _ _ _
      | exact ih3 _ _ _ _ _ _ _
      | exact ih4 _ _ _ _
      | exact ih5 _
      | exact ih6 _ _ _ _
      | exact ih7 _ _ _ _ _ _
      | exact ih8 _ _ _ _
      | exact ih9 _ _ _ _
      | exact ih10 _ _ _ _
      | exact ih11 _ _ _ _ _ _ _ _ _
      | exact ih12 _ _ _ _ _ _ _ _ _ _ _
      | exact impl_BeforeStep.mono _ _
      | exact impl_FallsBelow.mono _ _
      | exact impl_GreatestOn.mono _ _
      | exact impl_LevelOf.mono _ _
      | exact impl_RecordsUpTo.mono _ _
      | exact impl_StepsTo.mono _ _
      | exact impl_WayToOne.mono _ _
      | exact laws_rHas.mono _ _ _
      | exact laws_rRising.mono _ _
      | exact laws_rSame.mono _ _ _
      | exact spec_DrawStepOf.mono _ _
      | exact spec_DrawWayToOne.mono _ _
      | exact spec_FallsBelow.mono _ _
      | exact spec_GreatestOn.mono _ _
      | exact spec_LevelOf.mono _ _
      | exact spec_RecordsUpTo.mono _ _
      | exact spec_StepsTo.mono _ _
      | exact spec_WayToOne.mono _ _
      | exact LeO.none _
      | refine LeO.ite ?_ ?_
      | refine LeO.bind ?_ (fun _ => ?_)
    · intro y0 y1 y2 y3
      unfold laws_FnStepsToOne.l2
      repeat' first
      | (with_reducible exact ih0 _ _ _ _ _ _ _)
      | (with_reducible exact ih1 _)
      | (with_reducible exact ih2 _ _ _ _ _)
      | (with_reducible exact ih3 _ _ _ _ _ _ _)
      | (with_reducible exact ih4 _ _ _ _)
      | (with_reducible exact ih5 _)
      | (with_reducible exact ih6 _ _ _ _)
      | (with_reducible exact ih7 _ _ _ _ _ _)
      | (with_reducible exact ih8 _ _ _ _)
      | (with_reducible exact ih9 _ _ _ _)
      | (with_reducible exact ih10 _ _ _ _)
      | (with_reducible exact ih11 _ _ _ _ _ _ _ _ _)
      | (with_reducible exact ih12 _ _ _ _ _ _ _ _ _ _ _)
      | (with_reducible exact impl_BeforeStep.mono _ _)
      | (with_reducible exact impl_FallsBelow.mono _ _)
      | (with_reducible exact impl_GreatestOn.mono _ _)
      | (with_reducible exact impl_LevelOf.mono _ _)
      | (with_reducible exact impl_RecordsUpTo.mono _ _)
      | (with_reducible exact impl_StepsTo.mono _ _)
      | (with_reducible exact impl_WayToOne.mono _ _)
      | (with_reducible exact laws_rHas.mono _ _ _)
      | (with_reducible exact laws_rRising.mono _ _)
      | (with_reducible exact laws_rSame.mono _ _ _)
      | (with_reducible exact spec_DrawStepOf.mono _ _)
      | (with_reducible exact spec_DrawWayToOne.mono _ _)
      | (with_reducible exact spec_FallsBelow.mono _ _)
      | (with_reducible exact spec_GreatestOn.mono _ _)
      | (with_reducible exact spec_LevelOf.mono _ _)
      | (with_reducible exact spec_RecordsUpTo.mono _ _)
      | (with_reducible exact spec_StepsTo.mono _ _)
      | (with_reducible exact spec_WayToOne.mono _ _)
      | (with_reducible exact LeO.refl _)
      | (with_reducible exact LeO.none _)
      | (with_reducible refine LeO.ite ?_ ?_)
      | (with_reducible refine LeO.bind ?_ (fun _ => ?_))
      | exact ih0 _ _ _ _ _ _ _
      | exact ih1 _
      | exact ih2 _ _ _ _ _
      | exact ih3 _ _ _ _ _ _ _
      | exact ih4 _ _ _ _
      | exact ih5 _
      | exact ih6 _ _ _ _
      | exact ih7 _ _ _ _ _ _
      | exact ih8 _ _ _ _
      | exact ih9 _ _ _ _
      | exact ih10 _ _ _ _
      | exact ih11 _ _ _ _ _ _ _ _ _
      | exact ih12 _ _ _ _ _ _ _ _ _ _ _
      | exact impl_BeforeStep.mono _ _
      | exact impl_FallsBelow.mono _ _
      | exact impl_GreatestOn.mono _ _
      | exact impl_LevelOf.mono _ _
      | exact impl_RecordsUpTo.mono _ _
      | exact impl_StepsTo.mono _ _
      | exact impl_WayToOne.mono _ _
      | exact laws_rHas.mono _ _ _
      | exact laws_rRising.mono _ _
      | exact laws_rSame.mono _ _ _
      | exact spec_DrawStepOf.mono _ _
      | exact spec_DrawWayToOne.mono _ _
      | exact spec_FallsBelow.mono _ _
      | exact spec_GreatestOn.mono _ _
      | exact spec_LevelOf.mono _ _
      | exact spec_RecordsUpTo.mono _ _
      | exact spec_StepsTo.mono _ _
      | exact spec_WayToOne.mono _ _
      | exact LeO.none _
      | refine LeO.ite ?_ ?_
      | refine LeO.bind ?_ (fun _ => ?_)
    · intro y0 y1 y2 y3 y4 y5 y6 y7 y8
      unfold laws_FnStepsToOne.l0
      repeat' first
      | (with_reducible exact ih0 _ _ _ _ _ _ _)
      | (with_reducible exact ih1 _)
      | (with_reducible exact ih2 _ _ _ _ _)
      | (with_reducible exact ih3 _ _ _ _ _ _ _)
      | (with_reducible exact ih4 _ _ _ _)
      | (with_reducible exact ih5 _)
      | (with_reducible exact ih6 _ _ _ _)
      | (with_reducible exact ih7 _ _ _ _ _ _)
      | (with_reducible exact ih8 _ _ _ _)
      | (with_reducible exact ih9 _ _ _ _)
      | (with_reducible exact ih10 _ _ _ _)
      | (with_reducible exact ih11 _ _ _ _ _ _ _ _ _)
      | (with_reducible exact ih12 _ _ _ _ _ _ _ _ _ _ _)
      | (with_reducible exact impl_BeforeStep.mono _ _)
      | (with_reducible exact impl_FallsBelow.mono _ _)
      | (with_reducible exact impl_GreatestOn.mono _ _)
      | (with_reducible exact impl_LevelOf.mono _ _)
      | (with_reducible exact impl_RecordsUpTo.mono _ _)
      | (with_reducible exact impl_StepsTo.mono _ _)
      | (with_reducible exact impl_WayToOne.mono _ _)
      | (with_reducible exact laws_rHas.mono _ _ _)
      | (with_reducible exact laws_rRising.mono _ _)
      | (with_reducible exact laws_rSame.mono _ _ _)
      | (with_reducible exact spec_DrawStepOf.mono _ _)
      | (with_reducible exact spec_DrawWayToOne.mono _ _)
      | (with_reducible exact spec_FallsBelow.mono _ _)
      | (with_reducible exact spec_GreatestOn.mono _ _)
      | (with_reducible exact spec_LevelOf.mono _ _)
      | (with_reducible exact spec_RecordsUpTo.mono _ _)
      | (with_reducible exact spec_StepsTo.mono _ _)
      | (with_reducible exact spec_WayToOne.mono _ _)
      | (with_reducible exact LeO.refl _)
      | (with_reducible exact LeO.none _)
      | (with_reducible refine LeO.ite ?_ ?_)
      | (with_reducible refine LeO.bind ?_ (fun _ => ?_))
      | exact ih0 _ _ _ _ _ _ _
      | exact ih1 _
      | exact ih2 _ _ _ _ _
      | exact ih3 _ _ _ _ _ _ _
      | exact ih4 _ _ _ _
      | exact ih5 _
      | exact ih6 _ _ _ _
      | exact ih7 _ _ _ _ _ _
      | exact ih8 _ _ _ _
      | exact ih9 _ _ _ _
      | exact ih10 _ _ _ _
      | exact ih11 _ _ _ _ _ _ _ _ _
      | exact ih12 _ _ _ _ _ _ _ _ _ _ _
      | exact impl_BeforeStep.mono _ _
      | exact impl_FallsBelow.mono _ _
      | exact impl_GreatestOn.mono _ _
      | exact impl_LevelOf.mono _ _
      | exact impl_RecordsUpTo.mono _ _
      | exact impl_StepsTo.mono _ _
      | exact impl_WayToOne.mono _ _
      | exact laws_rHas.mono _ _ _
      | exact laws_rRising.mono _ _
      | exact laws_rSame.mono _ _ _
      | exact spec_DrawStepOf.mono _ _
      | exact spec_DrawWayToOne.mono _ _
      | exact spec_FallsBelow.mono _ _
      | exact spec_GreatestOn.mono _ _
      | exact spec_LevelOf.mono _ _
      | exact spec_RecordsUpTo.mono _ _
      | exact spec_StepsTo.mono _ _
      | exact spec_WayToOne.mono _ _
      | exact LeO.none _
      | refine LeO.ite ?_ ?_
      | refine LeO.bind ?_ (fun _ => ?_)
    · intro y0 y1 y2 y3 y4 y5 y6 y7 y8 y9 y10
      unfold laws_FnStepsToOne.j2
      repeat' first
      | (with_reducible exact ih0 _ _ _ _ _ _ _)
      | (with_reducible exact ih1 _)
      | (with_reducible exact ih2 _ _ _ _ _)
      | (with_reducible exact ih3 _ _ _ _ _ _ _)
      | (with_reducible exact ih4 _ _ _ _)
      | (with_reducible exact ih5 _)
      | (with_reducible exact ih6 _ _ _ _)
      | (with_reducible exact ih7 _ _ _ _ _ _)
      | (with_reducible exact ih8 _ _ _ _)
      | (with_reducible exact ih9 _ _ _ _)
      | (with_reducible exact ih10 _ _ _ _)
      | (with_reducible exact ih11 _ _ _ _ _ _ _ _ _)
      | (with_reducible exact ih12 _ _ _ _ _ _ _ _ _ _ _)
      | (with_reducible exact impl_BeforeStep.mono _ _)
      | (with_reducible exact impl_FallsBelow.mono _ _)
      | (with_reducible exact impl_GreatestOn.mono _ _)
      | (with_reducible exact impl_LevelOf.mono _ _)
      | (with_reducible exact impl_RecordsUpTo.mono _ _)
      | (with_reducible exact impl_StepsTo.mono _ _)
      | (with_reducible exact impl_WayToOne.mono _ _)
      | (with_reducible exact laws_rHas.mono _ _ _)
      | (with_reducible exact laws_rRising.mono _ _)
      | (with_reducible exact laws_rSame.mono _ _ _)
      | (with_reducible exact spec_DrawStepOf.mono _ _)
      | (with_reducible exact spec_DrawWayToOne.mono _ _)
      | (with_reducible exact spec_FallsBelow.mono _ _)
      | (with_reducible exact spec_GreatestOn.mono _ _)
      | (with_reducible exact spec_LevelOf.mono _ _)
      | (with_reducible exact spec_RecordsUpTo.mono _ _)
      | (with_reducible exact spec_StepsTo.mono _ _)
      | (with_reducible exact spec_WayToOne.mono _ _)
      | (with_reducible exact LeO.refl _)
      | (with_reducible exact LeO.none _)
      | (with_reducible refine LeO.ite ?_ ?_)
      | (with_reducible refine LeO.bind ?_ (fun _ => ?_))
      | exact ih0 _ _ _ _ _ _ _
      | exact ih1 _
      | exact ih2 _ _ _ _ _
      | exact ih3 _ _ _ _ _ _ _
      | exact ih4 _ _ _ _
      | exact ih5 _
      | exact ih6 _ _ _ _
      | exact ih7 _ _ _ _ _ _
      | exact ih8 _ _ _ _
      | exact ih9 _ _ _ _
      | exact ih10 _ _ _ _
      | exact ih11 _ _ _ _ _ _ _ _ _
      | exact ih12 _ _ _ _ _ _ _ _ _ _ _
      | exact impl_BeforeStep.mono _ _
      | exact impl_FallsBelow.mono _ _
      | exact impl_GreatestOn.mono _ _
      | exact impl_LevelOf.mono _ _
      | exact impl_RecordsUpTo.mono _ _
      | exact impl_StepsTo.mono _ _
      | exact impl_WayToOne.mono _ _
      | exact laws_rHas.mono _ _ _
      | exact laws_rRising.mono _ _
      | exact laws_rSame.mono _ _ _
      | exact spec_DrawStepOf.mono _ _
      | exact spec_DrawWayToOne.mono _ _
      | exact spec_FallsBelow.mono _ _
      | exact spec_GreatestOn.mono _ _
      | exact spec_LevelOf.mono _ _
      | exact spec_RecordsUpTo.mono _ _
      | exact spec_StepsTo.mono _ _
      | exact spec_WayToOne.mono _ _
      | exact LeO.none _
      | refine LeO.ite ?_ ?_
      | refine LeO.bind ?_ (fun _ => ?_)
theorem laws_FnStepsToOne.mono : ∀ a0 a1 k, LeO (laws_FnStepsToOne.f k a0 a1) (laws_FnStepsToOne.f (k + 1) a0 a1) := by
  intro a0 a1 k
  obtain ⟨ih0, ih1, ih2, ih3, ih4, ih5, ih6, ih7, ih8, ih9, ih10, ih11, ih12⟩ := laws_FnStepsToOne.mono_l k
  unfold laws_FnStepsToOne.f
  repeat' first
      | (with_reducible exact ih0 _ _ _ _ _ _ _)
      | (with_reducible exact ih1 _)
      | (with_reducible exact ih2 _ _ _ _ _)
      | (with_reducible exact ih3 _ _ _ _ _ _ _)
      | (with_reducible exact ih4 _ _ _ _)
      | (with_reducible exact ih5 _)
      | (with_reducible exact ih6 _ _ _ _)
      | (with_reducible exact ih7 _ _ _ _ _ _)
      | (with_reducible exact ih8 _ _ _ _)
      | (with_reducible exact ih9 _ _ _ _)
      | (with_reducible exact ih10 _ _ _ _)
      | (with_reducible exact ih11 _ _ _ _ _ _ _ _ _)
      | (with_reducible exact ih12 _ _ _ _ _ _ _ _ _ _ _)
      | (with_reducible exact impl_BeforeStep.mono _ _)
      | (with_reducible exact impl_FallsBelow.mono _ _)
      | (with_reducible exact impl_GreatestOn.mono _ _)
      | (with_reducible exact impl_LevelOf.mono _ _)
      | (with_reducible exact impl_RecordsUpTo.mono _ _)
      | (with_reducible exact impl_StepsTo.mono _ _)
      | (with_reducible exact impl_WayToOne.mono _ _)
      | (with_reducible exact laws_rHas.mono _ _ _)
      | (with_reducible exact laws_rRising.mono _ _)
      | (with_reducible exact laws_rSame.mono _ _ _)
      | (with_reducible exact spec_DrawStepOf.mono _ _)
      | (with_reducible exact spec_DrawWayToOne.mono _ _)
      | (with_reducible exact spec_FallsBelow.mono _ _)
      | (with_reducible exact spec_GreatestOn.mono _ _)
      | (with_reducible exact spec_LevelOf.mono _ _)
      | (with_reducible exact spec_RecordsUpTo.mono _ _)
      | (with_reducible exact spec_StepsTo.mono _ _)
      | (with_reducible exact spec_WayToOne.mono _ _)
      | (with_reducible exact LeO.refl _)
      | (with_reducible exact LeO.none _)
      | (with_reducible refine LeO.ite ?_ ?_)
      | (with_reducible refine LeO.bind ?_ (fun _ => ?_))
      | exact ih0 _ _ _ _ _ _ _
      | exact ih1 _
      | exact ih2 _ _ _ _ _
      | exact ih3 _ _ _ _ _ _ _
      | exact ih4 _ _ _ _
      | exact ih5 _
      | exact ih6 _ _ _ _
      | exact ih7 _ _ _ _ _ _
      | exact ih8 _ _ _ _
      | exact ih9 _ _ _ _
      | exact ih10 _ _ _ _
      | exact ih11 _ _ _ _ _ _ _ _ _
      | exact ih12 _ _ _ _ _ _ _ _ _ _ _
      | exact impl_BeforeStep.mono _ _
      | exact impl_FallsBelow.mono _ _
      | exact impl_GreatestOn.mono _ _
      | exact impl_LevelOf.mono _ _
      | exact impl_RecordsUpTo.mono _ _
      | exact impl_StepsTo.mono _ _
      | exact impl_WayToOne.mono _ _
      | exact laws_rHas.mono _ _ _
      | exact laws_rRising.mono _ _
      | exact laws_rSame.mono _ _ _
      | exact spec_DrawStepOf.mono _ _
      | exact spec_DrawWayToOne.mono _ _
      | exact spec_FallsBelow.mono _ _
      | exact spec_GreatestOn.mono _ _
      | exact spec_LevelOf.mono _ _
      | exact spec_RecordsUpTo.mono _ _
      | exact spec_StepsTo.mono _ _
      | exact spec_WayToOne.mono _ _
      | exact LeO.none _
      | refine LeO.ite ?_ ?_
      | refine LeO.bind ?_ (fun _ => ?_)
theorem laws_FnStepsToOne.j0_no {r : Bool} (hr : r = true) (k : Nat) (x1 : List Int) (x5 : Int) (x6 : List Int) (x7 : Bool) (x10 : Int) (x14 : Int) (h : laws_FnStepsToOne.j0 k x1 x5 x6 x7 x10 x14 true = some r) : False := by
  subst hr
  cases k with
  | zero => simp [laws_FnStepsToOne.j0] at h
  | succ k => simp [laws_FnStepsToOne.j0] at h
theorem laws_FnStepsToOne.j4_no {r : Bool} (hr : r = true) (k : Nat) (x1 : List Int) (x25 : Int) (x26 : List Int) (x27 : Bool) (h : laws_FnStepsToOne.j4 k x1 x25 x26 x27 true = some r) : False := by
  subst hr
  cases k with
  | zero => simp [laws_FnStepsToOne.j4] at h
  | succ k => simp [laws_FnStepsToOne.j4] at h
theorem laws_FnStepsToOne.j9_no {r : Bool} (hr : r = true) (k : Nat) (x1 : List Int) (x37 : Int) (x38 : List Int) (h : laws_FnStepsToOne.j9 k x1 x37 x38 true = some r) : False := by
  subst hr
  cases k with
  | zero => simp [laws_FnStepsToOne.j9] at h
  | succ k => simp [laws_FnStepsToOne.j9] at h
theorem laws_FnStepsToOne.j11_no {r : Bool} (hr : r = true) (k : Nat) (x47 : Int) (x60 : Int) (x61 : Bool) (h : laws_FnStepsToOne.j11 k x47 x60 x61 true = some r) : False := by
  subst hr
  cases k with
  | zero => simp [laws_FnStepsToOne.j11] at h
  | succ k => simp [laws_FnStepsToOne.j11] at h
set_option maxHeartbeats 8000000 in
set_option maxRecDepth 100000 in
theorem laws_FnStepsToOne.calls (k : Nat) (A0 : Option Addr) (c0 : Nat) (l0 : List Int) (A1 : Option Addr) (c1 : Nat) (l1 : List Int) (r : Bool) (w : World) (hr0 : Kd.C (Kd.int .u8) w A0 l0.length l0) (hc0 : l0.length ≤ c0) (hr1 : Kd.C (Kd.int .u8) w A1 l1.length l1) (hc1 : l1.length ≤ c1) (h : laws_FnStepsToOne.f k l0 l1 = some r) (hr_ : r = true) :
    Calls Try.prog 3 #[.slice A0 l0.length c0, .slice A1 l1.length c1] w fun e w' => e = .returned (.bool r) ∧ Below w.heap.size w w' := by
  have HR0 := Aside0.mk hr0
  have HC0 := Aside0.mk hc0
  clear hr0 hc0
  have HR1 := Aside0.mk hr1
  have HC1 := Aside0.mk hc1
  clear hr1 hc1
  have HB := Aside0.mk (Below.refl w.heap.size w)
  have H : ((laws_big.f l0 l1).bind fun t367 => (if t367 = true then (some true) else ((spec_DrawWayToOne.f k l0).bind fun t368 => ((impl_WayToOne.f k t368).bind fun bt369 => ((spec_WayToOne.f k t368).bind fun bt373 => ((impl_StepsTo.f k t368).bind fun bt377 => ((spec_StepsTo.f k t368).bind fun bt379 => ((impl_GreatestOn.f k t368).bind fun bt381 => ((spec_GreatestOn.f k t368).bind fun bt383 => (if (bt369.2 != bt373.2) = true then (laws_FnStepsToOne.j0 k l1 t368 bt369.1 bt369.2 bt377.1 bt381.1 true) else ((laws_rSame.f k bt369.1 bt373.1).bind fun t385 => (if t385 = true then (if (bt377.2 != bt379.2) = true then (laws_FnStepsToOne.j0 k l1 t368 bt369.1 bt369.2 bt377.1 bt381.1 true) else (if bt377.1 = bt379.1 then (if (bt381.2 != bt383.2) = true then (laws_FnStepsToOne.j0 k l1 t368 bt369.1 bt369.2 bt377.1 bt381.1 true) else (if bt381.1 = bt383.1 then (if (bt377.2 != bt369.2) = true then (laws_FnStepsToOne.j0 k l1 t368 bt369.1 bt369.2 bt377.1 bt381.1 true) else (laws_FnStepsToOne.j0 k l1 t368 bt369.1 bt369.2 bt377.1 bt381.1 (bt381.2 != bt369.2))) else (laws_FnStepsToOne.j0 k l1 t368 bt369.1 bt369.2 bt377.1 bt381.1 true))) else (laws_FnStepsToOne.j0 k l1 t368 bt369.1 bt369.2 bt377.1 bt381.1 true))) else (laws_FnStepsToOne.j0 k l1 t368 bt369.1 bt369.2 bt377.1 bt381.1 true))))))))))))) = some r := h
  clear h
  have HR_ := Aside0.mk hr_
  clear hr_
  replace H := Option.bind_eq_some_iff.mp H
  obtain ⟨t367, A30, H⟩ := H
  replace H : (if t367 = true then (some true) else ((spec_DrawWayToOne.f k l0).bind fun t368 => ((impl_WayToOne.f k t368).bind fun bt369 => ((spec_WayToOne.f k t368).bind fun bt373 => ((impl_StepsTo.f k t368).bind fun bt377 => ((spec_StepsTo.f k t368).bind fun bt379 => ((impl_GreatestOn.f k t368).bind fun bt381 => ((spec_GreatestOn.f k t368).bind fun bt383 => (if (bt369.2 != bt373.2) = true then (laws_FnStepsToOne.j0 k l1 t368 bt369.1 bt369.2 bt377.1 bt381.1 true) else ((laws_rSame.f k bt369.1 bt373.1).bind fun t385 => (if t385 = true then (if (bt377.2 != bt379.2) = true then (laws_FnStepsToOne.j0 k l1 t368 bt369.1 bt369.2 bt377.1 bt381.1 true) else (if bt377.1 = bt379.1 then (if (bt381.2 != bt383.2) = true then (laws_FnStepsToOne.j0 k l1 t368 bt369.1 bt369.2 bt377.1 bt381.1 true) else (if bt381.1 = bt383.1 then (if (bt377.2 != bt369.2) = true then (laws_FnStepsToOne.j0 k l1 t368 bt369.1 bt369.2 bt377.1 bt381.1 true) else (laws_FnStepsToOne.j0 k l1 t368 bt369.1 bt369.2 bt377.1 bt381.1 (bt381.2 != bt369.2))) else (laws_FnStepsToOne.j0 k l1 t368 bt369.1 bt369.2 bt377.1 bt381.1 true))) else (laws_FnStepsToOne.j0 k l1 t368 bt369.1 bt369.2 bt377.1 bt381.1 true))) else (laws_FnStepsToOne.j0 k l1 t368 bt369.1 bt369.2 bt377.1 bt381.1 true)))))))))))) = some r := H
  have A3 := Aside0.mk A30
  clear A30
  by_cases c4 : t367 = true
  · subst c4
    have H1 : (some true) = some r := by rw [if_pos rfl] at H; exact H
    clear H
    have H := H1
    clear H1
    as_aux_lemma =>
      obtain rfl := Option.some.inj H
      go_enter Try.func3, Try.ntmps3
      go_wp2_with (first | ((with_reducible refine gate_callee (f := 5) rfl ?_); refine goesL_ (some 70) rfl rfl Try.func5 (by kernel_rfl) rfl #[.slice A0 l0.length c0, .slice A1 l1.length c1] rfl (by (try simp only [List.map_toArray, List.map_cons, List.map_nil]); first | done | rfl | (simp only [List.length_drop, List.length_take]; rfl)) ?_; (with_reducible refine (laws_big.calls _ _ l0 _ _ l1 true _ ?side1 ?side2 ?side3 ?side4 A3.out).mono ?_); (case side1 => repeat (first | exact HR0.out | (with_reducible refine Kd.C_alloc ?_ _) | (with_reducible refine Kd.C_drewN ?_ _) | (with_reducible refine Kd.C_drew ?_))); (case side2 => exact HC0.out); (case side3 => repeat (first | exact HR1.out | (with_reducible refine Kd.C_alloc ?_ _) | (with_reducible refine Kd.C_drewN ?_ _) | (with_reducible refine Kd.C_drew ?_))); (case side4 => exact HC1.out); rintro e w' ⟨rfl, ⟨nd, rfl⟩⟩; refine ⟨_, rfl, ?_⟩))
      go_ret
      exact ⟨by first | rfl | (simp [errW_none, errW_some] <;> rfl) | (simp [*, errW_none, errW_some] <;> rfl), by repeat (first | (with_reducible first | exact HB.out | apply below_alloc | apply pw_below_drewN | apply below_drew1) | exact HB.out)⟩
  · replace c4 := Bool.eq_false_iff.mpr c4
    subst c4
    have H1 : ((spec_DrawWayToOne.f k l0).bind fun t368 => ((impl_WayToOne.f k t368).bind fun bt369 => ((spec_WayToOne.f k t368).bind fun bt373 => ((impl_StepsTo.f k t368).bind fun bt377 => ((spec_StepsTo.f k t368).bind fun bt379 => ((impl_GreatestOn.f k t368).bind fun bt381 => ((spec_GreatestOn.f k t368).bind fun bt383 => (if (bt369.2 != bt373.2) = true then (laws_FnStepsToOne.j0 k l1 t368 bt369.1 bt369.2 bt377.1 bt381.1 true) else ((laws_rSame.f k bt369.1 bt373.1).bind fun t385 => (if t385 = true then (if (bt377.2 != bt379.2) = true then (laws_FnStepsToOne.j0 k l1 t368 bt369.1 bt369.2 bt377.1 bt381.1 true) else (if bt377.1 = bt379.1 then (if (bt381.2 != bt383.2) = true then (laws_FnStepsToOne.j0 k l1 t368 bt369.1 bt369.2 bt377.1 bt381.1 true) else (if bt381.1 = bt383.1 then (if (bt377.2 != bt369.2) = true then (laws_FnStepsToOne.j0 k l1 t368 bt369.1 bt369.2 bt377.1 bt381.1 true) else (laws_FnStepsToOne.j0 k l1 t368 bt369.1 bt369.2 bt377.1 bt381.1 (bt381.2 != bt369.2))) else (laws_FnStepsToOne.j0 k l1 t368 bt369.1 bt369.2 bt377.1 bt381.1 true))) else (laws_FnStepsToOne.j0 k l1 t368 bt369.1 bt369.2 bt377.1 bt381.1 true))) else (laws_FnStepsToOne.j0 k l1 t368 bt369.1 bt369.2 bt377.1 bt381.1 true))))))))))) = some r := by rw [if_neg (show ¬ (false = true) by decide)] at H; exact H
    clear H
    have H := H1
    clear H1
    replace H := Option.bind_eq_some_iff.mp H
    obtain ⟨t368, A50, H⟩ := H
    replace H : ((impl_WayToOne.f k t368).bind fun bt369 => ((spec_WayToOne.f k t368).bind fun bt373 => ((impl_StepsTo.f k t368).bind fun bt377 => ((spec_StepsTo.f k t368).bind fun bt379 => ((impl_GreatestOn.f k t368).bind fun bt381 => ((spec_GreatestOn.f k t368).bind fun bt383 => (if (bt369.2 != bt373.2) = true then (laws_FnStepsToOne.j0 k l1 t368 bt369.1 bt369.2 bt377.1 bt381.1 true) else ((laws_rSame.f k bt369.1 bt373.1).bind fun t385 => (if t385 = true then (if (bt377.2 != bt379.2) = true then (laws_FnStepsToOne.j0 k l1 t368 bt369.1 bt369.2 bt377.1 bt381.1 true) else (if bt377.1 = bt379.1 then (if (bt381.2 != bt383.2) = true then (laws_FnStepsToOne.j0 k l1 t368 bt369.1 bt369.2 bt377.1 bt381.1 true) else (if bt381.1 = bt383.1 then (if (bt377.2 != bt369.2) = true then (laws_FnStepsToOne.j0 k l1 t368 bt369.1 bt369.2 bt377.1 bt381.1 true) else (laws_FnStepsToOne.j0 k l1 t368 bt369.1 bt369.2 bt377.1 bt381.1 (bt381.2 != bt369.2))) else (laws_FnStepsToOne.j0 k l1 t368 bt369.1 bt369.2 bt377.1 bt381.1 true))) else (laws_FnStepsToOne.j0 k l1 t368 bt369.1 bt369.2 bt377.1 bt381.1 true))) else (laws_FnStepsToOne.j0 k l1 t368 bt369.1 bt369.2 bt377.1 bt381.1 true)))))))))) = some r := H
    have A5 := Aside0.mk A50
    clear A50
    replace H := Option.bind_eq_some_iff.mp H
    obtain ⟨⟨t369, t370⟩, A60, H⟩ := H
    replace H : ((spec_WayToOne.f k t368).bind fun bt373 => ((impl_StepsTo.f k t368).bind fun bt377 => ((spec_StepsTo.f k t368).bind fun bt379 => ((impl_GreatestOn.f k t368).bind fun bt381 => ((spec_GreatestOn.f k t368).bind fun bt383 => (if (t370 != bt373.2) = true then (laws_FnStepsToOne.j0 k l1 t368 t369 t370 bt377.1 bt381.1 true) else ((laws_rSame.f k t369 bt373.1).bind fun t385 => (if t385 = true then (if (bt377.2 != bt379.2) = true then (laws_FnStepsToOne.j0 k l1 t368 t369 t370 bt377.1 bt381.1 true) else (if bt377.1 = bt379.1 then (if (bt381.2 != bt383.2) = true then (laws_FnStepsToOne.j0 k l1 t368 t369 t370 bt377.1 bt381.1 true) else (if bt381.1 = bt383.1 then (if (bt377.2 != t370) = true then (laws_FnStepsToOne.j0 k l1 t368 t369 t370 bt377.1 bt381.1 true) else (laws_FnStepsToOne.j0 k l1 t368 t369 t370 bt377.1 bt381.1 (bt381.2 != t370))) else (laws_FnStepsToOne.j0 k l1 t368 t369 t370 bt377.1 bt381.1 true))) else (laws_FnStepsToOne.j0 k l1 t368 t369 t370 bt377.1 bt381.1 true))) else (laws_FnStepsToOne.j0 k l1 t368 t369 t370 bt377.1 bt381.1 true))))))))) = some r := H
    have A6 := Aside0.mk A60
    clear A60
    replace H := Option.bind_eq_some_iff.mp H
    obtain ⟨⟨t373, t374⟩, A70, H⟩ := H
    replace H : ((impl_StepsTo.f k t368).bind fun bt377 => ((spec_StepsTo.f k t368).bind fun bt379 => ((impl_GreatestOn.f k t368).bind fun bt381 => ((spec_GreatestOn.f k t368).bind fun bt383 => (if (t370 != t374) = true then (laws_FnStepsToOne.j0 k l1 t368 t369 t370 bt377.1 bt381.1 true) else ((laws_rSame.f k t369 t373).bind fun t385 => (if t385 = true then (if (bt377.2 != bt379.2) = true then (laws_FnStepsToOne.j0 k l1 t368 t369 t370 bt377.1 bt381.1 true) else (if bt377.1 = bt379.1 then (if (bt381.2 != bt383.2) = true then (laws_FnStepsToOne.j0 k l1 t368 t369 t370 bt377.1 bt381.1 true) else (if bt381.1 = bt383.1 then (if (bt377.2 != t370) = true then (laws_FnStepsToOne.j0 k l1 t368 t369 t370 bt377.1 bt381.1 true) else (laws_FnStepsToOne.j0 k l1 t368 t369 t370 bt377.1 bt381.1 (bt381.2 != t370))) else (laws_FnStepsToOne.j0 k l1 t368 t369 t370 bt377.1 bt381.1 true))) else (laws_FnStepsToOne.j0 k l1 t368 t369 t370 bt377.1 bt381.1 true))) else (laws_FnStepsToOne.j0 k l1 t368 t369 t370 bt377.1 bt381.1 true)))))))) = some r := H
    have A7 := Aside0.mk A70
    clear A70
    replace H := Option.bind_eq_some_iff.mp H
    obtain ⟨⟨t377, t378⟩, A80, H⟩ := H
    replace H : ((spec_StepsTo.f k t368).bind fun bt379 => ((impl_GreatestOn.f k t368).bind fun bt381 => ((spec_GreatestOn.f k t368).bind fun bt383 => (if (t370 != t374) = true then (laws_FnStepsToOne.j0 k l1 t368 t369 t370 t377 bt381.1 true) else ((laws_rSame.f k t369 t373).bind fun t385 => (if t385 = true then (if (t378 != bt379.2) = true then (laws_FnStepsToOne.j0 k l1 t368 t369 t370 t377 bt381.1 true) else (if t377 = bt379.1 then (if (bt381.2 != bt383.2) = true then (laws_FnStepsToOne.j0 k l1 t368 t369 t370 t377 bt381.1 true) else (if bt381.1 = bt383.1 then (if (t378 != t370) = true then (laws_FnStepsToOne.j0 k l1 t368 t369 t370 t377 bt381.1 true) else (laws_FnStepsToOne.j0 k l1 t368 t369 t370 t377 bt381.1 (bt381.2 != t370))) else (laws_FnStepsToOne.j0 k l1 t368 t369 t370 t377 bt381.1 true))) else (laws_FnStepsToOne.j0 k l1 t368 t369 t370 t377 bt381.1 true))) else (laws_FnStepsToOne.j0 k l1 t368 t369 t370 t377 bt381.1 true))))))) = some r := H
    have A8 := Aside0.mk A80
    clear A80
    replace H := Option.bind_eq_some_iff.mp H
    obtain ⟨⟨t379, t380⟩, A90, H⟩ := H
    replace H : ((impl_GreatestOn.f k t368).bind fun bt381 => ((spec_GreatestOn.f k t368).bind fun bt383 => (if (t370 != t374) = true then (laws_FnStepsToOne.j0 k l1 t368 t369 t370 t377 bt381.1 true) else ((laws_rSame.f k t369 t373).bind fun t385 => (if t385 = true then (if (t378 != t380) = true then (laws_FnStepsToOne.j0 k l1 t368 t369 t370 t377 bt381.1 true) else (if t377 = t379 then (if (bt381.2 != bt383.2) = true then (laws_FnStepsToOne.j0 k l1 t368 t369 t370 t377 bt381.1 true) else (if bt381.1 = bt383.1 then (if (t378 != t370) = true then (laws_FnStepsToOne.j0 k l1 t368 t369 t370 t377 bt381.1 true) else (laws_FnStepsToOne.j0 k l1 t368 t369 t370 t377 bt381.1 (bt381.2 != t370))) else (laws_FnStepsToOne.j0 k l1 t368 t369 t370 t377 bt381.1 true))) else (laws_FnStepsToOne.j0 k l1 t368 t369 t370 t377 bt381.1 true))) else (laws_FnStepsToOne.j0 k l1 t368 t369 t370 t377 bt381.1 true)))))) = some r := H
    have A9 := Aside0.mk A90
    clear A90
    replace H := Option.bind_eq_some_iff.mp H
    obtain ⟨⟨t381, t382⟩, A100, H⟩ := H
    replace H : ((spec_GreatestOn.f k t368).bind fun bt383 => (if (t370 != t374) = true then (laws_FnStepsToOne.j0 k l1 t368 t369 t370 t377 t381 true) else ((laws_rSame.f k t369 t373).bind fun t385 => (if t385 = true then (if (t378 != t380) = true then (laws_FnStepsToOne.j0 k l1 t368 t369 t370 t377 t381 true) else (if t377 = t379 then (if (t382 != bt383.2) = true then (laws_FnStepsToOne.j0 k l1 t368 t369 t370 t377 t381 true) else (if t381 = bt383.1 then (if (t378 != t370) = true then (laws_FnStepsToOne.j0 k l1 t368 t369 t370 t377 t381 true) else (laws_FnStepsToOne.j0 k l1 t368 t369 t370 t377 t381 (t382 != t370))) else (laws_FnStepsToOne.j0 k l1 t368 t369 t370 t377 t381 true))) else (laws_FnStepsToOne.j0 k l1 t368 t369 t370 t377 t381 true))) else (laws_FnStepsToOne.j0 k l1 t368 t369 t370 t377 t381 true))))) = some r := H
    have A10 := Aside0.mk A100
    clear A100
    replace H := Option.bind_eq_some_iff.mp H
    obtain ⟨⟨t383, t384⟩, A110, H⟩ := H
    replace H : (if (t370 != t374) = true then (laws_FnStepsToOne.j0 k l1 t368 t369 t370 t377 t381 true) else ((laws_rSame.f k t369 t373).bind fun t385 => (if t385 = true then (if (t378 != t380) = true then (laws_FnStepsToOne.j0 k l1 t368 t369 t370 t377 t381 true) else (if t377 = t379 then (if (t382 != t384) = true then (laws_FnStepsToOne.j0 k l1 t368 t369 t370 t377 t381 true) else (if t381 = t383 then (if (t378 != t370) = true then (laws_FnStepsToOne.j0 k l1 t368 t369 t370 t377 t381 true) else (laws_FnStepsToOne.j0 k l1 t368 t369 t370 t377 t381 (t382 != t370))) else (laws_FnStepsToOne.j0 k l1 t368 t369 t370 t377 t381 true))) else (laws_FnStepsToOne.j0 k l1 t368 t369 t370 t377 t381 true))) else (laws_FnStepsToOne.j0 k l1 t368 t369 t370 t377 t381 true)))) = some r := H
    have A11 := Aside0.mk A110
    clear A110
    have HC12 := Aside0.mk H
    clear H
    go_enter Try.func3, Try.ntmps3
    go_upto_region 10 with (first | ((with_reducible refine gate_callee (f := 5) rfl ?_); refine goesL_ (some 70) rfl rfl Try.func5 (by kernel_rfl) rfl #[.slice A0 l0.length c0, .slice A1 l1.length c1] rfl (by (try simp only [List.map_toArray, List.map_cons, List.map_nil]); first | done | rfl | (simp only [List.length_drop, List.length_take]; rfl)) ?_; (with_reducible refine (laws_big.calls _ _ l0 _ _ l1 false _ ?side1 ?side2 ?side3 ?side4 A3.out).mono ?_); (case side1 => repeat (first | exact HR0.out | (with_reducible refine Kd.C_alloc ?_ _) | (with_reducible refine Kd.C_drewN ?_ _) | (with_reducible refine Kd.C_drew ?_))); (case side2 => exact HC0.out); (case side3 => repeat (first | exact HR1.out | (with_reducible refine Kd.C_alloc ?_ _) | (with_reducible refine Kd.C_drewN ?_ _) | (with_reducible refine Kd.C_drew ?_))); (case side4 => exact HC1.out); rintro e w' ⟨rfl, ⟨nd, rfl⟩⟩; refine ⟨_, rfl, ?_⟩) | ((with_reducible refine gate_callee (f := 6) rfl ?_); refine goesL_ (some 72) rfl rfl Try.func6 (by kernel_rfl) rfl #[.slice A0 l0.length c0] rfl (by (try simp only [List.map_toArray, List.map_cons, List.map_nil]); first | done | rfl | (simp only [List.length_drop, List.length_take]; rfl)) ?_; (with_reducible refine (spec_DrawWayToOne.calls k _ _ l0 t368 _ ?side1 ?side2 A5.out).mono ?_); (case side1 => repeat (first | exact HR0.out | (with_reducible refine Kd.C_alloc ?_ _) | (with_reducible refine Kd.C_drewN ?_ _) | (with_reducible refine Kd.C_drew ?_))); (case side2 => exact HC0.out); rintro e w13 ⟨rfl, hb⟩; refine ⟨_, rfl, ?_⟩; have n0_ := Aside0.mk (below_step (by repeat (first | (with_reducible first | exact HB.out | apply below_alloc | apply pw_below_drewN | apply below_drew1) | exact HB.out)) hb); clear HB; have HB := n0_; clear n0_; (try clear hb); (try clear hb2); (try clear hk); (try clear hi)) | ((with_reducible refine gate_callee (f := 7) rfl ?_); refine goesL_ (some 75) rfl rfl Try.func7 (by kernel_rfl) rfl #[.int .i64 t368] rfl (by (try simp only [List.map_toArray, List.map_cons, List.map_nil]); first | done | rfl | (simp only [List.length_drop, List.length_take]; rfl)) ?_; (with_reducible refine (impl_WayToOne.calls k t368 t369 t370 _ A6.out).mono ?_); rintro e w14 ⟨v371, rfl, ho0, hb⟩; refine ⟨_, rfl, ?_⟩; have n0_ := Aside0.mk (Kd.R_lower ho0 (below_size (by repeat (first | (with_reducible first | exact HB.out | apply below_alloc | apply pw_below_drewN | apply below_drew1) | exact HB.out)))); have n1_ := Aside0.mk (below_step (by repeat (first | (with_reducible first | exact HB.out | apply below_alloc | apply pw_below_drewN | apply below_drew1) | exact HB.out)) hb); clear HB; have HO372 := n0_; have HB := n1_; clear n0_ n1_; (try clear hb); (try clear hb2); (try clear hk); (try clear hi); (try clear ho0)) | ((with_reducible refine gate_callee (f := 8) rfl ?_); refine goesL_ (some 80) rfl rfl Try.func8 (by kernel_rfl) rfl #[.int .i64 t368] rfl (by (try simp only [List.map_toArray, List.map_cons, List.map_nil]); first | done | rfl | (simp only [List.length_drop, List.length_take]; rfl)) ?_; (with_reducible refine (spec_WayToOne.calls k t368 t373 t374 _ A7.out).mono ?_); rintro e w15 ⟨v375, rfl, ho0, hb⟩; refine ⟨_, rfl, ?_⟩; have n0_ := Aside0.mk (Kd.R_elder' (by (with_reducible repeat (first | apply Kd.R_alloc | apply Kd.R_drewN | apply Kd.R_drew)); exact HO372.out) (Kd.R_base ho0) hb); have n1_ := Aside0.mk (Kd.R_lower (Kd.R_new' ho0 (Kd.R_lt (by (with_reducible repeat (first | apply Kd.R_alloc | apply Kd.R_drewN | apply Kd.R_drew)); exact HO372.out))) (below_size (by repeat (first | (with_reducible first | exact HB.out | apply below_alloc | apply pw_below_drewN | apply below_drew1) | exact HB.out)))); have n2_ := Aside0.mk (below_step (by repeat (first | (with_reducible first | exact HB.out | apply below_alloc | apply pw_below_drewN | apply below_drew1) | exact HB.out)) hb); clear HO372; clear HB; have HO372 := n0_; have HO376 := n1_; have HB := n2_; clear n0_ n1_ n2_; (try clear hb); (try clear hb2); (try clear hk); (try clear hi); (try clear ho0)) | ((with_reducible refine gate_callee (f := 9) rfl ?_); refine goesL_ (some 85) rfl rfl Try.func9 (by kernel_rfl) rfl #[.int .i64 t368] rfl (by (try simp only [List.map_toArray, List.map_cons, List.map_nil]); first | done | rfl | (simp only [List.length_drop, List.length_take]; rfl)) ?_; (with_reducible refine (impl_StepsTo.calls k t368 t377 t378 _ A8.out).mono ?_); rintro e w16 ⟨rfl, hb⟩; refine ⟨_, rfl, ?_⟩; have n0_ := Aside0.mk (Kd.R_below (by (with_reducible repeat (first | apply Kd.R_alloc | apply Kd.R_drewN | apply Kd.R_drew)); exact HO372.out) hb); have n1_ := Aside0.mk (Kd.R_below (by (with_reducible repeat (first | apply Kd.R_alloc | apply Kd.R_drewN | apply Kd.R_drew)); exact HO376.out) hb); have n2_ := Aside0.mk (below_step (by repeat (first | (with_reducible first | exact HB.out | apply below_alloc | apply pw_below_drewN | apply below_drew1) | exact HB.out)) hb); clear HO372; clear HO376; clear HB; have HO372 := n0_; have HO376 := n1_; have HB := n2_; clear n0_ n1_ n2_; (try clear hb); (try clear hb2); (try clear hk); (try clear hi)) | ((with_reducible refine gate_callee (f := 10) rfl ?_); refine goesL_ (some 90) rfl rfl Try.func10 (by kernel_rfl) rfl #[.int .i64 t368] rfl (by (try simp only [List.map_toArray, List.map_cons, List.map_nil]); first | done | rfl | (simp only [List.length_drop, List.length_take]; rfl)) ?_; (with_reducible refine (spec_StepsTo.calls k t368 t379 t380 _ A9.out).mono ?_); rintro e w17 ⟨rfl, hb⟩; refine ⟨_, rfl, ?_⟩; have n0_ := Aside0.mk (Kd.R_below (by (with_reducible repeat (first | apply Kd.R_alloc | apply Kd.R_drewN | apply Kd.R_drew)); exact HO372.out) hb); have n1_ := Aside0.mk (Kd.R_below (by (with_reducible repeat (first | apply Kd.R_alloc | apply Kd.R_drewN | apply Kd.R_drew)); exact HO376.out) hb); have n2_ := Aside0.mk (below_step (by repeat (first | (with_reducible first | exact HB.out | apply below_alloc | apply pw_below_drewN | apply below_drew1) | exact HB.out)) hb); clear HO372; clear HO376; clear HB; have HO372 := n0_; have HO376 := n1_; have HB := n2_; clear n0_ n1_ n2_; (try clear hb); (try clear hb2); (try clear hk); (try clear hi)) | ((with_reducible refine gate_callee (f := 11) rfl ?_); refine goesL_ (some 95) rfl rfl Try.func11 (by kernel_rfl) rfl #[.int .i64 t368] rfl (by (try simp only [List.map_toArray, List.map_cons, List.map_nil]); first | done | rfl | (simp only [List.length_drop, List.length_take]; rfl)) ?_; (with_reducible refine (impl_GreatestOn.calls k t368 t381 t382 _ A10.out).mono ?_); rintro e w18 ⟨rfl, hb⟩; refine ⟨_, rfl, ?_⟩; have n0_ := Aside0.mk (Kd.R_below (by (with_reducible repeat (first | apply Kd.R_alloc | apply Kd.R_drewN | apply Kd.R_drew)); exact HO372.out) hb); have n1_ := Aside0.mk (Kd.R_below (by (with_reducible repeat (first | apply Kd.R_alloc | apply Kd.R_drewN | apply Kd.R_drew)); exact HO376.out) hb); have n2_ := Aside0.mk (below_step (by repeat (first | (with_reducible first | exact HB.out | apply below_alloc | apply pw_below_drewN | apply below_drew1) | exact HB.out)) hb); clear HO372; clear HO376; clear HB; have HO372 := n0_; have HO376 := n1_; have HB := n2_; clear n0_ n1_ n2_; (try clear hb); (try clear hb2); (try clear hk); (try clear hi)) | ((with_reducible refine gate_callee (f := 12) rfl ?_); refine goesL_ (some 100) rfl rfl Try.func12 (by kernel_rfl) rfl #[.int .i64 t368] rfl (by (try simp only [List.map_toArray, List.map_cons, List.map_nil]); first | done | rfl | (simp only [List.length_drop, List.length_take]; rfl)) ?_; (with_reducible refine (spec_GreatestOn.calls k t368 t383 t384 _ A11.out).mono ?_); rintro e w19 ⟨rfl, hb⟩; refine ⟨_, rfl, ?_⟩; have n0_ := Aside0.mk (Kd.R_below (by (with_reducible repeat (first | apply Kd.R_alloc | apply Kd.R_drewN | apply Kd.R_drew)); exact HO372.out) hb); have n1_ := Aside0.mk (Kd.R_below (by (with_reducible repeat (first | apply Kd.R_alloc | apply Kd.R_drewN | apply Kd.R_drew)); exact HO376.out) hb); have n2_ := Aside0.mk (below_step (by repeat (first | (with_reducible first | exact HB.out | apply below_alloc | apply pw_below_drewN | apply below_drew1) | exact HB.out)) hb); clear HO372; clear HO376; clear HB; have HO372 := n0_; have HO376 := n1_; have HB := n2_; clear n0_ n1_ n2_; (try clear hb); (try clear hb2); (try clear hk); (try clear hi)))
    (try simp only [Act.put, List.setIfInBounds_toArray, List.set_cons_zero, List.set_cons_succ])
    go_cut [141] (fun v141 wc => ∃ (kq : Nat) (x141_11 : Bool), v141 = .bool x141_11 ∧ Aside0 (laws_FnStepsToOne.j0 kq l1 t368 t369 t370 t377 t381 x141_11 = some r) ∧ Aside0 (kq ≤ k) ∧ Aside0 (Kd.R (Kd.int .i64) 3 wc w.heap.size (fun _ => True) v371 t369) ∧ Aside0 (Below w.heap.size w wc))
    case first =>
      as_aux_lemma =>
      have H := HC12.out
      clear HC12
      by_cases c20 : (t370 != t374) = true
      · rw [if_pos c20] at H
        have c20b0 : (t370 != t374) = true := c20
        (try (have c20b1 : decide (t370 = t374) = false := by simpa using c20))
        (try (have c20b2 : (t370 == t374) = false := by simpa using c20))
        (try (have c20b3 : ¬ (t370 = t374) := by simpa using c20))
        clear c20
        (first | rw [c20b0] | (simp only [i64_w, i32_w]; rw [c20b0]) | skip)
        exact (laws_FnStepsToOne.j0_no HR_.out _ _ _ _ _ _ _ H).elim
      · rw [if_neg c20] at H
        have c20b0 : (t370 != t374) = false := by simpa using c20
        (try (have c20b1 : decide (t370 = t374) = true := by simpa using c20))
        (try (have c20b2 : (t370 == t374) = true := by simpa using c20))
        clear c20
        (first | rw [c20b0] | (simp only [i64_w, i32_w]; rw [c20b0]) | skip)
        replace H := Option.bind_eq_some_iff.mp H
        obtain ⟨t385, A210, H⟩ := H
        replace H : (if t385 = true then (if (t378 != t380) = true then (laws_FnStepsToOne.j0 k l1 t368 t369 t370 t377 t381 true) else (if t377 = t379 then (if (t382 != t384) = true then (laws_FnStepsToOne.j0 k l1 t368 t369 t370 t377 t381 true) else (if t381 = t383 then (if (t378 != t370) = true then (laws_FnStepsToOne.j0 k l1 t368 t369 t370 t377 t381 true) else (laws_FnStepsToOne.j0 k l1 t368 t369 t370 t377 t381 (t382 != t370))) else (laws_FnStepsToOne.j0 k l1 t368 t369 t370 t377 t381 true))) else (laws_FnStepsToOne.j0 k l1 t368 t369 t370 t377 t381 true))) else (laws_FnStepsToOne.j0 k l1 t368 t369 t370 t377 t381 true)) = some r := H
        have A21 := Aside0.mk A210
        clear A210
        by_cases c22 : t385 = true
        · subst c22
          have H1 : (if (t378 != t380) = true then (laws_FnStepsToOne.j0 k l1 t368 t369 t370 t377 t381 true) else (if t377 = t379 then (if (t382 != t384) = true then (laws_FnStepsToOne.j0 k l1 t368 t369 t370 t377 t381 true) else (if t381 = t383 then (if (t378 != t370) = true then (laws_FnStepsToOne.j0 k l1 t368 t369 t370 t377 t381 true) else (laws_FnStepsToOne.j0 k l1 t368 t369 t370 t377 t381 (t382 != t370))) else (laws_FnStepsToOne.j0 k l1 t368 t369 t370 t377 t381 true))) else (laws_FnStepsToOne.j0 k l1 t368 t369 t370 t377 t381 true))) = some r := by rw [if_pos rfl] at H; exact H
          clear H
          have H := H1
          clear H1
          by_cases c23 : (t378 != t380) = true
          · rw [if_pos c23] at H
            have c23b0 : (t378 != t380) = true := c23
            (try (have c23b1 : decide (t378 = t380) = false := by simpa using c23))
            (try (have c23b2 : (t378 == t380) = false := by simpa using c23))
            (try (have c23b3 : ¬ (t378 = t380) := by simpa using c23))
            clear c23
            exact (laws_FnStepsToOne.j0_no HR_.out _ _ _ _ _ _ _ H).elim
          · rw [if_neg c23] at H
            have c23b0 : (t378 != t380) = false := by simpa using c23
            (try (have c23b1 : decide (t378 = t380) = true := by simpa using c23))
            (try (have c23b2 : (t378 == t380) = true := by simpa using c23))
            clear c23
            by_cases c24 : t377 = t379
            · rw [if_pos c24] at H
              have c24b0 : (t377 == t379) = true := beq_iff_eq.mpr c24
              have c24b1 : (t377 != t379) = false := bne_eq_false_iff_eq.mpr c24
              clear c24
              by_cases c25 : (t382 != t384) = true
              · rw [if_pos c25] at H
                have c25b0 : (t382 != t384) = true := c25
                (try (have c25b1 : decide (t382 = t384) = false := by simpa using c25))
                (try (have c25b2 : (t382 == t384) = false := by simpa using c25))
                (try (have c25b3 : ¬ (t382 = t384) := by simpa using c25))
                clear c25
                exact (laws_FnStepsToOne.j0_no HR_.out _ _ _ _ _ _ _ H).elim
              · rw [if_neg c25] at H
                have c25b0 : (t382 != t384) = false := by simpa using c25
                (try (have c25b1 : decide (t382 = t384) = true := by simpa using c25))
                (try (have c25b2 : (t382 == t384) = true := by simpa using c25))
                clear c25
                by_cases c26 : t381 = t383
                · rw [if_pos c26] at H
                  have c26b0 : (t381 == t383) = true := beq_iff_eq.mpr c26
                  have c26b1 : (t381 != t383) = false := bne_eq_false_iff_eq.mpr c26
                  clear c26
                  by_cases c27 : (t378 != t370) = true
                  · rw [if_pos c27] at H
                    have c27b0 : (t378 != t370) = true := c27
                    (try (have c27b1 : decide (t378 = t370) = false := by simpa using c27))
                    (try (have c27b2 : (t378 == t370) = false := by simpa using c27))
                    (try (have c27b3 : ¬ (t378 = t370) := by simpa using c27))
                    clear c27
                    exact (laws_FnStepsToOne.j0_no HR_.out _ _ _ _ _ _ _ H).elim
                  · rw [if_neg c27] at H
                    have c27b0 : (t378 != t370) = false := by simpa using c27
                    (try (have c27b1 : decide (t378 = t370) = true := by simpa using c27))
                    (try (have c27b2 : (t378 == t370) = true := by simpa using c27))
                    clear c27
                    as_aux_lemma =>
                      have H' := Aside0.mk H
                      clear H
                      obtain ⟨Ao28, co28, eo28⟩ := Kd.R_slice HO372.out
                      subst eo28
                      obtain ⟨Ao29, co29, eo29⟩ := Kd.R_slice HO376.out
                      subst eo29
                      go_wp2_with (first | (go_at_call 13; (with_reducible refine (laws_rSame.calls k _ _ t369 _ _ t373 true _ ?side1 ?side2 ?side3 ?side4 A21.out).mono ?_); (case side1 => repeat (first | exact (Kd.R_reads' HO372.out).2.2 | (with_reducible refine Kd.C_alloc ?_ _) | (with_reducible refine Kd.C_drewN ?_ _) | (with_reducible refine Kd.C_drew ?_))); (case side2 => exact (Kd.R_reads' HO372.out).2.1); (case side3 => repeat (first | exact (Kd.R_reads' HO376.out).2.2 | (with_reducible refine Kd.C_alloc ?_ _) | (with_reducible refine Kd.C_drewN ?_ _) | (with_reducible refine Kd.C_drew ?_))); (case side4 => exact (Kd.R_reads' HO376.out).2.1); rintro e w' ⟨rfl, ⟨nd, rfl⟩⟩))
                      go_meet
                      case rel => exact ⟨_, ((t382 != t370)), (by first | rfl | (simp; done) | (simp [*]; done)), H', ⟨by first | omega | exact Nat.le_refl _⟩, ⟨by (with_reducible repeat (first | apply Kd.R_alloc | apply Kd.R_drewN | apply Kd.R_drew)); exact Kd.R_mono HO372.out (fun _ hk => trivial)⟩, ⟨by repeat (first | (with_reducible first | exact HB.out | apply below_alloc | apply pw_below_drewN | apply below_drew1) | exact HB.out)⟩⟩
                · rw [if_neg c26] at H
                  have c26b0 : (t381 == t383) = false := beq_eq_false_iff_ne.mpr c26
                  have c26b1 : (t381 != t383) = true := bne_iff_ne.mpr c26
                  exact (laws_FnStepsToOne.j0_no HR_.out _ _ _ _ _ _ _ H).elim
            · rw [if_neg c24] at H
              have c24b0 : (t377 == t379) = false := beq_eq_false_iff_ne.mpr c24
              have c24b1 : (t377 != t379) = true := bne_iff_ne.mpr c24
              exact (laws_FnStepsToOne.j0_no HR_.out _ _ _ _ _ _ _ H).elim
        · replace c22 := Bool.eq_false_iff.mpr c22
          subst c22
          have H1 : (laws_FnStepsToOne.j0 k l1 t368 t369 t370 t377 t381 true) = some r := by rw [if_neg (show ¬ (false = true) by decide)] at H; exact H
          clear H
          have H := H1
          clear H1
          exact (laws_FnStepsToOne.j0_no HR_.out _ _ _ _ _ _ _ H).elim
    case rest =>
      as_aux_lemma =>
      clear HC12
      try clear c1
      try clear c2
      try clear p2
      try clear c3
      try clear c4
      try clear c5
      try clear c6
      try clear c7
      try clear c8
      try clear c9
      try clear c10
      try clear c11
      try clear c12
      try clear c20
      try clear c20b0
      try clear c20b1
      try clear c20b2
      try clear c22
      try clear c23
      try clear c23b0
      try clear c23b1
      try clear c23b2
      try clear c24
      try clear c24b0
      try clear c24b1
      try clear c25
      try clear c25b0
      try clear c25b1
      try clear c25b2
      try clear c26
      try clear c26b0
      try clear c26b1
      try clear c27
      try clear c27b0
      try clear c27b1
      try clear c27b2
      obtain ⟨kq, x141_11, rfl, HA, HJ11, HO_6, HB⟩ := hcut
      cases kq with
      | zero => exact absurd HA.out (by simp [laws_FnStepsToOne.j0])
      | succ kj11 =>
        have H := HA.out
        clear HA
        simp only [laws_FnStepsToOne.j0] at H
        by_cases c30 : x141_11 = true
        · subst c30
          have H1 : (some false) = some r := by rw [if_pos rfl] at H; exact H
          clear H
          have H := H1
          clear H1
          exact absurd (Option.some.inj H) (by rw [HR_.out]; decide)
        · replace c30 := Bool.eq_false_iff.mpr c30
          subst c30
          have H1 : (if t370 = true then (laws_FnStepsToOne.l0 kj11 l1 t368 t369 t377 t381 0 t369 (t369.length : Int) 0) else (laws_FnStepsToOne.j3 kj11 l1)) = some r := by rw [if_neg (show ¬ (false = true) by decide)] at H; exact H
          clear H
          have H := H1
          clear H1
          have HC31 := Aside0.mk H
          clear H
          go_upto_if 142 with (fail)
          go_cut [] (fun wc => ∃ (kq : Nat), Aside0 (laws_FnStepsToOne.j3 kq l1 = some r) ∧ Aside0 (kq ≤ kj11) ∧ Aside0 (Below w.heap.size w wc))
          case first =>
            as_aux_lemma =>
            have H := HC31.out
            clear HC31
            by_cases c32 : t370 = true
            · subst c32
              have H1 : (laws_FnStepsToOne.l0 kj11 l1 t368 t369 t377 t381 0 t369 (t369.length : Int) 0) = some r := by rw [if_pos rfl] at H; exact H
              clear H
              have H := H1
              clear H1
              have H' := Aside0.mk H
              clear H
              obtain ⟨Ao33, co33, eo33⟩ := Kd.R_slice HO_6.out
              subst eo33
              go_wp2
              go_loopg [18, 145] kj11 (fun kq v18 v145 w' => ∃ (x18_2 : Int) (x145_2 : Int), v18 = .int .i64 x18_2 ∧ v145 = .int .i64 x145_2 ∧ Aside0 (laws_FnStepsToOne.l0 kq l1 t368 t369 t377 t381 x18_2 t369 (t369.length : Int) x145_2 = some r) ∧ Aside0 (kq ≤ kj11) ∧ Aside0 (Kd.R (Kd.int .i64) 3 w' w.heap.size (fun _ => True) (.slice Ao33 t369.length co33) t369) ∧ Aside0 (Kd.R (Kd.int .i64) 3 w' w.heap.size (fun _ => True) (.slice Ao33 t369.length co33) t369) ∧ Aside0 (Below w.heap.size w w'))
              case atStart => exact ⟨(0), (0), (by first | rfl | (simp; done) | (simp [*]; done)), (by first | rfl | (simp; done) | (simp [*]; done)), H', ⟨Nat.le_refl _⟩, ⟨by (with_reducible repeat (first | apply Kd.R_alloc | apply Kd.R_drewN | apply Kd.R_drew)); exact HO_6.out⟩, ⟨by (with_reducible repeat (first | apply Kd.R_alloc | apply Kd.R_drewN | apply Kd.R_drew)); exact HO_6.out⟩, ⟨by repeat (first | (with_reducible first | exact HB.out | apply below_alloc | apply pw_below_drewN | apply below_drew1) | exact HB.out)⟩⟩
              case round =>
                as_aux_lemma =>
                clear H'
                try clear c1
                try clear c2
                try clear p2
                try clear c3
                try clear c4
                try clear c5
                try clear c6
                try clear c7
                try clear c8
                try clear c9
                try clear c10
                try clear c11
                try clear c12
                try clear c20
                try clear c20b0
                try clear c20b1
                try clear c20b2
                try clear c22
                try clear c23
                try clear c23b0
                try clear c23b1
                try clear c23b2
                try clear c24
                try clear c24b0
                try clear c24b1
                try clear c25
                try clear c25b0
                try clear c25b1
                try clear c25b2
                try clear c26
                try clear c26b0
                try clear c26b1
                try clear c27
                try clear c27b0
                try clear c27b1
                try clear c27b2
                try clear c30
                try clear c32
                try clear p2
                obtain ⟨x18_2, x145_2, rfl, rfl, HA, HK2, HO_6, HO_143, HB⟩ := hrel
                cases gk with
                | zero => exact absurd HA.out (by simp [laws_FnStepsToOne.l0])
                | succ k2 =>
                  have H := HA.out
                  clear HA
                  simp only [laws_FnStepsToOne.l0] at H
                  by_cases c34 : x145_2 < (t369.length : Int)
                  · rw [if_pos c34] at H
                    have c34b0 : decide (x145_2 < (t369.length : Int)) = true := decide_eq_true c34
                    clear c34
                    (first | rw [c34b0] | (simp only [i64_w, i32_w]; rw [c34b0]) | skip)
                    by_cases c35 : 0 ≤ x145_2
                    · rw [if_pos c35] at H
                      have c35b0 : decide (0 ≤ x145_2) = true := decide_eq_true c35
                      clear c35
                      by_cases c36 : x145_2 < (t369.length : Int)
                      · rw [if_pos c36] at H
                        have c36b0 : decide (x145_2 < (t369.length : Int)) = true := decide_eq_true c36
                        clear c36
                        have HC37 := Aside0.mk H
                        clear H
                        have p388 : 0 ≤ (x145_2 : Int) := of_decide_eq_true (by first | (with_reducible assumption) | assumption)
                        have q388 : x145_2 < (t369.length : Int) := of_decide_eq_true (by first | (with_reducible assumption) | assumption)
                        obtain ⟨ad388, e388, hx388_0⟩ := Kd.at_int (Kd.R_reads' HO_143.out).2.2 x145_2 p388 q388
                        cases e388
                        replace p388 := eq_true p388
                        replace q388 := eq_true q388
                        go_upto_if 152 with (fail)
                        go_cut [18] (fun v18 wc => ∃ (kq : Nat) (x18_36 : Int), v18 = .int .i64 x18_36 ∧ Aside0 (laws_FnStepsToOne.j2 kq l1 t368 t369 t377 t381 x18_36 x145_2 (rd t369 x145_2) t369 (t369.length : Int) x145_2 = some r) ∧ Aside0 (kq ≤ k2) ∧ Aside0 (Kd.R (Kd.int .i64) 3 wc w.heap.size (fun _ => True) (.slice (some ad388) t369.length co33) t369) ∧ Aside0 (Kd.R (Kd.int .i64) 3 wc w.heap.size (fun _ => True) (.slice (some ad388) t369.length co33) t369) ∧ Aside0 (Below w.heap.size w wc))
                        case first =>
                          as_aux_lemma =>
                          have H := HC37.out
                          clear HC37
                          by_cases c38 : (rd t369 x145_2) > x18_2
                          · rw [if_pos c38] at H
                            have c38b0 : decide (x18_2 < (rd t369 x145_2)) = true := decide_eq_true c38
                            clear c38
                            (first | rw [c38b0] | (simp only [i64_w, i32_w]; rw [c38b0]) | skip)
                            as_aux_lemma =>
                              have H' := Aside0.mk H
                              clear H
                              go_wp2
                              go_meet
                              case rel => exact ⟨_, (rd t369 x145_2), (by first | rfl | (simp; done) | (simp [*]; done)), H', ⟨by have := HJ11.out; have := HK2.out; first | omega | exact Nat.le_refl _⟩, ⟨by (with_reducible repeat (first | apply Kd.R_alloc | apply Kd.R_drewN | apply Kd.R_drew)); exact HO_6.out⟩, ⟨by (with_reducible repeat (first | apply Kd.R_alloc | apply Kd.R_drewN | apply Kd.R_drew)); exact HO_143.out⟩, ⟨by repeat (first | (with_reducible first | exact HB.out | apply below_alloc | apply pw_below_drewN | apply below_drew1) | exact HB.out)⟩⟩
                          · rw [if_neg c38] at H
                            have c38b0 : decide (x18_2 < (rd t369 x145_2)) = false := decide_eq_false c38
                            clear c38
                            (first | rw [c38b0] | (simp only [i64_w, i32_w]; rw [c38b0]) | skip)
                            as_aux_lemma =>
                              have H' := Aside0.mk H
                              clear H
                              go_wp2
                              go_meet
                              case rel => exact ⟨_, (x18_2), (by first | rfl | (simp; done) | (simp [*]; done)), H', ⟨by have := HJ11.out; have := HK2.out; first | omega | exact Nat.le_refl _⟩, ⟨by (with_reducible repeat (first | apply Kd.R_alloc | apply Kd.R_drewN | apply Kd.R_drew)); exact HO_6.out⟩, ⟨by (with_reducible repeat (first | apply Kd.R_alloc | apply Kd.R_drewN | apply Kd.R_drew)); exact HO_143.out⟩, ⟨by repeat (first | (with_reducible first | exact HB.out | apply below_alloc | apply pw_below_drewN | apply below_drew1) | exact HB.out)⟩⟩
                        case rest =>
                          as_aux_lemma =>
                          clear HC37
                          try clear c1
                          try clear c2
                          try clear p2
                          try clear c3
                          try clear p3
                          try clear q3
                          try clear hx3
                          try clear c4
                          try clear c5
                          try clear c6
                          try clear c7
                          try clear c8
                          try clear c9
                          try clear c10
                          try clear c11
                          try clear c12
                          try clear c20
                          try clear c20b0
                          try clear c20b1
                          try clear c20b2
                          try clear c22
                          try clear c23
                          try clear c23b0
                          try clear c23b1
                          try clear c23b2
                          try clear c24
                          try clear c24b0
                          try clear c24b1
                          try clear c25
                          try clear c25b0
                          try clear c25b1
                          try clear c25b2
                          try clear c26
                          try clear c26b0
                          try clear c26b1
                          try clear c27
                          try clear c27b0
                          try clear c27b1
                          try clear c27b2
                          try clear c30
                          try clear c32
                          try clear c34
                          try clear c34b0
                          try clear c35
                          try clear c35b0
                          try clear c36
                          try clear c36b0
                          try clear c38
                          try clear c38b0
                          try clear p38
                          try clear q38
                          try clear hx38
                          try clear hx388_0
                          try clear p2
                          try clear p388
                          try clear q388
                          obtain ⟨kq, x18_36, rfl, HA, HJ36, HO_6, HO_143, HB⟩ := hcut
                          cases kq with
                          | zero => exact absurd HA.out (by simp [laws_FnStepsToOne.j2])
                          | succ kj36 =>
                            have H := HA.out
                            clear HA
                            simp only [laws_FnStepsToOne.j2] at H
                            by_cases c39 : (wrap64 (x145_2 + 1)) < (t369.length : Int)
                            · rw [if_pos c39] at H
                              have c39b0 : decide ((wrap64 (x145_2 + 1)) < (t369.length : Int)) = true := decide_eq_true c39
                              clear c39
                              replace H := Option.bind_eq_some_iff.mp H
                              obtain ⟨⟨t389, t390⟩, A400, H⟩ := H
                              replace H : ((impl_BeforeStep.f kj36 t389).bind fun bt391 => (if t390 = true then (if 0 ≤ (wrap64 (x145_2 + 1)) then (if t389 = (rd t369 (wrap64 (x145_2 + 1))) then (if bt391.2 = true then ((laws_rHas.f kj36 bt391.1 (rd t369 x145_2)).bind fun t396 => (if t396 = true then (if (rd t369 x145_2) = 1 then (some false) else (laws_FnStepsToOne.l0 kj36 l1 t368 t369 t377 t381 x18_36 t369 (t369.length : Int) (wrap64 (x145_2 + 1)))) else (some false))) else (some false)) else (some false)) else (none)) else (some false))) = some r := H
                              have A40 := Aside0.mk A400
                              clear A400
                              replace H := Option.bind_eq_some_iff.mp H
                              obtain ⟨⟨t391, t392⟩, A410, H⟩ := H
                              replace H : (if t390 = true then (if 0 ≤ (wrap64 (x145_2 + 1)) then (if t389 = (rd t369 (wrap64 (x145_2 + 1))) then (if t392 = true then ((laws_rHas.f kj36 t391 (rd t369 x145_2)).bind fun t396 => (if t396 = true then (if (rd t369 x145_2) = 1 then (some false) else (laws_FnStepsToOne.l0 kj36 l1 t368 t369 t377 t381 x18_36 t369 (t369.length : Int) (wrap64 (x145_2 + 1)))) else (some false))) else (some false)) else (some false)) else (none)) else (some false)) = some r := H
                              have A41 := Aside0.mk A410
                              clear A410
                              by_cases c42 : t390 = true
                              · subst c42
                                have H1 : (if 0 ≤ (wrap64 (x145_2 + 1)) then (if t389 = (rd t369 (wrap64 (x145_2 + 1))) then (if t392 = true then ((laws_rHas.f kj36 t391 (rd t369 x145_2)).bind fun t396 => (if t396 = true then (if (rd t369 x145_2) = 1 then (some false) else (laws_FnStepsToOne.l0 kj36 l1 t368 t369 t377 t381 x18_36 t369 (t369.length : Int) (wrap64 (x145_2 + 1)))) else (some false))) else (some false)) else (some false)) else (none)) = some r := by rw [if_pos rfl] at H; exact H
                                clear H
                                have H := H1
                                clear H1
                                obtain ⟨ji43, hji43⟩ : ∃ j_ : Int, (wrap64 (x145_2 + 1)) = j_ := ⟨_, rfl⟩
                                replace H : (if 0 ≤ (ji43) then (if t389 = (rd t369 (ji43)) then (if t392 = true then ((laws_rHas.f kj36 t391 (rd t369 x145_2)).bind fun t396 => (if t396 = true then (if (rd t369 x145_2) = 1 then (some false) else (laws_FnStepsToOne.l0 kj36 l1 t368 t369 t377 t381 x18_36 t369 (t369.length : Int) ji43)) else (some false))) else (some false)) else (some false)) else (none)) = some r := by first | (rw [hji43] at H; exact H) | (simp only [hji43] at H ⊢; exact H)
                                (try rw [hji43] at c39b0)
                                (try rw [hji43] at A40)
                                (try rw [hji43] at A41)
                                have hji43w : (IntKind.i64.wrap (x145_2 + 1)) = ji43 := (i64_w _).trans hji43
                                by_cases c44 : 0 ≤ (ji43)
                                · rw [if_pos c44] at H
                                  have c44b0 : decide (0 ≤ (ji43)) = true := decide_eq_true c44
                                  clear c44
                                  by_cases c45 : t389 = (rd t369 (ji43))
                                  · rw [if_pos c45] at H
                                    have c45b0 : (t389 == (rd t369 (ji43))) = true := beq_iff_eq.mpr c45
                                    have c45b1 : (t389 != (rd t369 (ji43))) = false := bne_eq_false_iff_eq.mpr c45
                                    clear c45
                                    by_cases c46 : t392 = true
                                    · subst c46
                                      have H1 : ((laws_rHas.f kj36 t391 (rd t369 x145_2)).bind fun t396 => (if t396 = true then (if (rd t369 x145_2) = 1 then (some false) else (laws_FnStepsToOne.l0 kj36 l1 t368 t369 t377 t381 x18_36 t369 (t369.length : Int) ji43)) else (some false))) = some r := by rw [if_pos rfl] at H; exact H
                                      clear H
                                      have H := H1
                                      clear H1
                                      replace H := Option.bind_eq_some_iff.mp H
                                      obtain ⟨t396, A470, H⟩ := H
                                      replace H : (if t396 = true then (if (rd t369 x145_2) = 1 then (some false) else (laws_FnStepsToOne.l0 kj36 l1 t368 t369 t377 t381 x18_36 t369 (t369.length : Int) ji43)) else (some false)) = some r := H
                                      have A47 := Aside0.mk A470
                                      clear A470
                                      by_cases c48 : t396 = true
                                      · subst c48
                                        have H1 : (if (rd t369 x145_2) = 1 then (some false) else (laws_FnStepsToOne.l0 kj36 l1 t368 t369 t377 t381 x18_36 t369 (t369.length : Int) ji43)) = some r := by rw [if_pos rfl] at H; exact H
                                        clear H
                                        have H := H1
                                        clear H1
                                        by_cases c49 : (rd t369 x145_2) = 1
                                        · rw [if_pos c49] at H
                                          have c49b0 : ((rd t369 x145_2) == 1) = true := beq_iff_eq.mpr c49
                                          have c49b1 : ((rd t369 x145_2) != 1) = false := bne_eq_false_iff_eq.mpr c49
                                          clear c49
                                          exact absurd (Option.some.inj H) (by rw [HR_.out]; decide)
                                        · rw [if_neg c49] at H
                                          have c49b0 : ((rd t369 x145_2) == 1) = false := beq_eq_false_iff_ne.mpr c49
                                          have c49b1 : ((rd t369 x145_2) != 1) = true := bne_iff_ne.mpr c49
                                          as_aux_lemma =>
                                            have H' := Aside0.mk H
                                            clear H
                                            go_wp2_with (first | ((with_reducible refine gate_callee (f := 14) rfl ?_); refine goesL_ (some 161) rfl rfl Try.func14 (by kernel_rfl) rfl #[.int .i64 (rd t369 x145_2)] rfl (by (try simp only [List.map_toArray, List.map_cons, List.map_nil]); first | done | rfl | (simp only [List.length_drop, List.length_take]; rfl)) ?_; (with_reducible refine (impl_StepOf.calls (rd t369 x145_2) t389 true _ A40.out).mono ?_); rintro e w' ⟨rfl, ⟨nd, rfl⟩⟩; refine ⟨_, rfl, ?_⟩) | ((with_reducible refine gate_callee (f := 15) rfl ?_); refine goesL_ (some 166) rfl rfl Try.func15 (by kernel_rfl) rfl #[.int .i64 t389] rfl (by (try simp only [List.map_toArray, List.map_cons, List.map_nil]); first | done | rfl | (simp only [List.length_drop, List.length_take]; rfl)) ?_; (with_reducible refine (impl_BeforeStep.calls kj36 t389 t391 true _ A41.out).mono ?_); rintro e w50 ⟨v393, rfl, ho0, hb⟩; refine ⟨_, rfl, ?_⟩; have n0_ := Aside0.mk (Kd.R_elder' (by (with_reducible repeat (first | apply Kd.R_alloc | apply Kd.R_drewN | apply Kd.R_drew)); exact HO_6.out) (Kd.R_base ho0) hb); have n1_ := Aside0.mk (Kd.R_elder' (by (with_reducible repeat (first | apply Kd.R_alloc | apply Kd.R_drewN | apply Kd.R_drew)); exact HO_143.out) (Kd.R_base ho0) hb); have n2_ := Aside0.mk (Kd.R_lower (Kd.R_new' (Kd.R_new' ho0 (Kd.R_lt (by (with_reducible repeat (first | apply Kd.R_alloc | apply Kd.R_drewN | apply Kd.R_drew)); exact HO_6.out))) (Kd.R_lt (by (with_reducible repeat (first | apply Kd.R_alloc | apply Kd.R_drewN | apply Kd.R_drew)); exact HO_143.out))) (below_size (by repeat (first | (with_reducible first | exact HB.out | apply below_alloc | apply pw_below_drewN | apply below_drew1) | exact HB.out)))); have n3_ := Aside0.mk (below_step (by repeat (first | (with_reducible first | exact HB.out | apply below_alloc | apply pw_below_drewN | apply below_drew1) | exact HB.out)) hb); clear HO_6; clear HO_143; clear HB; have HO_6 := n0_; have HO_143 := n1_; have HO394 := n2_; have HB := n3_; clear n0_ n1_ n2_ n3_; (try clear hb); (try clear hb2); (try clear hk); (try clear hi); (try clear ho0); have p395 : 0 ≤ ((ji43) : Int) := of_decide_eq_true (by first | (with_reducible assumption) | assumption); have q395 : (ji43) < (t369.length : Int) := of_decide_eq_true (by first | (with_reducible assumption) | assumption); obtain ⟨ad395, e395, hx395_0⟩ := Kd.at_int (Kd.R_reads' HO_6.out).2.2 (ji43) p395 q395; obtain rfl : ad388 = ad395 := (by injection e395); replace p395 := eq_true p395; replace q395 := eq_true q395; obtain ⟨Ao51, co51, eo51⟩ := Kd.R_slice HO394.out; subst eo51) | (go_at_call 16; (with_reducible refine (laws_rHas.calls kj36 _ _ t391 (rd t369 x145_2) true _ ?side1 ?side2 A47.out).mono ?_); (case side1 => repeat (first | exact (Kd.R_reads' HO394.out).2.2 | (with_reducible refine Kd.C_alloc ?_ _) | (with_reducible refine Kd.C_drewN ?_ _) | (with_reducible refine Kd.C_drew ?_))); (case side2 => exact (Kd.R_reads' HO394.out).2.1); rintro e w' ⟨rfl, ⟨nd, rfl⟩⟩))
                                            go_roundg kj36
                                            case measure => have := HJ11.out; have := HK2.out; have := HJ36.out; omega
                                            case rel => exact ⟨(x18_36), (ji43), (by first | rfl | (simp; done) | (simp [*]; done)), (by first | rfl | (simp; done) | (simp only [← hji43] <;> (first | rfl | simp)) | (simp [*]; done)), H', ⟨by have := HJ11.out; have := HK2.out; have := HJ36.out; omega⟩, ⟨by (with_reducible repeat (first | apply Kd.R_alloc | apply Kd.R_drewN | apply Kd.R_drew)); exact Kd.R_mono HO_6.out (fun _ hk => trivial)⟩, ⟨by (with_reducible repeat (first | apply Kd.R_alloc | apply Kd.R_drewN | apply Kd.R_drew)); exact Kd.R_mono HO_143.out (fun _ hk => trivial)⟩, ⟨by repeat (first | (with_reducible first | exact HB.out | apply below_alloc | apply pw_below_drewN | apply below_drew1) | exact HB.out)⟩⟩
                                      · replace c48 := Bool.eq_false_iff.mpr c48
                                        subst c48
                                        have H1 : (some false) = some r := by rw [if_neg (show ¬ (false = true) by decide)] at H; exact H
                                        clear H
                                        have H := H1
                                        clear H1
                                        exact absurd (Option.some.inj H) (by rw [HR_.out]; decide)
                                    · replace c46 := Bool.eq_false_iff.mpr c46
                                      subst c46
                                      have H1 : (some false) = some r := by rw [if_neg (show ¬ (false = true) by decide)] at H; exact H
                                      clear H
                                      have H := H1
                                      clear H1
                                      exact absurd (Option.some.inj H) (by rw [HR_.out]; decide)
                                  · rw [if_neg c45] at H
                                    have c45b0 : (t389 == (rd t369 (ji43))) = false := beq_eq_false_iff_ne.mpr c45
                                    have c45b1 : (t389 != (rd t369 (ji43))) = true := bne_iff_ne.mpr c45
                                    exact absurd (Option.some.inj H) (by rw [HR_.out]; decide)
                                · rw [if_neg c44] at H
                                  exact absurd H (by simp)
                              · replace c42 := Bool.eq_false_iff.mpr c42
                                subst c42
                                have H1 : (some false) = some r := by rw [if_neg (show ¬ (false = true) by decide)] at H; exact H
                                clear H
                                have H := H1
                                clear H1
                                exact absurd (Option.some.inj H) (by rw [HR_.out]; decide)
                            · rw [if_neg c39] at H
                              have c39b0 : decide ((wrap64 (x145_2 + 1)) < (t369.length : Int)) = false := decide_eq_false c39
                              clear c39
                              as_aux_lemma =>
                                have H' := Aside0.mk H
                                clear H
                                go_wp2
                                go_roundg kj36
                                case measure => have := HJ11.out; have := HK2.out; have := HJ36.out; omega
                                case rel => exact ⟨(x18_36), (wrap64 (x145_2 + 1)), (by first | rfl | (simp; done) | (simp [*]; done)), (by first | rfl | (simp; done) | (simp [*]; done)), H', ⟨by have := HJ11.out; have := HK2.out; have := HJ36.out; omega⟩, ⟨by (with_reducible repeat (first | apply Kd.R_alloc | apply Kd.R_drewN | apply Kd.R_drew)); exact HO_6.out⟩, ⟨by (with_reducible repeat (first | apply Kd.R_alloc | apply Kd.R_drewN | apply Kd.R_drew)); exact HO_143.out⟩, ⟨by repeat (first | (with_reducible first | exact HB.out | apply below_alloc | apply pw_below_drewN | apply below_drew1) | exact HB.out)⟩⟩
                      · rw [if_neg c36] at H
                        exact absurd H (by simp)
                    · rw [if_neg c35] at H
                      exact absurd H (by simp)
                  · rw [if_neg c34] at H
                    have c34b0 : decide (x145_2 < (t369.length : Int)) = false := decide_eq_false c34
                    clear c34
                    (first | rw [c34b0] | (simp only [i64_w, i32_w]; rw [c34b0]) | skip)
                    by_cases c52 : 0 < (t369.length : Int)
                    · rw [if_pos c52] at H
                      have c52b0 : decide (0 < (t369.length : Int)) = true := decide_eq_true c52
                      have c52b1 : decide (0 < t369.length) = true := decide_eq_true (by omega)
                      clear c52
                      by_cases c53 : (rd t369 0) = t368
                      · rw [if_pos c53] at H
                        have c53b0 : ((rd t369 0) == t368) = true := beq_iff_eq.mpr c53
                        have c53b1 : ((rd t369 0) != t368) = false := bne_eq_false_iff_eq.mpr c53
                        clear c53
                        obtain ⟨ji54, hji54⟩ : ∃ j_ : Int, (wrap64 ((t369.length : Int) - 1)) = j_ := ⟨_, rfl⟩
                        replace H : (if 0 ≤ (ji54) then (if (ji54) < (t369.length : Int) then (if (rd t369 (ji54)) = 1 then (if (t369.length : Int) = (wrap64 (t377 + 1)) then (if x18_2 = t381 then (laws_FnStepsToOne.j3 k2 l1) else (some false)) else (some false)) else (some false)) else (none)) else (none)) = some r := by first | (rw [hji54] at H; exact H) | (simp only [hji54] at H ⊢; exact H)
                        have hji54w : (IntKind.i64.wrap ((t369.length : Int) - 1)) = ji54 := (i64_w _).trans hji54
                        by_cases c55 : 0 ≤ (ji54)
                        · rw [if_pos c55] at H
                          have c55b0 : decide (0 ≤ (ji54)) = true := decide_eq_true c55
                          clear c55
                          by_cases c56 : (ji54) < (t369.length : Int)
                          · rw [if_pos c56] at H
                            have c56b0 : decide ((ji54) < (t369.length : Int)) = true := decide_eq_true c56
                            clear c56
                            by_cases c57 : (rd t369 (ji54)) = 1
                            · rw [if_pos c57] at H
                              have c57b0 : ((rd t369 (ji54)) == 1) = true := beq_iff_eq.mpr c57
                              have c57b1 : ((rd t369 (ji54)) != 1) = false := bne_eq_false_iff_eq.mpr c57
                              clear c57
                              by_cases c58 : (t369.length : Int) = (wrap64 (t377 + 1))
                              · rw [if_pos c58] at H
                                have c58b0 : ((t369.length : Int) == (wrap64 (t377 + 1))) = true := beq_iff_eq.mpr c58
                                have c58b1 : ((t369.length : Int) != (wrap64 (t377 + 1))) = false := bne_eq_false_iff_eq.mpr c58
                                clear c58
                                by_cases c59 : x18_2 = t381
                                · rw [if_pos c59] at H
                                  have c59b0 : (x18_2 == t381) = true := beq_iff_eq.mpr c59
                                  have c59b1 : (x18_2 != t381) = false := bne_eq_false_iff_eq.mpr c59
                                  clear c59
                                  as_aux_lemma =>
                                    have H' := Aside0.mk H
                                    clear H
                                    have p386 : 0 ≤ (0 : Int) := (by omega)
                                    have q386 : 0 < (t369.length : Int) := of_decide_eq_true (by first | (with_reducible assumption) | assumption)
                                    obtain ⟨ad386, e386, hx386_0⟩ := Kd.at_int (Kd.R_reads' HO_6.out).2.2 0 p386 q386
                                    cases e386
                                    have qi386 : (0 < t369.length) = True := eq_true (by omega)
                                    (try rw [show ((0 : Int)).toNat = 0 from rfl] at hx386_0)
                                    (try rw [Addr.add_zero'] at hx386_0)
                                    replace p386 := eq_true p386
                                    replace q386 := eq_true q386
                                    have p387 : 0 ≤ ((ji54) : Int) := of_decide_eq_true (by first | (with_reducible assumption) | assumption)
                                    have q387 : (ji54) < (t369.length : Int) := of_decide_eq_true (by first | (with_reducible assumption) | assumption)
                                    obtain ⟨ad387, e387, hx387_0⟩ := Kd.at_int (Kd.R_reads' HO_6.out).2.2 (ji54) p387 q387
                                    obtain rfl : ad386 = ad387 := (by injection e387)
                                    replace p387 := eq_true p387
                                    replace q387 := eq_true q387
                                    go_wp2
                                    go_meet
                                    case rel => exact ⟨_, H', ⟨by have := HJ11.out; have := HK2.out; first | omega | exact Nat.le_refl _⟩, ⟨by repeat (first | (with_reducible first | exact HB.out | apply below_alloc | apply pw_below_drewN | apply below_drew1) | exact HB.out)⟩⟩
                                · rw [if_neg c59] at H
                                  have c59b0 : (x18_2 == t381) = false := beq_eq_false_iff_ne.mpr c59
                                  have c59b1 : (x18_2 != t381) = true := bne_iff_ne.mpr c59
                                  exact absurd (Option.some.inj H) (by rw [HR_.out]; decide)
                              · rw [if_neg c58] at H
                                have c58b0 : ((t369.length : Int) == (wrap64 (t377 + 1))) = false := beq_eq_false_iff_ne.mpr c58
                                have c58b1 : ((t369.length : Int) != (wrap64 (t377 + 1))) = true := bne_iff_ne.mpr c58
                                exact absurd (Option.some.inj H) (by rw [HR_.out]; decide)
                            · rw [if_neg c57] at H
                              have c57b0 : ((rd t369 (ji54)) == 1) = false := beq_eq_false_iff_ne.mpr c57
                              have c57b1 : ((rd t369 (ji54)) != 1) = true := bne_iff_ne.mpr c57
                              exact absurd (Option.some.inj H) (by rw [HR_.out]; decide)
                          · rw [if_neg c56] at H
                            exact absurd H (by simp)
                        · rw [if_neg c55] at H
                          exact absurd H (by simp)
                      · rw [if_neg c53] at H
                        have c53b0 : ((rd t369 0) == t368) = false := beq_eq_false_iff_ne.mpr c53
                        have c53b1 : ((rd t369 0) != t368) = true := bne_iff_ne.mpr c53
                        exact absurd (Option.some.inj H) (by rw [HR_.out]; decide)
                    · rw [if_neg c52] at H
                      exact absurd H (by simp)
            · replace c32 := Bool.eq_false_iff.mpr c32
              subst c32
              have H1 : (laws_FnStepsToOne.j3 kj11 l1) = some r := by rw [if_neg (show ¬ (false = true) by decide)] at H; exact H
              clear H
              have H := H1
              clear H1
              as_aux_lemma =>
                have H' := Aside0.mk H
                clear H
                go_wp2
                go_meet
                case rel => exact ⟨_, H', ⟨by have := HJ11.out; first | omega | exact Nat.le_refl _⟩, ⟨by repeat (first | (with_reducible first | exact HB.out | apply below_alloc | apply pw_below_drewN | apply below_drew1) | exact HB.out)⟩⟩
          case rest =>
            as_aux_lemma =>
            clear HC31
            try clear c1
            try clear c2
            try clear p2
            try clear c3
            try clear p3
            try clear q3
            try clear hx3
            try clear qi3
            try clear c4
            try clear c5
            try clear c6
            try clear p6
            try clear c7
            try clear c8
            try clear c9
            try clear c10
            try clear c11
            try clear c12
            try clear c14
            try clear c15
            try clear c20
            try clear c20b0
            try clear c20b1
            try clear c20b2
            try clear c22
            try clear c23
            try clear c23b0
            try clear c23b1
            try clear c23b2
            try clear c24
            try clear c24b0
            try clear c24b1
            try clear c25
            try clear c25b0
            try clear c25b1
            try clear c25b2
            try clear c26
            try clear c26b0
            try clear c26b1
            try clear c27
            try clear c27b0
            try clear c27b1
            try clear c27b2
            try clear c30
            try clear c32
            try clear c34
            try clear c34b0
            try clear c35
            try clear c35b0
            try clear c36
            try clear c36b0
            try clear c38
            try clear c38b0
            try clear p38
            try clear q38
            try clear hx38
            try clear qi38
            try clear c39
            try clear c39b0
            try clear p39
            try clear q39
            try clear hx39
            try clear c42
            try clear c44
            try clear c44b0
            try clear c45
            try clear c45b0
            try clear c45b1
            try clear c46
            try clear c48
            try clear c49
            try clear c49b0
            try clear c49b1
            try clear c52
            try clear c52b0
            try clear c52b1
            try clear c53
            try clear c53b0
            try clear c53b1
            try clear c55
            try clear c55b0
            try clear c56
            try clear c56b0
            try clear c57
            try clear c57b0
            try clear c57b1
            try clear c58
            try clear c58b0
            try clear c58b1
            try clear c59
            try clear c59b0
            try clear c59b1
            try clear hx386_0
            try clear hx387_0
            try clear hx388_0
            try clear hx395_0
            try clear p2
            try clear p3
            try clear p38
            try clear p386
            try clear p387
            try clear p388
            try clear p395
            try clear q3
            try clear q38
            try clear q386
            try clear q387
            try clear q388
            try clear q395
            obtain ⟨kq, HA, HJ30, HB⟩ := hcut
            cases kq with
            | zero => exact absurd HA.out (by simp [laws_FnStepsToOne.j3])
            | succ kj30 =>
              have H := HA.out
              clear HA
              simp only [laws_FnStepsToOne.j3] at H
              replace H := Option.bind_eq_some_iff.mp H
              obtain ⟨t397, A600, H⟩ := H
              replace H : ((impl_LevelOf.f kj30 t397).bind fun bt398 => ((spec_LevelOf.f kj30 t397).bind fun bt402 => (if (bt398.2 != bt402.2) = true then (laws_FnStepsToOne.j4 kj30 l1 t397 bt398.1 bt398.2 true) else ((laws_rSame.f kj30 bt398.1 bt402.1).bind fun t406 => (if t406 = true then ((laws_rRising.f kj30 bt398.1).bind fun t407 => (laws_FnStepsToOne.j4 kj30 l1 t397 bt398.1 bt398.2 (!t407))) else (laws_FnStepsToOne.j4 kj30 l1 t397 bt398.1 bt398.2 true)))))) = some r := H
              have A60 := Aside0.mk A600
              clear A600
              replace H := Option.bind_eq_some_iff.mp H
              obtain ⟨⟨t398, t399⟩, A610, H⟩ := H
              replace H : ((spec_LevelOf.f kj30 t397).bind fun bt402 => (if (t399 != bt402.2) = true then (laws_FnStepsToOne.j4 kj30 l1 t397 t398 t399 true) else ((laws_rSame.f kj30 t398 bt402.1).bind fun t406 => (if t406 = true then ((laws_rRising.f kj30 t398).bind fun t407 => (laws_FnStepsToOne.j4 kj30 l1 t397 t398 t399 (!t407))) else (laws_FnStepsToOne.j4 kj30 l1 t397 t398 t399 true))))) = some r := H
              have A61 := Aside0.mk A610
              clear A610
              replace H := Option.bind_eq_some_iff.mp H
              obtain ⟨⟨t402, t403⟩, A620, H⟩ := H
              replace H : (if (t399 != t403) = true then (laws_FnStepsToOne.j4 kj30 l1 t397 t398 t399 true) else ((laws_rSame.f kj30 t398 t402).bind fun t406 => (if t406 = true then ((laws_rRising.f kj30 t398).bind fun t407 => (laws_FnStepsToOne.j4 kj30 l1 t397 t398 t399 (!t407))) else (laws_FnStepsToOne.j4 kj30 l1 t397 t398 t399 true)))) = some r := H
              have A62 := Aside0.mk A620
              clear A620
              have HC63 := Aside0.mk H
              clear H
              go_upto_region 30 with (first | ((with_reducible refine gate_callee (f := 17) rfl ?_); refine goesL_ (some 222) rfl rfl Try.func17 (by kernel_rfl) rfl #[.slice A1 l1.length c1] rfl (by (try simp only [List.map_toArray, List.map_cons, List.map_nil]); first | done | rfl | (simp only [List.length_drop, List.length_take]; rfl)) ?_; (with_reducible refine (spec_DrawLevelOf.calls _ _ l1 t397 _ ?side1 ?side2 A60.out).mono ?_); (case side1 => repeat (first | exact (Kd.C_below HR1.out HB.out) | (with_reducible refine Kd.C_alloc ?_ _) | (with_reducible refine Kd.C_drewN ?_ _) | (with_reducible refine Kd.C_drew ?_))); (case side2 => exact HC1.out); rintro e w64 ⟨rfl, hb⟩; refine ⟨_, rfl, ?_⟩; have n0_ := Aside0.mk (below_step (by repeat (first | (with_reducible first | exact HB.out | apply below_alloc | apply pw_below_drewN | apply below_drew1) | exact HB.out)) hb); clear HB; have HB := n0_; clear n0_; (try clear hb); (try clear hb2); (try clear hk); (try clear hi)) | ((with_reducible refine gate_callee (f := 18) rfl ?_); refine goesL_ (some 225) rfl rfl Try.func18 (by kernel_rfl) rfl #[.int .i64 t397] rfl (by (try simp only [List.map_toArray, List.map_cons, List.map_nil]); first | done | rfl | (simp only [List.length_drop, List.length_take]; rfl)) ?_; (with_reducible refine (impl_LevelOf.calls kj30 t397 t398 t399 _ A61.out).mono ?_); rintro e w65 ⟨v400, rfl, ho0, hb⟩; refine ⟨_, rfl, ?_⟩; have n0_ := Aside0.mk (Kd.R_lower ho0 (below_size (by repeat (first | (with_reducible first | exact HB.out | apply below_alloc | apply pw_below_drewN | apply below_drew1) | exact HB.out)))); have n1_ := Aside0.mk (below_step (by repeat (first | (with_reducible first | exact HB.out | apply below_alloc | apply pw_below_drewN | apply below_drew1) | exact HB.out)) hb); clear HB; have HO401 := n0_; have HB := n1_; clear n0_ n1_; (try clear hb); (try clear hb2); (try clear hk); (try clear hi); (try clear ho0)) | ((with_reducible refine gate_callee (f := 19) rfl ?_); refine goesL_ (some 230) rfl rfl Try.func19 (by kernel_rfl) rfl #[.int .i64 t397] rfl (by (try simp only [List.map_toArray, List.map_cons, List.map_nil]); first | done | rfl | (simp only [List.length_drop, List.length_take]; rfl)) ?_; (with_reducible refine (spec_LevelOf.calls kj30 t397 t402 t403 _ A62.out).mono ?_); rintro e w66 ⟨v404, rfl, ho0, hb⟩; refine ⟨_, rfl, ?_⟩; have n0_ := Aside0.mk (Kd.R_elder' (by (with_reducible repeat (first | apply Kd.R_alloc | apply Kd.R_drewN | apply Kd.R_drew)); exact HO401.out) (Kd.R_base ho0) hb); have n1_ := Aside0.mk (Kd.R_lower (Kd.R_new' ho0 (Kd.R_lt (by (with_reducible repeat (first | apply Kd.R_alloc | apply Kd.R_drewN | apply Kd.R_drew)); exact HO401.out))) (below_size (by repeat (first | (with_reducible first | exact HB.out | apply below_alloc | apply pw_below_drewN | apply below_drew1) | exact HB.out)))); have n2_ := Aside0.mk (below_step (by repeat (first | (with_reducible first | exact HB.out | apply below_alloc | apply pw_below_drewN | apply below_drew1) | exact HB.out)) hb); clear HO401; clear HB; have HO401 := n0_; have HO405 := n1_; have HB := n2_; clear n0_ n1_ n2_; (try clear hb); (try clear hb2); (try clear hk); (try clear hi); (try clear ho0)))
              (try simp only [Act.put, List.setIfInBounds_toArray, List.set_cons_zero, List.set_cons_succ])
              go_cut [246] (fun v246 wc => ∃ (kq : Nat) (x246_62 : Bool), v246 = .bool x246_62 ∧ Aside0 (laws_FnStepsToOne.j4 kq l1 t397 t398 t399 x246_62 = some r) ∧ Aside0 (kq ≤ kj30) ∧ Aside0 (Kd.R (Kd.int .i64) 3 wc w.heap.size (fun _ => True) v400 t398) ∧ Aside0 (Below w.heap.size w wc))
              case first =>
                as_aux_lemma =>
                have H := HC63.out
                clear HC63
                by_cases c67 : (t399 != t403) = true
                · rw [if_pos c67] at H
                  have c67b0 : (t399 != t403) = true := c67
                  (try (have c67b1 : decide (t399 = t403) = false := by simpa using c67))
                  (try (have c67b2 : (t399 == t403) = false := by simpa using c67))
                  (try (have c67b3 : ¬ (t399 = t403) := by simpa using c67))
                  clear c67
                  (first | rw [c67b0] | (simp only [i64_w, i32_w]; rw [c67b0]) | skip)
                  exact (laws_FnStepsToOne.j4_no HR_.out _ _ _ _ _ H).elim
                · rw [if_neg c67] at H
                  have c67b0 : (t399 != t403) = false := by simpa using c67
                  (try (have c67b1 : decide (t399 = t403) = true := by simpa using c67))
                  (try (have c67b2 : (t399 == t403) = true := by simpa using c67))
                  clear c67
                  (first | rw [c67b0] | (simp only [i64_w, i32_w]; rw [c67b0]) | skip)
                  replace H := Option.bind_eq_some_iff.mp H
                  obtain ⟨t406, A680, H⟩ := H
                  replace H : (if t406 = true then ((laws_rRising.f kj30 t398).bind fun t407 => (laws_FnStepsToOne.j4 kj30 l1 t397 t398 t399 (!t407))) else (laws_FnStepsToOne.j4 kj30 l1 t397 t398 t399 true)) = some r := H
                  have A68 := Aside0.mk A680
                  clear A680
                  by_cases c69 : t406 = true
                  · subst c69
                    have H1 : ((laws_rRising.f kj30 t398).bind fun t407 => (laws_FnStepsToOne.j4 kj30 l1 t397 t398 t399 (!t407))) = some r := by rw [if_pos rfl] at H; exact H
                    clear H
                    have H := H1
                    clear H1
                    replace H := Option.bind_eq_some_iff.mp H
                    obtain ⟨t407, A700, H⟩ := H
                    replace H : (laws_FnStepsToOne.j4 kj30 l1 t397 t398 t399 (!t407)) = some r := H
                    have A70 := Aside0.mk A700
                    clear A700
                    as_aux_lemma =>
                      have H' := Aside0.mk H
                      clear H
                      obtain ⟨Ao71, co71, eo71⟩ := Kd.R_slice HO401.out
                      subst eo71
                      obtain ⟨Ao72, co72, eo72⟩ := Kd.R_slice HO405.out
                      subst eo72
                      go_wp2_with (first | (go_at_call 13; (with_reducible refine (laws_rSame.calls kj30 _ _ t398 _ _ t402 true _ ?side1 ?side2 ?side3 ?side4 A68.out).mono ?_); (case side1 => repeat (first | exact (Kd.R_reads' HO401.out).2.2 | (with_reducible refine Kd.C_alloc ?_ _) | (with_reducible refine Kd.C_drewN ?_ _) | (with_reducible refine Kd.C_drew ?_))); (case side2 => exact (Kd.R_reads' HO401.out).2.1); (case side3 => repeat (first | exact (Kd.R_reads' HO405.out).2.2 | (with_reducible refine Kd.C_alloc ?_ _) | (with_reducible refine Kd.C_drewN ?_ _) | (with_reducible refine Kd.C_drew ?_))); (case side4 => exact (Kd.R_reads' HO405.out).2.1); rintro e w' ⟨rfl, ⟨nd, rfl⟩⟩) | (go_at_call 20; (with_reducible refine (laws_rRising.calls kj30 _ _ t398 t407 _ ?side1 ?side2 A70.out).mono ?_); (case side1 => repeat (first | exact (Kd.R_reads' HO401.out).2.2 | (with_reducible refine Kd.C_alloc ?_ _) | (with_reducible refine Kd.C_drewN ?_ _) | (with_reducible refine Kd.C_drew ?_))); (case side2 => exact (Kd.R_reads' HO401.out).2.1); rintro e w' ⟨rfl, ⟨nd, rfl⟩⟩))
                      go_meet
                      case rel => exact ⟨_, (!t407), (by first | rfl | (simp; done) | (simp [*]; done)), H', ⟨by have := HJ11.out; have := HJ30.out; first | omega | exact Nat.le_refl _⟩, ⟨by (with_reducible repeat (first | apply Kd.R_alloc | apply Kd.R_drewN | apply Kd.R_drew)); exact Kd.R_mono HO401.out (fun _ hk => trivial)⟩, ⟨by repeat (first | (with_reducible first | exact HB.out | apply below_alloc | apply pw_below_drewN | apply below_drew1) | exact HB.out)⟩⟩
                  · replace c69 := Bool.eq_false_iff.mpr c69
                    subst c69
                    have H1 : (laws_FnStepsToOne.j4 kj30 l1 t397 t398 t399 true) = some r := by rw [if_neg (show ¬ (false = true) by decide)] at H; exact H
                    clear H
                    have H := H1
                    clear H1
                    exact (laws_FnStepsToOne.j4_no HR_.out _ _ _ _ _ H).elim
              case rest =>
                as_aux_lemma =>
                clear HC63
                try clear c1
                try clear c2
                try clear p2
                try clear c3
                try clear p3
                try clear q3
                try clear hx3
                try clear qi3
                try clear c4
                try clear c5
                try clear c6
                try clear p6
                try clear c7
                try clear c8
                try clear c9
                try clear c10
                try clear c11
                try clear c12
                try clear c14
                try clear c15
                try clear c17
                try clear c18
                try clear c19
                try clear c20
                try clear c20b0
                try clear c20b1
                try clear c20b2
                try clear c22
                try clear c23
                try clear c23b0
                try clear c23b1
                try clear c23b2
                try clear c24
                try clear c24b0
                try clear c24b1
                try clear c25
                try clear c25b0
                try clear c25b1
                try clear c25b2
                try clear c26
                try clear c26b0
                try clear c26b1
                try clear c27
                try clear c27b0
                try clear c27b1
                try clear c27b2
                try clear c30
                try clear c32
                try clear c34
                try clear c34b0
                try clear c35
                try clear c35b0
                try clear c36
                try clear c36b0
                try clear c38
                try clear c38b0
                try clear p38
                try clear q38
                try clear hx38
                try clear qi38
                try clear c39
                try clear c39b0
                try clear p39
                try clear q39
                try clear hx39
                try clear c42
                try clear c44
                try clear c44b0
                try clear c45
                try clear c45b0
                try clear c45b1
                try clear c46
                try clear c48
                try clear c49
                try clear c49b0
                try clear c49b1
                try clear c52
                try clear c52b0
                try clear c52b1
                try clear c53
                try clear c53b0
                try clear c53b1
                try clear c55
                try clear c55b0
                try clear c56
                try clear c56b0
                try clear c57
                try clear c57b0
                try clear c57b1
                try clear c58
                try clear c58b0
                try clear c58b1
                try clear c59
                try clear c59b0
                try clear c59b1
                try clear p64
                try clear c67
                try clear c67b0
                try clear c67b1
                try clear c67b2
                try clear c69
                try clear hx386_0
                try clear hx387_0
                try clear hx388_0
                try clear hx395_0
                try clear p2
                try clear p3
                try clear p38
                try clear p386
                try clear p387
                try clear p388
                try clear p39
                try clear p395
                try clear p6
                try clear q3
                try clear q38
                try clear q386
                try clear q387
                try clear q388
                try clear q39
                try clear q395
                obtain ⟨kq, x246_62, rfl, HA, HJ62, HO_26, HB⟩ := hcut
                cases kq with
                | zero => exact absurd HA.out (by simp [laws_FnStepsToOne.j4])
                | succ kj62 =>
                  have H := HA.out
                  clear HA
                  simp only [laws_FnStepsToOne.j4] at H
                  by_cases c73 : x246_62 = true
                  · subst c73
                    have H1 : (some false) = some r := by rw [if_pos rfl] at H; exact H
                    clear H
                    have H := H1
                    clear H1
                    exact absurd (Option.some.inj H) (by rw [HR_.out]; decide)
                  · replace c73 := Bool.eq_false_iff.mpr c73
                    subst c73
                    have H1 : (laws_FnStepsToOne.l1 kj62 l1 t397 t398 t399 t398 (t398.length : Int) 0) = some r := by rw [if_neg (show ¬ (false = true) by decide)] at H; exact H
                    clear H
                    have H := H1
                    clear H1
                    have H' := Aside0.mk H
                    clear H
                    obtain ⟨Ao74, co74, eo74⟩ := Kd.R_slice HO_26.out
                    subst eo74
                    go_wp2
                    go_loopg [249] kj62 (fun kq v249 w' => ∃ (x249_4 : Int), v249 = .int .i64 x249_4 ∧ Aside0 (laws_FnStepsToOne.l1 kq l1 t397 t398 t399 t398 (t398.length : Int) x249_4 = some r) ∧ Aside0 (kq ≤ kj62) ∧ Aside0 (Kd.R (Kd.int .i64) 3 w' w.heap.size (fun _ => True) (.slice Ao74 t398.length co74) t398) ∧ Aside0 (Kd.R (Kd.int .i64) 3 w' w.heap.size (fun _ => True) (.slice Ao74 t398.length co74) t398) ∧ Aside0 (Below w.heap.size w w'))
                    case atStart => exact ⟨(0), (by first | rfl | (simp; done) | (simp [*]; done)), H', ⟨Nat.le_refl _⟩, ⟨by (with_reducible repeat (first | apply Kd.R_alloc | apply Kd.R_drewN | apply Kd.R_drew)); exact HO_26.out⟩, ⟨by (with_reducible repeat (first | apply Kd.R_alloc | apply Kd.R_drewN | apply Kd.R_drew)); exact HO_26.out⟩, ⟨by repeat (first | (with_reducible first | exact HB.out | apply below_alloc | apply pw_below_drewN | apply below_drew1) | exact HB.out)⟩⟩
                    case round =>
                      as_aux_lemma =>
                      clear H'
                      try clear c1
                      try clear c2
                      try clear p2
                      try clear c3
                      try clear p3
                      try clear q3
                      try clear hx3
                      try clear qi3
                      try clear c4
                      try clear c5
                      try clear c6
                      try clear p6
                      try clear c7
                      try clear c8
                      try clear c9
                      try clear c10
                      try clear c11
                      try clear c12
                      try clear c14
                      try clear c15
                      try clear c17
                      try clear c18
                      try clear c19
                      try clear c20
                      try clear c20b0
                      try clear c20b1
                      try clear c20b2
                      try clear c22
                      try clear c23
                      try clear c23b0
                      try clear c23b1
                      try clear c23b2
                      try clear c24
                      try clear c24b0
                      try clear c24b1
                      try clear c25
                      try clear c25b0
                      try clear c25b1
                      try clear c25b2
                      try clear c26
                      try clear c26b0
                      try clear c26b1
                      try clear c27
                      try clear c27b0
                      try clear c27b1
                      try clear c27b2
                      try clear c30
                      try clear c32
                      try clear c34
                      try clear c34b0
                      try clear c35
                      try clear c35b0
                      try clear c36
                      try clear c36b0
                      try clear c38
                      try clear c38b0
                      try clear p38
                      try clear q38
                      try clear hx38
                      try clear qi38
                      try clear c39
                      try clear c39b0
                      try clear p39
                      try clear q39
                      try clear hx39
                      try clear c42
                      try clear c44
                      try clear c44b0
                      try clear c45
                      try clear c45b0
                      try clear c45b1
                      try clear c46
                      try clear c48
                      try clear c49
                      try clear c49b0
                      try clear c49b1
                      try clear c52
                      try clear c52b0
                      try clear c52b1
                      try clear c53
                      try clear c53b0
                      try clear c53b1
                      try clear c55
                      try clear c55b0
                      try clear c56
                      try clear c56b0
                      try clear c57
                      try clear c57b0
                      try clear c57b1
                      try clear c58
                      try clear c58b0
                      try clear c58b1
                      try clear c59
                      try clear c59b0
                      try clear c59b1
                      try clear p64
                      try clear c67
                      try clear c67b0
                      try clear c67b1
                      try clear c67b2
                      try clear c69
                      try clear c73
                      try clear hx386_0
                      try clear hx387_0
                      try clear hx388_0
                      try clear hx395_0
                      try clear p2
                      try clear p3
                      try clear p38
                      try clear p386
                      try clear p387
                      try clear p388
                      try clear p39
                      try clear p395
                      try clear p6
                      try clear p64
                      try clear q3
                      try clear q38
                      try clear q386
                      try clear q387
                      try clear q388
                      try clear q39
                      try clear q395
                      obtain ⟨x249_4, rfl, HA, HK4, HO_26, HO_247, HB⟩ := hrel
                      cases gk with
                      | zero => exact absurd HA.out (by simp [laws_FnStepsToOne.l1])
                      | succ k4 =>
                        have H := HA.out
                        clear HA
                        simp only [laws_FnStepsToOne.l1] at H
                        by_cases c75 : x249_4 < (t398.length : Int)
                        · rw [if_pos c75] at H
                          have c75b0 : decide (x249_4 < (t398.length : Int)) = true := decide_eq_true c75
                          clear c75
                          by_cases c76 : 0 ≤ x249_4
                          · rw [if_pos c76] at H
                            have c76b0 : decide (0 ≤ x249_4) = true := decide_eq_true c76
                            clear c76
                            by_cases c77 : x249_4 < (t398.length : Int)
                            · rw [if_pos c77] at H
                              have c77b0 : decide (x249_4 < (t398.length : Int)) = true := decide_eq_true c77
                              clear c77
                              replace H := Option.bind_eq_some_iff.mp H
                              obtain ⟨⟨t409, t410⟩, A780, H⟩ := H
                              replace H : (if t410 = true then (if t409 = t397 then (laws_FnStepsToOne.l1 k4 l1 t397 t398 t399 t398 (t398.length : Int) (wrap64 (x249_4 + 1))) else (some false)) else (some false)) = some r := H
                              have A78 := Aside0.mk A780
                              clear A780
                              by_cases c79 : t410 = true
                              · subst c79
                                have H1 : (if t409 = t397 then (laws_FnStepsToOne.l1 k4 l1 t397 t398 t399 t398 (t398.length : Int) (wrap64 (x249_4 + 1))) else (some false)) = some r := by rw [if_pos rfl] at H; exact H
                                clear H
                                have H := H1
                                clear H1
                                by_cases c80 : t409 = t397
                                · rw [if_pos c80] at H
                                  have c80b0 : (t409 == t397) = true := beq_iff_eq.mpr c80
                                  have c80b1 : (t409 != t397) = false := bne_eq_false_iff_eq.mpr c80
                                  clear c80
                                  as_aux_lemma =>
                                    have H' := Aside0.mk H
                                    clear H
                                    have p408 : 0 ≤ (x249_4 : Int) := of_decide_eq_true (by first | (with_reducible assumption) | assumption)
                                    have q408 : x249_4 < (t398.length : Int) := of_decide_eq_true (by first | (with_reducible assumption) | assumption)
                                    obtain ⟨ad408, e408, hx408_0⟩ := Kd.at_int (Kd.R_reads' HO_247.out).2.2 x249_4 p408 q408
                                    cases e408
                                    replace p408 := eq_true p408
                                    replace q408 := eq_true q408
                                    go_wp2_with (first | ((with_reducible refine gate_callee (f := 9) rfl ?_); refine goesL_ (some 255) rfl rfl Try.func9 (by kernel_rfl) rfl #[.int .i64 (rd t398 x249_4)] rfl (by (try simp only [List.map_toArray, List.map_cons, List.map_nil]); first | done | rfl | (simp only [List.length_drop, List.length_take]; rfl)) ?_; (with_reducible refine (impl_StepsTo.calls k4 (rd t398 x249_4) t409 true _ A78.out).mono ?_); rintro e w81 ⟨rfl, hb⟩; refine ⟨_, rfl, ?_⟩; have n0_ := Aside0.mk (Kd.R_below (by (with_reducible repeat (first | apply Kd.R_alloc | apply Kd.R_drewN | apply Kd.R_drew)); exact HO_26.out) hb); have n1_ := Aside0.mk (Kd.R_below (by (with_reducible repeat (first | apply Kd.R_alloc | apply Kd.R_drewN | apply Kd.R_drew)); exact HO_247.out) hb); have n2_ := Aside0.mk (below_step (by repeat (first | (with_reducible first | exact HB.out | apply below_alloc | apply pw_below_drewN | apply below_drew1) | exact HB.out)) hb); clear HO_26; clear HO_247; clear HB; have HO_26 := n0_; have HO_247 := n1_; have HB := n2_; clear n0_ n1_ n2_; (try clear hb); (try clear hb2); (try clear hk); (try clear hi)))
                                    go_roundg k4
                                    case measure => have := HJ11.out; have := HJ30.out; have := HJ62.out; have := HK4.out; omega
                                    case rel => exact ⟨(wrap64 (x249_4 + 1)), (by first | rfl | (simp; done) | (simp [*]; done)), H', ⟨by have := HJ11.out; have := HJ30.out; have := HJ62.out; have := HK4.out; omega⟩, ⟨by (with_reducible repeat (first | apply Kd.R_alloc | apply Kd.R_drewN | apply Kd.R_drew)); exact HO_26.out⟩, ⟨by (with_reducible repeat (first | apply Kd.R_alloc | apply Kd.R_drewN | apply Kd.R_drew)); exact HO_247.out⟩, ⟨by repeat (first | (with_reducible first | exact HB.out | apply below_alloc | apply pw_below_drewN | apply below_drew1) | exact HB.out)⟩⟩
                                · rw [if_neg c80] at H
                                  have c80b0 : (t409 == t397) = false := beq_eq_false_iff_ne.mpr c80
                                  have c80b1 : (t409 != t397) = true := bne_iff_ne.mpr c80
                                  exact absurd (Option.some.inj H) (by rw [HR_.out]; decide)
                              · replace c79 := Bool.eq_false_iff.mpr c79
                                subst c79
                                have H1 : (some false) = some r := by rw [if_neg (show ¬ (false = true) by decide)] at H; exact H
                                clear H
                                have H := H1
                                clear H1
                                exact absurd (Option.some.inj H) (by rw [HR_.out]; decide)
                            · rw [if_neg c77] at H
                              exact absurd H (by simp)
                          · rw [if_neg c76] at H
                            exact absurd H (by simp)
                        · rw [if_neg c75] at H
                          have c75b0 : decide (x249_4 < (t398.length : Int)) = false := decide_eq_false c75
                          clear c75
                          have HC82 := Aside0.mk H
                          clear H
                          go_upto_region 39 with (fail)
                          go_cut [270] (fun v270 wc => ∃ (kq : Nat) (x270_81 : Bool), v270 = .bool x270_81 ∧ Aside0 (laws_FnStepsToOne.j6 kq l1 t397 t398 x270_81 = some r) ∧ Aside0 (kq ≤ k4) ∧ Aside0 (Kd.R (Kd.int .i64) 3 wc w.heap.size (fun _ => True) (.slice Ao74 t398.length co74) t398) ∧ Aside0 (Below w.heap.size w wc))
                          case first =>
                            as_aux_lemma =>
                            have H := HC82.out
                            clear HC82
                            by_cases c83 : t399 = true
                            · subst c83
                              have H1 : (laws_FnStepsToOne.j6 k4 l1 t397 t398 (decide (t397 ≤ 8))) = some r := by rw [if_pos rfl] at H; exact H
                              clear H
                              have H := H1
                              clear H1
                              as_aux_lemma =>
                                have H' := Aside0.mk H
                                clear H
                                go_wp2
                                go_meet
                                case rel => exact ⟨_, (decide (t397 ≤ 8)), (by first | rfl | (simp; done) | (simp [*]; done)), H', ⟨by have := HJ11.out; have := HJ30.out; have := HJ62.out; have := HK4.out; first | omega | exact Nat.le_refl _⟩, ⟨by (with_reducible repeat (first | apply Kd.R_alloc | apply Kd.R_drewN | apply Kd.R_drew)); exact HO_26.out⟩, ⟨by repeat (first | (with_reducible first | exact HB.out | apply below_alloc | apply pw_below_drewN | apply below_drew1) | exact HB.out)⟩⟩
                            · replace c83 := Bool.eq_false_iff.mpr c83
                              subst c83
                              have H1 : (laws_FnStepsToOne.j6 k4 l1 t397 t398 false) = some r := by rw [if_neg (show ¬ (false = true) by decide)] at H; exact H
                              clear H
                              have H := H1
                              clear H1
                              as_aux_lemma =>
                                have H' := Aside0.mk H
                                clear H
                                go_wp2
                                go_meet
                                case rel => exact ⟨_, (false), (by first | rfl | (simp; done) | (simp [*]; done)), H', ⟨by have := HJ11.out; have := HJ30.out; have := HJ62.out; have := HK4.out; first | omega | exact Nat.le_refl _⟩, ⟨by (with_reducible repeat (first | apply Kd.R_alloc | apply Kd.R_drewN | apply Kd.R_drew)); exact HO_26.out⟩, ⟨by repeat (first | (with_reducible first | exact HB.out | apply below_alloc | apply pw_below_drewN | apply below_drew1) | exact HB.out)⟩⟩
                          case rest =>
                            as_aux_lemma =>
                            clear HC82
                            try clear c1
                            try clear c2
                            try clear p2
                            try clear c3
                            try clear p3
                            try clear q3
                            try clear hx3
                            try clear qi3
                            try clear c4
                            try clear p4
                            try clear q4
                            try clear hx4
                            try clear c5
                            try clear c6
                            try clear p6
                            try clear c7
                            try clear c8
                            try clear c9
                            try clear c10
                            try clear c11
                            try clear c12
                            try clear c14
                            try clear c15
                            try clear c17
                            try clear c18
                            try clear c19
                            try clear c20
                            try clear c20b0
                            try clear c20b1
                            try clear c20b2
                            try clear c22
                            try clear c23
                            try clear c23b0
                            try clear c23b1
                            try clear c23b2
                            try clear c24
                            try clear c24b0
                            try clear c24b1
                            try clear c25
                            try clear c25b0
                            try clear c25b1
                            try clear c25b2
                            try clear c26
                            try clear c26b0
                            try clear c26b1
                            try clear c27
                            try clear c27b0
                            try clear c27b1
                            try clear c27b2
                            try clear c30
                            try clear c32
                            try clear c34
                            try clear c34b0
                            try clear c35
                            try clear c35b0
                            try clear c36
                            try clear c36b0
                            try clear c38
                            try clear c38b0
                            try clear p38
                            try clear q38
                            try clear hx38
                            try clear qi38
                            try clear c39
                            try clear c39b0
                            try clear p39
                            try clear q39
                            try clear hx39
                            try clear p40
                            try clear q40
                            try clear hx40
                            try clear c42
                            try clear c44
                            try clear c44b0
                            try clear c45
                            try clear c45b0
                            try clear c45b1
                            try clear c46
                            try clear c48
                            try clear c49
                            try clear c49b0
                            try clear c49b1
                            try clear c52
                            try clear c52b0
                            try clear c52b1
                            try clear c53
                            try clear c53b0
                            try clear c53b1
                            try clear c55
                            try clear c55b0
                            try clear c56
                            try clear c56b0
                            try clear c57
                            try clear c57b0
                            try clear c57b1
                            try clear c58
                            try clear c58b0
                            try clear c58b1
                            try clear c59
                            try clear c59b0
                            try clear c59b1
                            try clear p64
                            try clear c67
                            try clear c67b0
                            try clear c67b1
                            try clear c67b2
                            try clear c69
                            try clear c73
                            try clear c75
                            try clear c75b0
                            try clear c76
                            try clear c76b0
                            try clear c77
                            try clear c77b0
                            try clear c79
                            try clear c80
                            try clear c80b0
                            try clear c80b1
                            try clear c83
                            try clear hx386_0
                            try clear hx387_0
                            try clear hx388_0
                            try clear hx395_0
                            try clear hx408_0
                            try clear p2
                            try clear p3
                            try clear p38
                            try clear p386
                            try clear p387
                            try clear p388
                            try clear p39
                            try clear p395
                            try clear p408
                            try clear p6
                            try clear p64
                            try clear q3
                            try clear q38
                            try clear q386
                            try clear q387
                            try clear q388
                            try clear q39
                            try clear q395
                            try clear q408
                            obtain ⟨kq, x270_81, rfl, HA, HJ81, HO_26, HB⟩ := hcut
                            cases kq with
                            | zero => exact absurd HA.out (by simp [laws_FnStepsToOne.j6])
                            | succ kj81 =>
                              have H := HA.out
                              clear HA
                              simp only [laws_FnStepsToOne.j6] at H
                              have HC84 := Aside0.mk H
                              clear H
                              go_upto_if 270 with (fail)
                              go_cut [] (fun wc => ∃ (kq : Nat), Aside0 (laws_FnStepsToOne.j8 kq l1 = some r) ∧ Aside0 (kq ≤ kj81) ∧ Aside0 (Below w.heap.size w wc))
                              case first =>
                                as_aux_lemma =>
                                have H := HC84.out
                                clear HC84
                                by_cases c85 : x270_81 = true
                                · subst c85
                                  have H1 : (laws_FnStepsToOne.l2 kj81 l1 t397 t398 1) = some r := by rw [if_pos rfl] at H; exact H
                                  clear H
                                  have H := H1
                                  clear H1
                                  have H' := Aside0.mk H
                                  clear H
                                  go_wp2
                                  go_loopg [34] kj81 (fun kq v34 w' => ∃ (x34_6 : Int), v34 = .int .i64 x34_6 ∧ Aside0 (laws_FnStepsToOne.l2 kq l1 t397 t398 x34_6 = some r) ∧ Aside0 (kq ≤ kj81) ∧ Aside0 (Kd.R (Kd.int .i64) 3 w' w.heap.size (fun _ => True) (.slice Ao74 t398.length co74) t398) ∧ Aside0 (Below w.heap.size w w'))
                                  case atStart => exact ⟨(1), (by first | rfl | (simp; done) | (simp [*]; done)), H', ⟨Nat.le_refl _⟩, ⟨by (with_reducible repeat (first | apply Kd.R_alloc | apply Kd.R_drewN | apply Kd.R_drew)); exact HO_26.out⟩, ⟨by repeat (first | (with_reducible first | exact HB.out | apply below_alloc | apply pw_below_drewN | apply below_drew1) | exact HB.out)⟩⟩
                                  case round =>
                                    as_aux_lemma =>
                                    clear H'
                                    try clear c1
                                    try clear c2
                                    try clear p2
                                    try clear c3
                                    try clear p3
                                    try clear q3
                                    try clear hx3
                                    try clear qi3
                                    try clear c4
                                    try clear p4
                                    try clear q4
                                    try clear hx4
                                    try clear c5
                                    try clear c6
                                    try clear p6
                                    try clear c7
                                    try clear c8
                                    try clear c9
                                    try clear c10
                                    try clear c11
                                    try clear c12
                                    try clear c14
                                    try clear c15
                                    try clear c17
                                    try clear c18
                                    try clear c19
                                    try clear c20
                                    try clear c20b0
                                    try clear c20b1
                                    try clear c20b2
                                    try clear c22
                                    try clear c23
                                    try clear c23b0
                                    try clear c23b1
                                    try clear c23b2
                                    try clear c24
                                    try clear c24b0
                                    try clear c24b1
                                    try clear c25
                                    try clear c25b0
                                    try clear c25b1
                                    try clear c25b2
                                    try clear c26
                                    try clear c26b0
                                    try clear c26b1
                                    try clear c27
                                    try clear c27b0
                                    try clear c27b1
                                    try clear c27b2
                                    try clear c30
                                    try clear c32
                                    try clear c34
                                    try clear c34b0
                                    try clear c35
                                    try clear c35b0
                                    try clear c36
                                    try clear c36b0
                                    try clear c38
                                    try clear c38b0
                                    try clear p38
                                    try clear q38
                                    try clear hx38
                                    try clear qi38
                                    try clear c39
                                    try clear c39b0
                                    try clear p39
                                    try clear q39
                                    try clear hx39
                                    try clear p40
                                    try clear q40
                                    try clear hx40
                                    try clear c42
                                    try clear c44
                                    try clear c44b0
                                    try clear c45
                                    try clear c45b0
                                    try clear c45b1
                                    try clear c46
                                    try clear c48
                                    try clear c49
                                    try clear c49b0
                                    try clear c49b1
                                    try clear c52
                                    try clear c52b0
                                    try clear c52b1
                                    try clear c53
                                    try clear c53b0
                                    try clear c53b1
                                    try clear c55
                                    try clear c55b0
                                    try clear c56
                                    try clear c56b0
                                    try clear c57
                                    try clear c57b0
                                    try clear c57b1
                                    try clear c58
                                    try clear c58b0
                                    try clear c58b1
                                    try clear c59
                                    try clear c59b0
                                    try clear c59b1
                                    try clear p64
                                    try clear c67
                                    try clear c67b0
                                    try clear c67b1
                                    try clear c67b2
                                    try clear c69
                                    try clear c73
                                    try clear c75
                                    try clear c75b0
                                    try clear c76
                                    try clear c76b0
                                    try clear c77
                                    try clear c77b0
                                    try clear c79
                                    try clear c80
                                    try clear c80b0
                                    try clear c80b1
                                    try clear c83
                                    try clear c85
                                    try clear hx386_0
                                    try clear hx387_0
                                    try clear hx388_0
                                    try clear hx395_0
                                    try clear hx408_0
                                    try clear p2
                                    try clear p3
                                    try clear p38
                                    try clear p386
                                    try clear p387
                                    try clear p388
                                    try clear p39
                                    try clear p395
                                    try clear p4
                                    try clear p40
                                    try clear p408
                                    try clear p6
                                    try clear p64
                                    try clear q3
                                    try clear q38
                                    try clear q386
                                    try clear q387
                                    try clear q388
                                    try clear q39
                                    try clear q395
                                    try clear q4
                                    try clear q40
                                    try clear q408
                                    obtain ⟨x34_6, rfl, HA, HK6, HO_26, HB⟩ := hrel
                                    cases gk with
                                    | zero => exact absurd HA.out (by simp [laws_FnStepsToOne.l2])
                                    | succ k6 =>
                                      have H := HA.out
                                      clear HA
                                      simp only [laws_FnStepsToOne.l2] at H
                                      by_cases c86 : x34_6 ≤ 256
                                      · rw [if_pos c86] at H
                                        have c86b0 : decide (x34_6 ≤ 256) = true := decide_eq_true c86
                                        clear c86
                                        (first | rw [c86b0] | (simp only [i64_w, i32_w]; rw [c86b0]) | skip)
                                        replace H := Option.bind_eq_some_iff.mp H
                                        obtain ⟨⟨t411, t412⟩, A870, H⟩ := H
                                        replace H : (if t412 = true then ((laws_rHas.f k6 t398 x34_6).bind fun t413 => (if ((t411 == t397) != t413) = true then (some false) else (laws_FnStepsToOne.l2 k6 l1 t397 t398 (wrap64 (x34_6 + 1))))) else (some false)) = some r := H
                                        have A87 := Aside0.mk A870
                                        clear A870
                                        by_cases c88 : t412 = true
                                        · subst c88
                                          have H1 : ((laws_rHas.f k6 t398 x34_6).bind fun t413 => (if ((t411 == t397) != t413) = true then (some false) else (laws_FnStepsToOne.l2 k6 l1 t397 t398 (wrap64 (x34_6 + 1))))) = some r := by rw [if_pos rfl] at H; exact H
                                          clear H
                                          have H := H1
                                          clear H1
                                          replace H := Option.bind_eq_some_iff.mp H
                                          obtain ⟨t413, A890, H⟩ := H
                                          replace H : (if ((t411 == t397) != t413) = true then (some false) else (laws_FnStepsToOne.l2 k6 l1 t397 t398 (wrap64 (x34_6 + 1)))) = some r := H
                                          have A89 := Aside0.mk A890
                                          clear A890
                                          by_cases c90 : ((t411 == t397) != t413) = true
                                          · rw [if_pos c90] at H
                                            have c90b0 : ((t411 == t397) != t413) = true := c90
                                            (try (have c90b1 : decide ((t411 == t397) = t413) = false := by simpa using c90))
                                            (try (have c90b2 : ((t411 == t397) == t413) = false := by simpa using c90))
                                            (try (have c90b3 : ¬ ((t411 == t397) = t413) := by simpa using c90))
                                            clear c90
                                            exact absurd (Option.some.inj H) (by rw [HR_.out]; decide)
                                          · rw [if_neg c90] at H
                                            have c90b0 : ((t411 == t397) != t413) = false := by simpa using c90
                                            (try (have c90b1 : decide ((t411 == t397) = t413) = true := by simpa using c90))
                                            (try (have c90b2 : ((t411 == t397) == t413) = true := by simpa using c90))
                                            clear c90
                                            as_aux_lemma =>
                                              have H' := Aside0.mk H
                                              clear H
                                              go_wp2_with (first | ((with_reducible refine gate_callee (f := 9) rfl ?_); refine goesL_ (some 277) rfl rfl Try.func9 (by kernel_rfl) rfl #[.int .i64 x34_6] rfl (by (try simp only [List.map_toArray, List.map_cons, List.map_nil]); first | done | rfl | (simp only [List.length_drop, List.length_take]; rfl)) ?_; (with_reducible refine (impl_StepsTo.calls k6 x34_6 t411 true _ A87.out).mono ?_); rintro e w91 ⟨rfl, hb⟩; refine ⟨_, rfl, ?_⟩; have n0_ := Aside0.mk (Kd.R_below (by (with_reducible repeat (first | apply Kd.R_alloc | apply Kd.R_drewN | apply Kd.R_drew)); exact HO_26.out) hb); have n1_ := Aside0.mk (below_step (by repeat (first | (with_reducible first | exact HB.out | apply below_alloc | apply pw_below_drewN | apply below_drew1) | exact HB.out)) hb); clear HO_26; clear HB; have HO_26 := n0_; have HB := n1_; clear n0_ n1_; (try clear hb); (try clear hb2); (try clear hk); (try clear hi)) | (go_at_call 16; (with_reducible refine (laws_rHas.calls k6 _ _ t398 x34_6 t413 _ ?side1 ?side2 A89.out).mono ?_); (case side1 => repeat (first | exact (Kd.R_reads' HO_26.out).2.2 | (with_reducible refine Kd.C_alloc ?_ _) | (with_reducible refine Kd.C_drewN ?_ _) | (with_reducible refine Kd.C_drew ?_))); (case side2 => exact (Kd.R_reads' HO_26.out).2.1); rintro e w' ⟨rfl, ⟨nd, rfl⟩⟩))
                                              go_roundg k6
                                              case measure => have := HJ11.out; have := HJ30.out; have := HJ62.out; have := HK4.out; have := HJ81.out; have := HK6.out; omega
                                              case rel => exact ⟨(wrap64 (x34_6 + 1)), (by first | rfl | (simp; done) | (simp [*]; done)), H', ⟨by have := HJ11.out; have := HJ30.out; have := HJ62.out; have := HK4.out; have := HJ81.out; have := HK6.out; omega⟩, ⟨by (with_reducible repeat (first | apply Kd.R_alloc | apply Kd.R_drewN | apply Kd.R_drew)); exact HO_26.out⟩, ⟨by repeat (first | (with_reducible first | exact HB.out | apply below_alloc | apply pw_below_drewN | apply below_drew1) | exact HB.out)⟩⟩
                                        · replace c88 := Bool.eq_false_iff.mpr c88
                                          subst c88
                                          have H1 : (some false) = some r := by rw [if_neg (show ¬ (false = true) by decide)] at H; exact H
                                          clear H
                                          have H := H1
                                          clear H1
                                          exact absurd (Option.some.inj H) (by rw [HR_.out]; decide)
                                      · rw [if_neg c86] at H
                                        have c86b0 : decide (x34_6 ≤ 256) = false := decide_eq_false c86
                                        clear c86
                                        (first | rw [c86b0] | (simp only [i64_w, i32_w]; rw [c86b0]) | skip)
                                        as_aux_lemma =>
                                          have H' := Aside0.mk H
                                          clear H
                                          go_wp2
                                          go_meet
                                          case rel => exact ⟨_, H', ⟨by have := HJ11.out; have := HJ30.out; have := HJ62.out; have := HK4.out; have := HJ81.out; have := HK6.out; first | omega | exact Nat.le_refl _⟩, ⟨by repeat (first | (with_reducible first | exact HB.out | apply below_alloc | apply pw_below_drewN | apply below_drew1) | exact HB.out)⟩⟩
                                · replace c85 := Bool.eq_false_iff.mpr c85
                                  subst c85
                                  have H1 : (laws_FnStepsToOne.j8 kj81 l1) = some r := by rw [if_neg (show ¬ (false = true) by decide)] at H; exact H
                                  clear H
                                  have H := H1
                                  clear H1
                                  as_aux_lemma =>
                                    have H' := Aside0.mk H
                                    clear H
                                    go_wp2
                                    go_meet
                                    case rel => exact ⟨_, H', ⟨by have := HJ11.out; have := HJ30.out; have := HJ62.out; have := HK4.out; have := HJ81.out; first | omega | exact Nat.le_refl _⟩, ⟨by repeat (first | (with_reducible first | exact HB.out | apply below_alloc | apply pw_below_drewN | apply below_drew1) | exact HB.out)⟩⟩
                              case rest =>
                                as_aux_lemma =>
                                clear HC84
                                try clear c1
                                try clear c2
                                try clear p2
                                try clear c3
                                try clear p3
                                try clear q3
                                try clear hx3
                                try clear qi3
                                try clear c4
                                try clear p4
                                try clear q4
                                try clear hx4
                                try clear c5
                                try clear c6
                                try clear p6
                                try clear c7
                                try clear c8
                                try clear c9
                                try clear c10
                                try clear c11
                                try clear c12
                                try clear c14
                                try clear c15
                                try clear c17
                                try clear c18
                                try clear c19
                                try clear c20
                                try clear c20b0
                                try clear c20b1
                                try clear c20b2
                                try clear c22
                                try clear c23
                                try clear c23b0
                                try clear c23b1
                                try clear c23b2
                                try clear c24
                                try clear c24b0
                                try clear c24b1
                                try clear c25
                                try clear c25b0
                                try clear c25b1
                                try clear c25b2
                                try clear c26
                                try clear c26b0
                                try clear c26b1
                                try clear c27
                                try clear c27b0
                                try clear c27b1
                                try clear c27b2
                                try clear c30
                                try clear c32
                                try clear c34
                                try clear c34b0
                                try clear c35
                                try clear c35b0
                                try clear c36
                                try clear c36b0
                                try clear c38
                                try clear c38b0
                                try clear p38
                                try clear q38
                                try clear hx38
                                try clear qi38
                                try clear c39
                                try clear c39b0
                                try clear p39
                                try clear q39
                                try clear hx39
                                try clear p40
                                try clear q40
                                try clear hx40
                                try clear c42
                                try clear c44
                                try clear c44b0
                                try clear c45
                                try clear c45b0
                                try clear c45b1
                                try clear c46
                                try clear c48
                                try clear c49
                                try clear c49b0
                                try clear c49b1
                                try clear c52
                                try clear c52b0
                                try clear c52b1
                                try clear c53
                                try clear c53b0
                                try clear c53b1
                                try clear c55
                                try clear c55b0
                                try clear c56
                                try clear c56b0
                                try clear c57
                                try clear c57b0
                                try clear c57b1
                                try clear c58
                                try clear c58b0
                                try clear c58b1
                                try clear c59
                                try clear c59b0
                                try clear c59b1
                                try clear p64
                                try clear c67
                                try clear c67b0
                                try clear c67b1
                                try clear c67b2
                                try clear c69
                                try clear c73
                                try clear c75
                                try clear c75b0
                                try clear c76
                                try clear c76b0
                                try clear c77
                                try clear c77b0
                                try clear c79
                                try clear c80
                                try clear c80b0
                                try clear c80b1
                                try clear c83
                                try clear c85
                                try clear c86
                                try clear c86b0
                                try clear c88
                                try clear c90
                                try clear c90b0
                                try clear c90b1
                                try clear c90b2
                                try clear hx386_0
                                try clear hx387_0
                                try clear hx388_0
                                try clear hx395_0
                                try clear hx408_0
                                try clear p2
                                try clear p3
                                try clear p38
                                try clear p386
                                try clear p387
                                try clear p388
                                try clear p39
                                try clear p395
                                try clear p4
                                try clear p40
                                try clear p408
                                try clear p6
                                try clear p64
                                try clear q3
                                try clear q38
                                try clear q386
                                try clear q387
                                try clear q388
                                try clear q39
                                try clear q395
                                try clear q4
                                try clear q40
                                try clear q408
                                obtain ⟨kq, HA, HJ83, HB⟩ := hcut
                                cases kq with
                                | zero => exact absurd HA.out (by simp [laws_FnStepsToOne.j8])
                                | succ kj83 =>
                                  have H := HA.out
                                  clear HA
                                  simp only [laws_FnStepsToOne.j8] at H
                                  replace H := Option.bind_eq_some_iff.mp H
                                  obtain ⟨t414, A920, H⟩ := H
                                  replace H : ((impl_RecordsUpTo.f kj83 t414).bind fun bt415 => ((spec_RecordsUpTo.f kj83 t414).bind fun bt419 => (if (bt415.2 != bt419.2) = true then (laws_FnStepsToOne.j9 kj83 l1 t414 bt415.1 true) else ((laws_rSame.f kj83 bt415.1 bt419.1).bind fun t423 => (if t423 = true then ((laws_rRising.f kj83 bt415.1).bind fun t424 => (laws_FnStepsToOne.j9 kj83 l1 t414 bt415.1 (!t424))) else (laws_FnStepsToOne.j9 kj83 l1 t414 bt415.1 true)))))) = some r := H
                                  have A92 := Aside0.mk A920
                                  clear A920
                                  replace H := Option.bind_eq_some_iff.mp H
                                  obtain ⟨⟨t415, t416⟩, A930, H⟩ := H
                                  replace H : ((spec_RecordsUpTo.f kj83 t414).bind fun bt419 => (if (t416 != bt419.2) = true then (laws_FnStepsToOne.j9 kj83 l1 t414 t415 true) else ((laws_rSame.f kj83 t415 bt419.1).bind fun t423 => (if t423 = true then ((laws_rRising.f kj83 t415).bind fun t424 => (laws_FnStepsToOne.j9 kj83 l1 t414 t415 (!t424))) else (laws_FnStepsToOne.j9 kj83 l1 t414 t415 true))))) = some r := H
                                  have A93 := Aside0.mk A930
                                  clear A930
                                  replace H := Option.bind_eq_some_iff.mp H
                                  obtain ⟨⟨t419, t420⟩, A940, H⟩ := H
                                  replace H : (if (t416 != t420) = true then (laws_FnStepsToOne.j9 kj83 l1 t414 t415 true) else ((laws_rSame.f kj83 t415 t419).bind fun t423 => (if t423 = true then ((laws_rRising.f kj83 t415).bind fun t424 => (laws_FnStepsToOne.j9 kj83 l1 t414 t415 (!t424))) else (laws_FnStepsToOne.j9 kj83 l1 t414 t415 true)))) = some r := H
                                  have A94 := Aside0.mk A940
                                  clear A940
                                  have HC95 := Aside0.mk H
                                  clear H
                                  go_upto_region 49 with (first | ((with_reducible refine gate_callee (f := 21) rfl ?_); refine goesL_ (some 292) rfl rfl Try.func21 (by kernel_rfl) rfl #[.slice A1 l1.length c1] rfl (by (try simp only [List.map_toArray, List.map_cons, List.map_nil]); first | done | rfl | (simp only [List.length_drop, List.length_take]; rfl)) ?_; (with_reducible refine (spec_DrawRecordsUpTo.calls _ _ l1 t414 _ ?side1 ?side2 A92.out).mono ?_); (case side1 => repeat (first | exact (Kd.C_below HR1.out HB.out) | (with_reducible refine Kd.C_alloc ?_ _) | (with_reducible refine Kd.C_drewN ?_ _) | (with_reducible refine Kd.C_drew ?_))); (case side2 => exact HC1.out); rintro e w96 ⟨rfl, hb⟩; refine ⟨_, rfl, ?_⟩; have n0_ := Aside0.mk (below_step (by repeat (first | (with_reducible first | exact HB.out | apply below_alloc | apply pw_below_drewN | apply below_drew1) | exact HB.out)) hb); clear HB; have HB := n0_; clear n0_; (try clear hb); (try clear hb2); (try clear hk); (try clear hi)) | ((with_reducible refine gate_callee (f := 22) rfl ?_); refine goesL_ (some 295) rfl rfl Try.func22 (by kernel_rfl) rfl #[.int .i64 t414] rfl (by (try simp only [List.map_toArray, List.map_cons, List.map_nil]); first | done | rfl | (simp only [List.length_drop, List.length_take]; rfl)) ?_; (with_reducible refine (impl_RecordsUpTo.calls kj83 t414 t415 t416 _ A93.out).mono ?_); rintro e w97 ⟨v417, rfl, ho0, hb⟩; refine ⟨_, rfl, ?_⟩; have n0_ := Aside0.mk (Kd.R_lower ho0 (below_size (by repeat (first | (with_reducible first | exact HB.out | apply below_alloc | apply pw_below_drewN | apply below_drew1) | exact HB.out)))); have n1_ := Aside0.mk (below_step (by repeat (first | (with_reducible first | exact HB.out | apply below_alloc | apply pw_below_drewN | apply below_drew1) | exact HB.out)) hb); clear HB; have HO418 := n0_; have HB := n1_; clear n0_ n1_; (try clear hb); (try clear hb2); (try clear hk); (try clear hi); (try clear ho0)) | ((with_reducible refine gate_callee (f := 23) rfl ?_); refine goesL_ (some 300) rfl rfl Try.func23 (by kernel_rfl) rfl #[.int .i64 t414] rfl (by (try simp only [List.map_toArray, List.map_cons, List.map_nil]); first | done | rfl | (simp only [List.length_drop, List.length_take]; rfl)) ?_; (with_reducible refine (spec_RecordsUpTo.calls kj83 t414 t419 t420 _ A94.out).mono ?_); rintro e w98 ⟨v421, rfl, ho0, hb⟩; refine ⟨_, rfl, ?_⟩; have n0_ := Aside0.mk (Kd.R_elder' (by (with_reducible repeat (first | apply Kd.R_alloc | apply Kd.R_drewN | apply Kd.R_drew)); exact HO418.out) (Kd.R_base ho0) hb); have n1_ := Aside0.mk (Kd.R_lower (Kd.R_new' ho0 (Kd.R_lt (by (with_reducible repeat (first | apply Kd.R_alloc | apply Kd.R_drewN | apply Kd.R_drew)); exact HO418.out))) (below_size (by repeat (first | (with_reducible first | exact HB.out | apply below_alloc | apply pw_below_drewN | apply below_drew1) | exact HB.out)))); have n2_ := Aside0.mk (below_step (by repeat (first | (with_reducible first | exact HB.out | apply below_alloc | apply pw_below_drewN | apply below_drew1) | exact HB.out)) hb); clear HO418; clear HB; have HO418 := n0_; have HO422 := n1_; have HB := n2_; clear n0_ n1_ n2_; (try clear hb); (try clear hb2); (try clear hk); (try clear hi); (try clear ho0)))
                                  (try simp only [Act.put, List.setIfInBounds_toArray, List.set_cons_zero, List.set_cons_succ])
                                  go_cut [316] (fun v316 wc => ∃ (kq : Nat) (x316_94 : Bool), v316 = .bool x316_94 ∧ Aside0 (laws_FnStepsToOne.j9 kq l1 t414 t415 x316_94 = some r) ∧ Aside0 (kq ≤ kj83) ∧ Aside0 (Kd.R (Kd.int .i64) 3 wc w.heap.size (fun _ => True) v417 t415) ∧ Aside0 (Below w.heap.size w wc))
                                  case first =>
                                    as_aux_lemma =>
                                    have H := HC95.out
                                    clear HC95
                                    by_cases c99 : (t416 != t420) = true
                                    · rw [if_pos c99] at H
                                      have c99b0 : (t416 != t420) = true := c99
                                      (try (have c99b1 : decide (t416 = t420) = false := by simpa using c99))
                                      (try (have c99b2 : (t416 == t420) = false := by simpa using c99))
                                      (try (have c99b3 : ¬ (t416 = t420) := by simpa using c99))
                                      clear c99
                                      (first | rw [c99b0] | (simp only [i64_w, i32_w]; rw [c99b0]) | skip)
                                      exact (laws_FnStepsToOne.j9_no HR_.out _ _ _ _ H).elim
                                    · rw [if_neg c99] at H
                                      have c99b0 : (t416 != t420) = false := by simpa using c99
                                      (try (have c99b1 : decide (t416 = t420) = true := by simpa using c99))
                                      (try (have c99b2 : (t416 == t420) = true := by simpa using c99))
                                      clear c99
                                      (first | rw [c99b0] | (simp only [i64_w, i32_w]; rw [c99b0]) | skip)
                                      replace H := Option.bind_eq_some_iff.mp H
                                      obtain ⟨t423, A1000, H⟩ := H
                                      replace H : (if t423 = true then ((laws_rRising.f kj83 t415).bind fun t424 => (laws_FnStepsToOne.j9 kj83 l1 t414 t415 (!t424))) else (laws_FnStepsToOne.j9 kj83 l1 t414 t415 true)) = some r := H
                                      have A100 := Aside0.mk A1000
                                      clear A1000
                                      by_cases c101 : t423 = true
                                      · subst c101
                                        have H1 : ((laws_rRising.f kj83 t415).bind fun t424 => (laws_FnStepsToOne.j9 kj83 l1 t414 t415 (!t424))) = some r := by rw [if_pos rfl] at H; exact H
                                        clear H
                                        have H := H1
                                        clear H1
                                        replace H := Option.bind_eq_some_iff.mp H
                                        obtain ⟨t424, A1020, H⟩ := H
                                        replace H : (laws_FnStepsToOne.j9 kj83 l1 t414 t415 (!t424)) = some r := H
                                        have A102 := Aside0.mk A1020
                                        clear A1020
                                        as_aux_lemma =>
                                          have H' := Aside0.mk H
                                          clear H
                                          obtain ⟨Ao103, co103, eo103⟩ := Kd.R_slice HO418.out
                                          subst eo103
                                          obtain ⟨Ao104, co104, eo104⟩ := Kd.R_slice HO422.out
                                          subst eo104
                                          go_wp2_with (first | (go_at_call 13; (with_reducible refine (laws_rSame.calls kj83 _ _ t415 _ _ t419 true _ ?side1 ?side2 ?side3 ?side4 A100.out).mono ?_); (case side1 => repeat (first | exact (Kd.R_reads' HO418.out).2.2 | (with_reducible refine Kd.C_alloc ?_ _) | (with_reducible refine Kd.C_drewN ?_ _) | (with_reducible refine Kd.C_drew ?_))); (case side2 => exact (Kd.R_reads' HO418.out).2.1); (case side3 => repeat (first | exact (Kd.R_reads' HO422.out).2.2 | (with_reducible refine Kd.C_alloc ?_ _) | (with_reducible refine Kd.C_drewN ?_ _) | (with_reducible refine Kd.C_drew ?_))); (case side4 => exact (Kd.R_reads' HO422.out).2.1); rintro e w' ⟨rfl, ⟨nd, rfl⟩⟩) | (go_at_call 20; (with_reducible refine (laws_rRising.calls kj83 _ _ t415 t424 _ ?side1 ?side2 A102.out).mono ?_); (case side1 => repeat (first | exact (Kd.R_reads' HO418.out).2.2 | (with_reducible refine Kd.C_alloc ?_ _) | (with_reducible refine Kd.C_drewN ?_ _) | (with_reducible refine Kd.C_drew ?_))); (case side2 => exact (Kd.R_reads' HO418.out).2.1); rintro e w' ⟨rfl, ⟨nd, rfl⟩⟩))
                                          go_meet
                                          case rel => exact ⟨_, (!t424), (by first | rfl | (simp; done) | (simp [*]; done)), H', ⟨by have := HJ11.out; have := HJ30.out; have := HJ62.out; have := HK4.out; have := HJ81.out; have := HJ83.out; first | omega | exact Nat.le_refl _⟩, ⟨by (with_reducible repeat (first | apply Kd.R_alloc | apply Kd.R_drewN | apply Kd.R_drew)); exact Kd.R_mono HO418.out (fun _ hk => trivial)⟩, ⟨by repeat (first | (with_reducible first | exact HB.out | apply below_alloc | apply pw_below_drewN | apply below_drew1) | exact HB.out)⟩⟩
                                      · replace c101 := Bool.eq_false_iff.mpr c101
                                        subst c101
                                        have H1 : (laws_FnStepsToOne.j9 kj83 l1 t414 t415 true) = some r := by rw [if_neg (show ¬ (false = true) by decide)] at H; exact H
                                        clear H
                                        have H := H1
                                        clear H1
                                        exact (laws_FnStepsToOne.j9_no HR_.out _ _ _ _ H).elim
                                  case rest =>
                                    as_aux_lemma =>
                                    clear HC95
                                    try clear c1
                                    try clear c2
                                    try clear p2
                                    try clear c3
                                    try clear p3
                                    try clear q3
                                    try clear hx3
                                    try clear qi3
                                    try clear c4
                                    try clear p4
                                    try clear q4
                                    try clear hx4
                                    try clear c5
                                    try clear c6
                                    try clear p6
                                    try clear c7
                                    try clear c8
                                    try clear c9
                                    try clear c10
                                    try clear c11
                                    try clear c12
                                    try clear c14
                                    try clear c15
                                    try clear c17
                                    try clear c18
                                    try clear c19
                                    try clear c20
                                    try clear c20b0
                                    try clear c20b1
                                    try clear c20b2
                                    try clear c21
                                    try clear c22
                                    try clear c23
                                    try clear c23b0
                                    try clear c23b1
                                    try clear c23b2
                                    try clear c24
                                    try clear c24b0
                                    try clear c24b1
                                    try clear c25
                                    try clear c25b0
                                    try clear c25b1
                                    try clear c25b2
                                    try clear c26
                                    try clear c26b0
                                    try clear c26b1
                                    try clear c27
                                    try clear c27b0
                                    try clear c27b1
                                    try clear c27b2
                                    try clear c30
                                    try clear c32
                                    try clear c34
                                    try clear c34b0
                                    try clear c35
                                    try clear c35b0
                                    try clear c36
                                    try clear c36b0
                                    try clear c38
                                    try clear c38b0
                                    try clear p38
                                    try clear q38
                                    try clear hx38
                                    try clear qi38
                                    try clear c39
                                    try clear c39b0
                                    try clear p39
                                    try clear q39
                                    try clear hx39
                                    try clear p40
                                    try clear q40
                                    try clear hx40
                                    try clear c42
                                    try clear c44
                                    try clear c44b0
                                    try clear c45
                                    try clear c45b0
                                    try clear c45b1
                                    try clear c46
                                    try clear c48
                                    try clear c49
                                    try clear c49b0
                                    try clear c49b1
                                    try clear c52
                                    try clear c52b0
                                    try clear c52b1
                                    try clear c53
                                    try clear c53b0
                                    try clear c53b1
                                    try clear c55
                                    try clear c55b0
                                    try clear c56
                                    try clear c56b0
                                    try clear c57
                                    try clear c57b0
                                    try clear c57b1
                                    try clear c58
                                    try clear c58b0
                                    try clear c58b1
                                    try clear c59
                                    try clear c59b0
                                    try clear c59b1
                                    try clear p64
                                    try clear c67
                                    try clear c67b0
                                    try clear c67b1
                                    try clear c67b2
                                    try clear c69
                                    try clear c73
                                    try clear c75
                                    try clear c75b0
                                    try clear c76
                                    try clear c76b0
                                    try clear c77
                                    try clear c77b0
                                    try clear c79
                                    try clear c80
                                    try clear c80b0
                                    try clear c80b1
                                    try clear c83
                                    try clear c85
                                    try clear c86
                                    try clear c86b0
                                    try clear c88
                                    try clear c90
                                    try clear c90b0
                                    try clear c90b1
                                    try clear c90b2
                                    try clear c99
                                    try clear c99b0
                                    try clear c99b1
                                    try clear c99b2
                                    try clear c101
                                    try clear hx386_0
                                    try clear hx387_0
                                    try clear hx388_0
                                    try clear hx395_0
                                    try clear hx408_0
                                    try clear p2
                                    try clear p3
                                    try clear p38
                                    try clear p386
                                    try clear p387
                                    try clear p388
                                    try clear p39
                                    try clear p395
                                    try clear p4
                                    try clear p40
                                    try clear p408
                                    try clear p6
                                    try clear p64
                                    try clear q3
                                    try clear q38
                                    try clear q386
                                    try clear q387
                                    try clear q388
                                    try clear q39
                                    try clear q395
                                    try clear q4
                                    try clear q40
                                    try clear q408
                                    obtain ⟨kq, x316_94, rfl, HA, HJ94, HO_38, HB⟩ := hcut
                                    cases kq with
                                    | zero => exact absurd HA.out (by simp [laws_FnStepsToOne.j9])
                                    | succ kj94 =>
                                      have H := HA.out
                                      clear HA
                                      simp only [laws_FnStepsToOne.j9] at H
                                      by_cases c105 : x316_94 = true
                                      · subst c105
                                        have H1 : (some false) = some r := by rw [if_pos rfl] at H; exact H
                                        clear H
                                        have H := H1
                                        clear H1
                                        exact absurd (Option.some.inj H) (by rw [HR_.out]; decide)
                                      · replace c105 := Bool.eq_false_iff.mpr c105
                                        subst c105
                                        have H1 : (laws_FnStepsToOne.l3 kj94 l1 t414 (-1) t415 (t415.length : Int) 0) = some r := by rw [if_neg (show ¬ (false = true) by decide)] at H; exact H
                                        clear H
                                        have H := H1
                                        clear H1
                                        have H' := Aside0.mk H
                                        clear H
                                        obtain ⟨Ao106, co106, eo106⟩ := Kd.R_slice HO_38.out
                                        subst eo106
                                        go_wp2
                                        go_loopg [42, 319] kj94 (fun kq v42 v319 w' => ∃ (x42_8 : Int) (x319_8 : Int), v42 = .int .i64 x42_8 ∧ v319 = .int .i64 x319_8 ∧ Aside0 (laws_FnStepsToOne.l3 kq l1 t414 x42_8 t415 (t415.length : Int) x319_8 = some r) ∧ Aside0 (kq ≤ kj94) ∧ Aside0 (Kd.R (Kd.int .i64) 3 w' w.heap.size (fun _ => True) (.slice Ao106 t415.length co106) t415) ∧ Aside0 (Below w.heap.size w w'))
                                        case atStart => exact ⟨((-1)), (0), (by first | rfl | (simp; done) | (simp [*]; done)), (by first | rfl | (simp; done) | (simp [*]; done)), H', ⟨Nat.le_refl _⟩, ⟨by (with_reducible repeat (first | apply Kd.R_alloc | apply Kd.R_drewN | apply Kd.R_drew)); exact HO_38.out⟩, ⟨by repeat (first | (with_reducible first | exact HB.out | apply below_alloc | apply pw_below_drewN | apply below_drew1) | exact HB.out)⟩⟩
                                        case round =>
                                          as_aux_lemma =>
                                          clear H'
                                          try clear c1
                                          try clear c2
                                          try clear p2
                                          try clear c3
                                          try clear p3
                                          try clear q3
                                          try clear hx3
                                          try clear qi3
                                          try clear c4
                                          try clear p4
                                          try clear q4
                                          try clear hx4
                                          try clear c5
                                          try clear c6
                                          try clear p6
                                          try clear c7
                                          try clear c8
                                          try clear c9
                                          try clear c10
                                          try clear c11
                                          try clear c12
                                          try clear c14
                                          try clear c15
                                          try clear c17
                                          try clear c18
                                          try clear c19
                                          try clear c20
                                          try clear c20b0
                                          try clear c20b1
                                          try clear c20b2
                                          try clear c21
                                          try clear c22
                                          try clear c23
                                          try clear c23b0
                                          try clear c23b1
                                          try clear c23b2
                                          try clear c24
                                          try clear c24b0
                                          try clear c24b1
                                          try clear c25
                                          try clear c25b0
                                          try clear c25b1
                                          try clear c25b2
                                          try clear c26
                                          try clear c26b0
                                          try clear c26b1
                                          try clear c27
                                          try clear c27b0
                                          try clear c27b1
                                          try clear c27b2
                                          try clear c30
                                          try clear c32
                                          try clear c34
                                          try clear c34b0
                                          try clear c35
                                          try clear c35b0
                                          try clear c36
                                          try clear c36b0
                                          try clear c38
                                          try clear c38b0
                                          try clear p38
                                          try clear q38
                                          try clear hx38
                                          try clear qi38
                                          try clear c39
                                          try clear c39b0
                                          try clear p39
                                          try clear q39
                                          try clear hx39
                                          try clear p40
                                          try clear q40
                                          try clear hx40
                                          try clear c42
                                          try clear c44
                                          try clear c44b0
                                          try clear c45
                                          try clear c45b0
                                          try clear c45b1
                                          try clear c46
                                          try clear c48
                                          try clear c49
                                          try clear c49b0
                                          try clear c49b1
                                          try clear c52
                                          try clear c52b0
                                          try clear c52b1
                                          try clear c53
                                          try clear c53b0
                                          try clear c53b1
                                          try clear c55
                                          try clear c55b0
                                          try clear c56
                                          try clear c56b0
                                          try clear c57
                                          try clear c57b0
                                          try clear c57b1
                                          try clear c58
                                          try clear c58b0
                                          try clear c58b1
                                          try clear c59
                                          try clear c59b0
                                          try clear c59b1
                                          try clear p64
                                          try clear c67
                                          try clear c67b0
                                          try clear c67b1
                                          try clear c67b2
                                          try clear c69
                                          try clear c73
                                          try clear c75
                                          try clear c75b0
                                          try clear c76
                                          try clear c76b0
                                          try clear c77
                                          try clear c77b0
                                          try clear c79
                                          try clear c80
                                          try clear c80b0
                                          try clear c80b1
                                          try clear c83
                                          try clear c85
                                          try clear c86
                                          try clear c86b0
                                          try clear c88
                                          try clear c90
                                          try clear c90b0
                                          try clear c90b1
                                          try clear c90b2
                                          try clear c99
                                          try clear c99b0
                                          try clear c99b1
                                          try clear c99b2
                                          try clear c101
                                          try clear c105
                                          try clear hx386_0
                                          try clear hx387_0
                                          try clear hx388_0
                                          try clear hx395_0
                                          try clear hx408_0
                                          try clear p2
                                          try clear p3
                                          try clear p38
                                          try clear p386
                                          try clear p387
                                          try clear p388
                                          try clear p39
                                          try clear p395
                                          try clear p4
                                          try clear p40
                                          try clear p408
                                          try clear p6
                                          try clear p64
                                          try clear q3
                                          try clear q38
                                          try clear q386
                                          try clear q387
                                          try clear q388
                                          try clear q39
                                          try clear q395
                                          try clear q4
                                          try clear q40
                                          try clear q408
                                          obtain ⟨x42_8, x319_8, rfl, rfl, HA, HK8, HO_317, HB⟩ := hrel
                                          cases gk with
                                          | zero => exact absurd HA.out (by simp [laws_FnStepsToOne.l3])
                                          | succ k8 =>
                                            have H := HA.out
                                            clear HA
                                            simp only [laws_FnStepsToOne.l3] at H
                                            by_cases c107 : x319_8 < (t415.length : Int)
                                            · rw [if_pos c107] at H
                                              have c107b0 : decide (x319_8 < (t415.length : Int)) = true := decide_eq_true c107
                                              clear c107
                                              by_cases c108 : 0 ≤ x319_8
                                              · rw [if_pos c108] at H
                                                have c108b0 : decide (0 ≤ x319_8) = true := decide_eq_true c108
                                                clear c108
                                                by_cases c109 : x319_8 < (t415.length : Int)
                                                · rw [if_pos c109] at H
                                                  have c109b0 : decide (x319_8 < (t415.length : Int)) = true := decide_eq_true c109
                                                  clear c109
                                                  replace H := Option.bind_eq_some_iff.mp H
                                                  obtain ⟨⟨t426, t427⟩, A1100, H⟩ := H
                                                  replace H : (if t427 = true then (if t426 ≤ x42_8 then (some false) else (if (rd t415 x319_8) > t414 then (some false) else (laws_FnStepsToOne.l3 k8 l1 t414 t426 t415 (t415.length : Int) (wrap64 (x319_8 + 1))))) else (some false)) = some r := H
                                                  have A110 := Aside0.mk A1100
                                                  clear A1100
                                                  by_cases c111 : t427 = true
                                                  · subst c111
                                                    have H1 : (if t426 ≤ x42_8 then (some false) else (if (rd t415 x319_8) > t414 then (some false) else (laws_FnStepsToOne.l3 k8 l1 t414 t426 t415 (t415.length : Int) (wrap64 (x319_8 + 1))))) = some r := by rw [if_pos rfl] at H; exact H
                                                    clear H
                                                    have H := H1
                                                    clear H1
                                                    by_cases c112 : t426 ≤ x42_8
                                                    · rw [if_pos c112] at H
                                                      have c112b0 : decide (t426 ≤ x42_8) = true := decide_eq_true c112
                                                      clear c112
                                                      exact absurd (Option.some.inj H) (by rw [HR_.out]; decide)
                                                    · rw [if_neg c112] at H
                                                      have c112b0 : decide (t426 ≤ x42_8) = false := decide_eq_false c112
                                                      clear c112
                                                      by_cases c113 : (rd t415 x319_8) > t414
                                                      · rw [if_pos c113] at H
                                                        have c113b0 : decide (t414 < (rd t415 x319_8)) = true := decide_eq_true c113
                                                        clear c113
                                                        exact absurd (Option.some.inj H) (by rw [HR_.out]; decide)
                                                      · rw [if_neg c113] at H
                                                        have c113b0 : decide (t414 < (rd t415 x319_8)) = false := decide_eq_false c113
                                                        clear c113
                                                        as_aux_lemma =>
                                                          have H' := Aside0.mk H
                                                          clear H
                                                          have p425 : 0 ≤ (x319_8 : Int) := of_decide_eq_true (by first | (with_reducible assumption) | assumption)
                                                          have q425 : x319_8 < (t415.length : Int) := of_decide_eq_true (by first | (with_reducible assumption) | assumption)
                                                          obtain ⟨ad425, e425, hx425_0⟩ := Kd.at_int (Kd.R_reads' HO_317.out).2.2 x319_8 p425 q425
                                                          cases e425
                                                          replace p425 := eq_true p425
                                                          replace q425 := eq_true q425
                                                          go_wp2_with (first | ((with_reducible refine gate_callee (f := 9) rfl ?_); refine goesL_ (some 325) rfl rfl Try.func9 (by kernel_rfl) rfl #[.int .i64 (rd t415 x319_8)] rfl (by (try simp only [List.map_toArray, List.map_cons, List.map_nil]); first | done | rfl | (simp only [List.length_drop, List.length_take]; rfl)) ?_; (with_reducible refine (impl_StepsTo.calls k8 (rd t415 x319_8) t426 true _ A110.out).mono ?_); rintro e w114 ⟨rfl, hb⟩; refine ⟨_, rfl, ?_⟩; have n0_ := Aside0.mk (Kd.R_below (by (with_reducible repeat (first | apply Kd.R_alloc | apply Kd.R_drewN | apply Kd.R_drew)); exact HO_317.out) hb); have n1_ := Aside0.mk (below_step (by repeat (first | (with_reducible first | exact HB.out | apply below_alloc | apply pw_below_drewN | apply below_drew1) | exact HB.out)) hb); clear HO_317; clear HB; have HO_317 := n0_; have HB := n1_; clear n0_ n1_; (try clear hb); (try clear hb2); (try clear hk); (try clear hi)))
                                                          go_roundg k8
                                                          case measure => have := HJ11.out; have := HJ30.out; have := HJ62.out; have := HK4.out; have := HJ81.out; have := HJ83.out; have := HJ94.out; have := HK8.out; omega
                                                          case rel => exact ⟨(t426), (wrap64 (x319_8 + 1)), (by first | rfl | (simp; done) | (simp [*]; done)), (by first | rfl | (simp; done) | (simp [*]; done)), H', ⟨by have := HJ11.out; have := HJ30.out; have := HJ62.out; have := HK4.out; have := HJ81.out; have := HJ83.out; have := HJ94.out; have := HK8.out; omega⟩, ⟨by (with_reducible repeat (first | apply Kd.R_alloc | apply Kd.R_drewN | apply Kd.R_drew)); exact HO_317.out⟩, ⟨by repeat (first | (with_reducible first | exact HB.out | apply below_alloc | apply pw_below_drewN | apply below_drew1) | exact HB.out)⟩⟩
                                                  · replace c111 := Bool.eq_false_iff.mpr c111
                                                    subst c111
                                                    have H1 : (some false) = some r := by rw [if_neg (show ¬ (false = true) by decide)] at H; exact H
                                                    clear H
                                                    have H := H1
                                                    clear H1
                                                    exact absurd (Option.some.inj H) (by rw [HR_.out]; decide)
                                                · rw [if_neg c109] at H
                                                  exact absurd H (by simp)
                                              · rw [if_neg c108] at H
                                                exact absurd H (by simp)
                                            · rw [if_neg c107] at H
                                              have c107b0 : decide (x319_8 < (t415.length : Int)) = false := decide_eq_false c107
                                              clear c107
                                              replace H := Option.bind_eq_some_iff.mp H
                                              obtain ⟨t428, A1150, H⟩ := H
                                              replace H : ((impl_StepOf.f t428).bind fun bt429 => ((spec_StepOf.f t428).bind fun bt431 => ((impl_ShortStep.f t428).bind fun bt433 => ((spec_ShortStep.f t428).bind fun bt435 => ((impl_BeforeStep.f k8 t428).bind fun bt437 => ((spec_BeforeStep.f t428).bind fun bt441 => ((impl_FallsBelow.f k8 t428).bind fun bt445 => ((spec_FallsBelow.f k8 t428).bind fun bt447 => (if (bt429.2 != bt431.2) = true then (laws_FnStepsToOne.j11 k8 t428 bt445.1 bt445.2 true) else (if bt429.1 = bt431.1 then (if (bt433.2 != bt435.2) = true then (laws_FnStepsToOne.j11 k8 t428 bt445.1 bt445.2 true) else (if bt433.1 = bt435.1 then (if (bt437.2 != bt441.2) = true then (laws_FnStepsToOne.j11 k8 t428 bt445.1 bt445.2 true) else ((laws_rSame.f k8 bt437.1 bt441.1).bind fun t449 => (if t449 = true then (if (bt445.2 != bt447.2) = true then (laws_FnStepsToOne.j11 k8 t428 bt445.1 bt445.2 true) else (laws_FnStepsToOne.j11 k8 t428 bt445.1 bt445.2 (bt445.1 != bt447.1))) else (laws_FnStepsToOne.j11 k8 t428 bt445.1 bt445.2 true)))) else (laws_FnStepsToOne.j11 k8 t428 bt445.1 bt445.2 true))) else (laws_FnStepsToOne.j11 k8 t428 bt445.1 bt445.2 true))))))))))) = some r := H
                                              have A115 := Aside0.mk A1150
                                              clear A1150
                                              replace H := Option.bind_eq_some_iff.mp H
                                              obtain ⟨⟨t429, t430⟩, A1160, H⟩ := H
                                              replace H : ((spec_StepOf.f t428).bind fun bt431 => ((impl_ShortStep.f t428).bind fun bt433 => ((spec_ShortStep.f t428).bind fun bt435 => ((impl_BeforeStep.f k8 t428).bind fun bt437 => ((spec_BeforeStep.f t428).bind fun bt441 => ((impl_FallsBelow.f k8 t428).bind fun bt445 => ((spec_FallsBelow.f k8 t428).bind fun bt447 => (if (t430 != bt431.2) = true then (laws_FnStepsToOne.j11 k8 t428 bt445.1 bt445.2 true) else (if t429 = bt431.1 then (if (bt433.2 != bt435.2) = true then (laws_FnStepsToOne.j11 k8 t428 bt445.1 bt445.2 true) else (if bt433.1 = bt435.1 then (if (bt437.2 != bt441.2) = true then (laws_FnStepsToOne.j11 k8 t428 bt445.1 bt445.2 true) else ((laws_rSame.f k8 bt437.1 bt441.1).bind fun t449 => (if t449 = true then (if (bt445.2 != bt447.2) = true then (laws_FnStepsToOne.j11 k8 t428 bt445.1 bt445.2 true) else (laws_FnStepsToOne.j11 k8 t428 bt445.1 bt445.2 (bt445.1 != bt447.1))) else (laws_FnStepsToOne.j11 k8 t428 bt445.1 bt445.2 true)))) else (laws_FnStepsToOne.j11 k8 t428 bt445.1 bt445.2 true))) else (laws_FnStepsToOne.j11 k8 t428 bt445.1 bt445.2 true)))))))))) = some r := H
                                              have A116 := Aside0.mk A1160
                                              clear A1160
                                              replace H := Option.bind_eq_some_iff.mp H
                                              obtain ⟨⟨t431, t432⟩, A1170, H⟩ := H
                                              replace H : ((impl_ShortStep.f t428).bind fun bt433 => ((spec_ShortStep.f t428).bind fun bt435 => ((impl_BeforeStep.f k8 t428).bind fun bt437 => ((spec_BeforeStep.f t428).bind fun bt441 => ((impl_FallsBelow.f k8 t428).bind fun bt445 => ((spec_FallsBelow.f k8 t428).bind fun bt447 => (if (t430 != t432) = true then (laws_FnStepsToOne.j11 k8 t428 bt445.1 bt445.2 true) else (if t429 = t431 then (if (bt433.2 != bt435.2) = true then (laws_FnStepsToOne.j11 k8 t428 bt445.1 bt445.2 true) else (if bt433.1 = bt435.1 then (if (bt437.2 != bt441.2) = true then (laws_FnStepsToOne.j11 k8 t428 bt445.1 bt445.2 true) else ((laws_rSame.f k8 bt437.1 bt441.1).bind fun t449 => (if t449 = true then (if (bt445.2 != bt447.2) = true then (laws_FnStepsToOne.j11 k8 t428 bt445.1 bt445.2 true) else (laws_FnStepsToOne.j11 k8 t428 bt445.1 bt445.2 (bt445.1 != bt447.1))) else (laws_FnStepsToOne.j11 k8 t428 bt445.1 bt445.2 true)))) else (laws_FnStepsToOne.j11 k8 t428 bt445.1 bt445.2 true))) else (laws_FnStepsToOne.j11 k8 t428 bt445.1 bt445.2 true))))))))) = some r := H
                                              have A117 := Aside0.mk A1170
                                              clear A1170
                                              replace H := Option.bind_eq_some_iff.mp H
                                              obtain ⟨⟨t433, t434⟩, A1180, H⟩ := H
                                              replace H : ((spec_ShortStep.f t428).bind fun bt435 => ((impl_BeforeStep.f k8 t428).bind fun bt437 => ((spec_BeforeStep.f t428).bind fun bt441 => ((impl_FallsBelow.f k8 t428).bind fun bt445 => ((spec_FallsBelow.f k8 t428).bind fun bt447 => (if (t430 != t432) = true then (laws_FnStepsToOne.j11 k8 t428 bt445.1 bt445.2 true) else (if t429 = t431 then (if (t434 != bt435.2) = true then (laws_FnStepsToOne.j11 k8 t428 bt445.1 bt445.2 true) else (if t433 = bt435.1 then (if (bt437.2 != bt441.2) = true then (laws_FnStepsToOne.j11 k8 t428 bt445.1 bt445.2 true) else ((laws_rSame.f k8 bt437.1 bt441.1).bind fun t449 => (if t449 = true then (if (bt445.2 != bt447.2) = true then (laws_FnStepsToOne.j11 k8 t428 bt445.1 bt445.2 true) else (laws_FnStepsToOne.j11 k8 t428 bt445.1 bt445.2 (bt445.1 != bt447.1))) else (laws_FnStepsToOne.j11 k8 t428 bt445.1 bt445.2 true)))) else (laws_FnStepsToOne.j11 k8 t428 bt445.1 bt445.2 true))) else (laws_FnStepsToOne.j11 k8 t428 bt445.1 bt445.2 true)))))))) = some r := H
                                              have A118 := Aside0.mk A1180
                                              clear A1180
                                              replace H := Option.bind_eq_some_iff.mp H
                                              obtain ⟨⟨t435, t436⟩, A1190, H⟩ := H
                                              replace H : ((impl_BeforeStep.f k8 t428).bind fun bt437 => ((spec_BeforeStep.f t428).bind fun bt441 => ((impl_FallsBelow.f k8 t428).bind fun bt445 => ((spec_FallsBelow.f k8 t428).bind fun bt447 => (if (t430 != t432) = true then (laws_FnStepsToOne.j11 k8 t428 bt445.1 bt445.2 true) else (if t429 = t431 then (if (t434 != t436) = true then (laws_FnStepsToOne.j11 k8 t428 bt445.1 bt445.2 true) else (if t433 = t435 then (if (bt437.2 != bt441.2) = true then (laws_FnStepsToOne.j11 k8 t428 bt445.1 bt445.2 true) else ((laws_rSame.f k8 bt437.1 bt441.1).bind fun t449 => (if t449 = true then (if (bt445.2 != bt447.2) = true then (laws_FnStepsToOne.j11 k8 t428 bt445.1 bt445.2 true) else (laws_FnStepsToOne.j11 k8 t428 bt445.1 bt445.2 (bt445.1 != bt447.1))) else (laws_FnStepsToOne.j11 k8 t428 bt445.1 bt445.2 true)))) else (laws_FnStepsToOne.j11 k8 t428 bt445.1 bt445.2 true))) else (laws_FnStepsToOne.j11 k8 t428 bt445.1 bt445.2 true))))))) = some r := H
                                              have A119 := Aside0.mk A1190
                                              clear A1190
                                              replace H := Option.bind_eq_some_iff.mp H
                                              obtain ⟨⟨t437, t438⟩, A1200, H⟩ := H
                                              replace H : ((spec_BeforeStep.f t428).bind fun bt441 => ((impl_FallsBelow.f k8 t428).bind fun bt445 => ((spec_FallsBelow.f k8 t428).bind fun bt447 => (if (t430 != t432) = true then (laws_FnStepsToOne.j11 k8 t428 bt445.1 bt445.2 true) else (if t429 = t431 then (if (t434 != t436) = true then (laws_FnStepsToOne.j11 k8 t428 bt445.1 bt445.2 true) else (if t433 = t435 then (if (t438 != bt441.2) = true then (laws_FnStepsToOne.j11 k8 t428 bt445.1 bt445.2 true) else ((laws_rSame.f k8 t437 bt441.1).bind fun t449 => (if t449 = true then (if (bt445.2 != bt447.2) = true then (laws_FnStepsToOne.j11 k8 t428 bt445.1 bt445.2 true) else (laws_FnStepsToOne.j11 k8 t428 bt445.1 bt445.2 (bt445.1 != bt447.1))) else (laws_FnStepsToOne.j11 k8 t428 bt445.1 bt445.2 true)))) else (laws_FnStepsToOne.j11 k8 t428 bt445.1 bt445.2 true))) else (laws_FnStepsToOne.j11 k8 t428 bt445.1 bt445.2 true)))))) = some r := H
                                              have A120 := Aside0.mk A1200
                                              clear A1200
                                              replace H := Option.bind_eq_some_iff.mp H
                                              obtain ⟨⟨t441, t442⟩, A1210, H⟩ := H
                                              replace H : ((impl_FallsBelow.f k8 t428).bind fun bt445 => ((spec_FallsBelow.f k8 t428).bind fun bt447 => (if (t430 != t432) = true then (laws_FnStepsToOne.j11 k8 t428 bt445.1 bt445.2 true) else (if t429 = t431 then (if (t434 != t436) = true then (laws_FnStepsToOne.j11 k8 t428 bt445.1 bt445.2 true) else (if t433 = t435 then (if (t438 != t442) = true then (laws_FnStepsToOne.j11 k8 t428 bt445.1 bt445.2 true) else ((laws_rSame.f k8 t437 t441).bind fun t449 => (if t449 = true then (if (bt445.2 != bt447.2) = true then (laws_FnStepsToOne.j11 k8 t428 bt445.1 bt445.2 true) else (laws_FnStepsToOne.j11 k8 t428 bt445.1 bt445.2 (bt445.1 != bt447.1))) else (laws_FnStepsToOne.j11 k8 t428 bt445.1 bt445.2 true)))) else (laws_FnStepsToOne.j11 k8 t428 bt445.1 bt445.2 true))) else (laws_FnStepsToOne.j11 k8 t428 bt445.1 bt445.2 true))))) = some r := H
                                              have A121 := Aside0.mk A1210
                                              clear A1210
                                              replace H := Option.bind_eq_some_iff.mp H
                                              obtain ⟨⟨t445, t446⟩, A1220, H⟩ := H
                                              replace H : ((spec_FallsBelow.f k8 t428).bind fun bt447 => (if (t430 != t432) = true then (laws_FnStepsToOne.j11 k8 t428 t445 t446 true) else (if t429 = t431 then (if (t434 != t436) = true then (laws_FnStepsToOne.j11 k8 t428 t445 t446 true) else (if t433 = t435 then (if (t438 != t442) = true then (laws_FnStepsToOne.j11 k8 t428 t445 t446 true) else ((laws_rSame.f k8 t437 t441).bind fun t449 => (if t449 = true then (if (t446 != bt447.2) = true then (laws_FnStepsToOne.j11 k8 t428 t445 t446 true) else (laws_FnStepsToOne.j11 k8 t428 t445 t446 (t445 != bt447.1))) else (laws_FnStepsToOne.j11 k8 t428 t445 t446 true)))) else (laws_FnStepsToOne.j11 k8 t428 t445 t446 true))) else (laws_FnStepsToOne.j11 k8 t428 t445 t446 true)))) = some r := H
                                              have A122 := Aside0.mk A1220
                                              clear A1220
                                              replace H := Option.bind_eq_some_iff.mp H
                                              obtain ⟨⟨t447, t448⟩, A1230, H⟩ := H
                                              replace H : (if (t430 != t432) = true then (laws_FnStepsToOne.j11 k8 t428 t445 t446 true) else (if t429 = t431 then (if (t434 != t436) = true then (laws_FnStepsToOne.j11 k8 t428 t445 t446 true) else (if t433 = t435 then (if (t438 != t442) = true then (laws_FnStepsToOne.j11 k8 t428 t445 t446 true) else ((laws_rSame.f k8 t437 t441).bind fun t449 => (if t449 = true then (if (t446 != t448) = true then (laws_FnStepsToOne.j11 k8 t428 t445 t446 true) else (laws_FnStepsToOne.j11 k8 t428 t445 t446 (t445 != t447))) else (laws_FnStepsToOne.j11 k8 t428 t445 t446 true)))) else (laws_FnStepsToOne.j11 k8 t428 t445 t446 true))) else (laws_FnStepsToOne.j11 k8 t428 t445 t446 true))) = some r := H
                                              have A123 := Aside0.mk A1230
                                              clear A1230
                                              have HC124 := Aside0.mk H
                                              clear H
                                              go_upto_region 69 with (first | ((with_reducible refine gate_callee (f := 24) rfl ?_); refine goesL_ (some 343) rfl rfl Try.func24 (by kernel_rfl) rfl #[.slice A1 l1.length c1] rfl (by (try simp only [List.map_toArray, List.map_cons, List.map_nil]); first | done | rfl | (simp only [List.length_drop, List.length_take]; rfl)) ?_; (with_reducible refine (spec_DrawStepOf.calls k8 _ _ l1 t428 _ ?side1 ?side2 A115.out).mono ?_); (case side1 => repeat (first | exact (Kd.C_below HR1.out HB.out) | (with_reducible refine Kd.C_alloc ?_ _) | (with_reducible refine Kd.C_drewN ?_ _) | (with_reducible refine Kd.C_drew ?_))); (case side2 => exact HC1.out); rintro e w125 ⟨rfl, hb⟩; refine ⟨_, rfl, ?_⟩; have n0_ := Aside0.mk (Kd.R_below (by (with_reducible repeat (first | apply Kd.R_alloc | apply Kd.R_drewN | apply Kd.R_drew)); exact HO_317.out) hb); have n1_ := Aside0.mk (below_step (by repeat (first | (with_reducible first | exact HB.out | apply below_alloc | apply pw_below_drewN | apply below_drew1) | exact HB.out)) hb); clear HO_317; clear HB; have HO_317 := n0_; have HB := n1_; clear n0_ n1_; (try clear hb); (try clear hb2); (try clear hk); (try clear hi)) | ((with_reducible refine gate_callee (f := 14) rfl ?_); refine goesL_ (some 346) rfl rfl Try.func14 (by kernel_rfl) rfl #[.int .i64 t428] rfl (by (try simp only [List.map_toArray, List.map_cons, List.map_nil]); first | done | rfl | (simp only [List.length_drop, List.length_take]; rfl)) ?_; (with_reducible refine (impl_StepOf.calls t428 t429 t430 _ A116.out).mono ?_); rintro e w' ⟨rfl, ⟨nd, rfl⟩⟩; refine ⟨_, rfl, ?_⟩) | ((with_reducible refine gate_callee (f := 25) rfl ?_); refine goesL_ (some 351) rfl rfl Try.func25 (by kernel_rfl) rfl #[.int .i64 t428] rfl (by (try simp only [List.map_toArray, List.map_cons, List.map_nil]); first | done | rfl | (simp only [List.length_drop, List.length_take]; rfl)) ?_; (with_reducible refine (spec_StepOf.calls t428 t431 t432 _ A117.out).mono ?_); rintro e w' ⟨rfl, ⟨nd, rfl⟩⟩; refine ⟨_, rfl, ?_⟩) | ((with_reducible refine gate_callee (f := 26) rfl ?_); refine goesL_ (some 356) rfl rfl Try.func26 (by kernel_rfl) rfl #[.int .i64 t428] rfl (by (try simp only [List.map_toArray, List.map_cons, List.map_nil]); first | done | rfl | (simp only [List.length_drop, List.length_take]; rfl)) ?_; (with_reducible refine (impl_ShortStep.calls t428 t433 t434 _ A118.out).mono ?_); rintro e w' ⟨rfl, ⟨nd, rfl⟩⟩; refine ⟨_, rfl, ?_⟩) | ((with_reducible refine gate_callee (f := 27) rfl ?_); refine goesL_ (some 361) rfl rfl Try.func27 (by kernel_rfl) rfl #[.int .i64 t428] rfl (by (try simp only [List.map_toArray, List.map_cons, List.map_nil]); first | done | rfl | (simp only [List.length_drop, List.length_take]; rfl)) ?_; (with_reducible refine (spec_ShortStep.calls t428 t435 t436 _ A119.out).mono ?_); rintro e w' ⟨rfl, ⟨nd, rfl⟩⟩; refine ⟨_, rfl, ?_⟩) | ((with_reducible refine gate_callee (f := 15) rfl ?_); refine goesL_ (some 366) rfl rfl Try.func15 (by kernel_rfl) rfl #[.int .i64 t428] rfl (by (try simp only [List.map_toArray, List.map_cons, List.map_nil]); first | done | rfl | (simp only [List.length_drop, List.length_take]; rfl)) ?_; (with_reducible refine (impl_BeforeStep.calls k8 t428 t437 t438 _ A120.out).mono ?_); rintro e w126 ⟨v439, rfl, ho0, hb⟩; refine ⟨_, rfl, ?_⟩; have n0_ := Aside0.mk (Kd.R_elder' (by (with_reducible repeat (first | apply Kd.R_alloc | apply Kd.R_drewN | apply Kd.R_drew)); exact HO_317.out) (Kd.R_base ho0) hb); have n1_ := Aside0.mk (Kd.R_lower (Kd.R_new' ho0 (Kd.R_lt (by (with_reducible repeat (first | apply Kd.R_alloc | apply Kd.R_drewN | apply Kd.R_drew)); exact HO_317.out))) (below_size (by repeat (first | (with_reducible first | exact HB.out | apply below_alloc | apply pw_below_drewN | apply below_drew1) | exact HB.out)))); have n2_ := Aside0.mk (below_step (by repeat (first | (with_reducible first | exact HB.out | apply below_alloc | apply pw_below_drewN | apply below_drew1) | exact HB.out)) hb); clear HO_317; clear HB; have HO_317 := n0_; have HO440 := n1_; have HB := n2_; clear n0_ n1_ n2_; (try clear hb); (try clear hb2); (try clear hk); (try clear hi); (try clear ho0)) | ((with_reducible refine gate_callee (f := 28) rfl ?_); refine goesL_ (some 371) rfl rfl Try.func28 (by kernel_rfl) rfl #[.int .i64 t428] rfl (by (try simp only [List.map_toArray, List.map_cons, List.map_nil]); first | done | rfl | (simp only [List.length_drop, List.length_take]; rfl)) ?_; (with_reducible refine (spec_BeforeStep.calls t428 t441 t442 _ A121.out).mono ?_); rintro e w127 ⟨v443, rfl, ho0, hb⟩; refine ⟨_, rfl, ?_⟩; have n0_ := Aside0.mk (Kd.R_elder' (by (with_reducible repeat (first | apply Kd.R_alloc | apply Kd.R_drewN | apply Kd.R_drew)); exact HO_317.out) (Kd.R_base ho0) hb); have n1_ := Aside0.mk (Kd.R_elder' (by (with_reducible repeat (first | apply Kd.R_alloc | apply Kd.R_drewN | apply Kd.R_drew)); exact HO440.out) (Kd.R_base ho0) hb); have n2_ := Aside0.mk (Kd.R_lower (Kd.R_new' (Kd.R_new' ho0 (Kd.R_lt (by (with_reducible repeat (first | apply Kd.R_alloc | apply Kd.R_drewN | apply Kd.R_drew)); exact HO_317.out))) (Kd.R_lt (by (with_reducible repeat (first | apply Kd.R_alloc | apply Kd.R_drewN | apply Kd.R_drew)); exact HO440.out))) (below_size (by repeat (first | (with_reducible first | exact HB.out | apply below_alloc | apply pw_below_drewN | apply below_drew1) | exact HB.out)))); have n3_ := Aside0.mk (below_step (by repeat (first | (with_reducible first | exact HB.out | apply below_alloc | apply pw_below_drewN | apply below_drew1) | exact HB.out)) hb); clear HO_317; clear HO440; clear HB; have HO_317 := n0_; have HO440 := n1_; have HO444 := n2_; have HB := n3_; clear n0_ n1_ n2_ n3_; (try clear hb); (try clear hb2); (try clear hk); (try clear hi); (try clear ho0)) | ((with_reducible refine gate_callee (f := 29) rfl ?_); refine goesL_ (some 376) rfl rfl Try.func29 (by kernel_rfl) rfl #[.int .i64 t428] rfl (by (try simp only [List.map_toArray, List.map_cons, List.map_nil]); first | done | rfl | (simp only [List.length_drop, List.length_take]; rfl)) ?_; (with_reducible refine (impl_FallsBelow.calls k8 t428 t445 t446 _ A122.out).mono ?_); rintro e w128 ⟨rfl, hb⟩; refine ⟨_, rfl, ?_⟩; have n0_ := Aside0.mk (Kd.R_below (by (with_reducible repeat (first | apply Kd.R_alloc | apply Kd.R_drewN | apply Kd.R_drew)); exact HO_317.out) hb); have n1_ := Aside0.mk (Kd.R_below (by (with_reducible repeat (first | apply Kd.R_alloc | apply Kd.R_drewN | apply Kd.R_drew)); exact HO440.out) hb); have n2_ := Aside0.mk (Kd.R_below (by (with_reducible repeat (first | apply Kd.R_alloc | apply Kd.R_drewN | apply Kd.R_drew)); exact HO444.out) hb); have n3_ := Aside0.mk (below_step (by repeat (first | (with_reducible first | exact HB.out | apply below_alloc | apply pw_below_drewN | apply below_drew1) | exact HB.out)) hb); clear HO_317; clear HO440; clear HO444; clear HB; have HO_317 := n0_; have HO440 := n1_; have HO444 := n2_; have HB := n3_; clear n0_ n1_ n2_ n3_; (try clear hb); (try clear hb2); (try clear hk); (try clear hi)) | ((with_reducible refine gate_callee (f := 30) rfl ?_); refine goesL_ (some 381) rfl rfl Try.func30 (by kernel_rfl) rfl #[.int .i64 t428] rfl (by (try simp only [List.map_toArray, List.map_cons, List.map_nil]); first | done | rfl | (simp only [List.length_drop, List.length_take]; rfl)) ?_; (with_reducible refine (spec_FallsBelow.calls k8 t428 t447 t448 _ A123.out).mono ?_); rintro e w' ⟨rfl, ⟨nd, rfl⟩⟩; refine ⟨_, rfl, ?_⟩))
                                              (try simp only [Act.put, List.setIfInBounds_toArray, List.set_cons_zero, List.set_cons_succ])
                                              go_cut [422] (fun v422 wc => ∃ (kq : Nat) (x422_123 : Bool), v422 = .bool x422_123 ∧ Aside0 (laws_FnStepsToOne.j11 kq t428 t445 t446 x422_123 = some r) ∧ Aside0 (kq ≤ k8) ∧ Aside0 (Below w.heap.size w wc))
                                              case first =>
                                                as_aux_lemma =>
                                                have H := HC124.out
                                                clear HC124
                                                by_cases c129 : (t430 != t432) = true
                                                · rw [if_pos c129] at H
                                                  have c129b0 : (t430 != t432) = true := c129
                                                  (try (have c129b1 : decide (t430 = t432) = false := by simpa using c129))
                                                  (try (have c129b2 : (t430 == t432) = false := by simpa using c129))
                                                  (try (have c129b3 : ¬ (t430 = t432) := by simpa using c129))
                                                  clear c129
                                                  (first | rw [c129b0] | (simp only [i64_w, i32_w]; rw [c129b0]) | skip)
                                                  exact (laws_FnStepsToOne.j11_no HR_.out _ _ _ _ H).elim
                                                · rw [if_neg c129] at H
                                                  have c129b0 : (t430 != t432) = false := by simpa using c129
                                                  (try (have c129b1 : decide (t430 = t432) = true := by simpa using c129))
                                                  (try (have c129b2 : (t430 == t432) = true := by simpa using c129))
                                                  clear c129
                                                  (first | rw [c129b0] | (simp only [i64_w, i32_w]; rw [c129b0]) | skip)
                                                  by_cases c130 : t429 = t431
                                                  · rw [if_pos c130] at H
                                                    have c130b0 : (t429 == t431) = true := beq_iff_eq.mpr c130
                                                    have c130b1 : (t429 != t431) = false := bne_eq_false_iff_eq.mpr c130
                                                    clear c130
                                                    by_cases c131 : (t434 != t436) = true
                                                    · rw [if_pos c131] at H
                                                      have c131b0 : (t434 != t436) = true := c131
                                                      (try (have c131b1 : decide (t434 = t436) = false := by simpa using c131))
                                                      (try (have c131b2 : (t434 == t436) = false := by simpa using c131))
                                                      (try (have c131b3 : ¬ (t434 = t436) := by simpa using c131))
                                                      clear c131
                                                      exact (laws_FnStepsToOne.j11_no HR_.out _ _ _ _ H).elim
                                                    · rw [if_neg c131] at H
                                                      have c131b0 : (t434 != t436) = false := by simpa using c131
                                                      (try (have c131b1 : decide (t434 = t436) = true := by simpa using c131))
                                                      (try (have c131b2 : (t434 == t436) = true := by simpa using c131))
                                                      clear c131
                                                      by_cases c132 : t433 = t435
                                                      · rw [if_pos c132] at H
                                                        have c132b0 : (t433 == t435) = true := beq_iff_eq.mpr c132
                                                        have c132b1 : (t433 != t435) = false := bne_eq_false_iff_eq.mpr c132
                                                        clear c132
                                                        by_cases c133 : (t438 != t442) = true
                                                        · rw [if_pos c133] at H
                                                          have c133b0 : (t438 != t442) = true := c133
                                                          (try (have c133b1 : decide (t438 = t442) = false := by simpa using c133))
                                                          (try (have c133b2 : (t438 == t442) = false := by simpa using c133))
                                                          (try (have c133b3 : ¬ (t438 = t442) := by simpa using c133))
                                                          clear c133
                                                          exact (laws_FnStepsToOne.j11_no HR_.out _ _ _ _ H).elim
                                                        · rw [if_neg c133] at H
                                                          have c133b0 : (t438 != t442) = false := by simpa using c133
                                                          (try (have c133b1 : decide (t438 = t442) = true := by simpa using c133))
                                                          (try (have c133b2 : (t438 == t442) = true := by simpa using c133))
                                                          clear c133
                                                          replace H := Option.bind_eq_some_iff.mp H
                                                          obtain ⟨t449, A1340, H⟩ := H
                                                          replace H : (if t449 = true then (if (t446 != t448) = true then (laws_FnStepsToOne.j11 k8 t428 t445 t446 true) else (laws_FnStepsToOne.j11 k8 t428 t445 t446 (t445 != t447))) else (laws_FnStepsToOne.j11 k8 t428 t445 t446 true)) = some r := H
                                                          have A134 := Aside0.mk A1340
                                                          clear A1340
                                                          by_cases c135 : t449 = true
                                                          · subst c135
                                                            have H1 : (if (t446 != t448) = true then (laws_FnStepsToOne.j11 k8 t428 t445 t446 true) else (laws_FnStepsToOne.j11 k8 t428 t445 t446 (t445 != t447))) = some r := by rw [if_pos rfl] at H; exact H
                                                            clear H
                                                            have H := H1
                                                            clear H1
                                                            by_cases c136 : (t446 != t448) = true
                                                            · rw [if_pos c136] at H
                                                              have c136b0 : (t446 != t448) = true := c136
                                                              (try (have c136b1 : decide (t446 = t448) = false := by simpa using c136))
                                                              (try (have c136b2 : (t446 == t448) = false := by simpa using c136))
                                                              (try (have c136b3 : ¬ (t446 = t448) := by simpa using c136))
                                                              clear c136
                                                              exact (laws_FnStepsToOne.j11_no HR_.out _ _ _ _ H).elim
                                                            · rw [if_neg c136] at H
                                                              have c136b0 : (t446 != t448) = false := by simpa using c136
                                                              (try (have c136b1 : decide (t446 = t448) = true := by simpa using c136))
                                                              (try (have c136b2 : (t446 == t448) = true := by simpa using c136))
                                                              clear c136
                                                              as_aux_lemma =>
                                                                have H' := Aside0.mk H
                                                                clear H
                                                                obtain ⟨Ao137, co137, eo137⟩ := Kd.R_slice HO440.out
                                                                subst eo137
                                                                obtain ⟨Ao138, co138, eo138⟩ := Kd.R_slice HO444.out
                                                                subst eo138
                                                                go_wp2_with (first | (go_at_call 13; (with_reducible refine (laws_rSame.calls k8 _ _ t437 _ _ t441 true _ ?side1 ?side2 ?side3 ?side4 A134.out).mono ?_); (case side1 => repeat (first | exact (Kd.R_reads' HO440.out).2.2 | (with_reducible refine Kd.C_alloc ?_ _) | (with_reducible refine Kd.C_drewN ?_ _) | (with_reducible refine Kd.C_drew ?_))); (case side2 => exact (Kd.R_reads' HO440.out).2.1); (case side3 => repeat (first | exact (Kd.R_reads' HO444.out).2.2 | (with_reducible refine Kd.C_alloc ?_ _) | (with_reducible refine Kd.C_drewN ?_ _) | (with_reducible refine Kd.C_drew ?_))); (case side4 => exact (Kd.R_reads' HO444.out).2.1); rintro e w' ⟨rfl, ⟨nd, rfl⟩⟩))
                                                                go_meet
                                                                case rel => exact ⟨_, ((t445 != t447)), (by first | rfl | (simp; done) | (simp [*]; done)), H', ⟨by have := HJ11.out; have := HJ30.out; have := HJ62.out; have := HK4.out; have := HJ81.out; have := HJ83.out; have := HJ94.out; have := HK8.out; first | omega | exact Nat.le_refl _⟩, ⟨by repeat (first | (with_reducible first | exact HB.out | apply below_alloc | apply pw_below_drewN | apply below_drew1) | exact HB.out)⟩⟩
                                                          · replace c135 := Bool.eq_false_iff.mpr c135
                                                            subst c135
                                                            have H1 : (laws_FnStepsToOne.j11 k8 t428 t445 t446 true) = some r := by rw [if_neg (show ¬ (false = true) by decide)] at H; exact H
                                                            clear H
                                                            have H := H1
                                                            clear H1
                                                            exact (laws_FnStepsToOne.j11_no HR_.out _ _ _ _ H).elim
                                                      · rw [if_neg c132] at H
                                                        have c132b0 : (t433 == t435) = false := beq_eq_false_iff_ne.mpr c132
                                                        have c132b1 : (t433 != t435) = true := bne_iff_ne.mpr c132
                                                        exact (laws_FnStepsToOne.j11_no HR_.out _ _ _ _ H).elim
                                                  · rw [if_neg c130] at H
                                                    have c130b0 : (t429 == t431) = false := beq_eq_false_iff_ne.mpr c130
                                                    have c130b1 : (t429 != t431) = true := bne_iff_ne.mpr c130
                                                    exact (laws_FnStepsToOne.j11_no HR_.out _ _ _ _ H).elim
                                              case rest =>
                                                as_aux_lemma =>
                                                clear HC124
                                                try clear c1
                                                try clear c2
                                                try clear p2
                                                try clear c3
                                                try clear p3
                                                try clear q3
                                                try clear hx3
                                                try clear qi3
                                                try clear c4
                                                try clear p4
                                                try clear q4
                                                try clear hx4
                                                try clear c5
                                                try clear c6
                                                try clear p6
                                                try clear c7
                                                try clear c8
                                                try clear c9
                                                try clear c10
                                                try clear c11
                                                try clear c12
                                                try clear c13
                                                try clear c14
                                                try clear c15
                                                try clear c17
                                                try clear c18
                                                try clear c19
                                                try clear c20
                                                try clear c20b0
                                                try clear c20b1
                                                try clear c20b2
                                                try clear c21
                                                try clear c22
                                                try clear c23
                                                try clear c23b0
                                                try clear c23b1
                                                try clear c23b2
                                                try clear c24
                                                try clear c24b0
                                                try clear c24b1
                                                try clear c25
                                                try clear c25b0
                                                try clear c25b1
                                                try clear c25b2
                                                try clear c26
                                                try clear c26b0
                                                try clear c26b1
                                                try clear c27
                                                try clear c27b0
                                                try clear c27b1
                                                try clear c27b2
                                                try clear c28
                                                try clear c29
                                                try clear c30
                                                try clear c32
                                                try clear c34
                                                try clear c34b0
                                                try clear c35
                                                try clear c35b0
                                                try clear c36
                                                try clear c36b0
                                                try clear c38
                                                try clear c38b0
                                                try clear p38
                                                try clear q38
                                                try clear hx38
                                                try clear qi38
                                                try clear c39
                                                try clear c39b0
                                                try clear p39
                                                try clear q39
                                                try clear hx39
                                                try clear p40
                                                try clear q40
                                                try clear hx40
                                                try clear c42
                                                try clear p42
                                                try clear q42
                                                try clear hx42
                                                try clear c44
                                                try clear c44b0
                                                try clear c45
                                                try clear c45b0
                                                try clear c45b1
                                                try clear c46
                                                try clear c48
                                                try clear c49
                                                try clear c49b0
                                                try clear c49b1
                                                try clear c52
                                                try clear c52b0
                                                try clear c52b1
                                                try clear c53
                                                try clear c53b0
                                                try clear c53b1
                                                try clear c55
                                                try clear c55b0
                                                try clear c56
                                                try clear c56b0
                                                try clear c57
                                                try clear c57b0
                                                try clear c57b1
                                                try clear c58
                                                try clear c58b0
                                                try clear c58b1
                                                try clear c59
                                                try clear c59b0
                                                try clear c59b1
                                                try clear p64
                                                try clear c67
                                                try clear c67b0
                                                try clear c67b1
                                                try clear c67b2
                                                try clear c69
                                                try clear c73
                                                try clear c75
                                                try clear c75b0
                                                try clear c76
                                                try clear c76b0
                                                try clear c77
                                                try clear c77b0
                                                try clear c79
                                                try clear c80
                                                try clear c80b0
                                                try clear c80b1
                                                try clear c83
                                                try clear c85
                                                try clear c86
                                                try clear c86b0
                                                try clear c88
                                                try clear c90
                                                try clear c90b0
                                                try clear c90b1
                                                try clear c90b2
                                                try clear c99
                                                try clear c99b0
                                                try clear c99b1
                                                try clear c99b2
                                                try clear c101
                                                try clear c105
                                                try clear c107
                                                try clear c107b0
                                                try clear c108
                                                try clear c108b0
                                                try clear c109
                                                try clear c109b0
                                                try clear c111
                                                try clear c112
                                                try clear c112b0
                                                try clear c113
                                                try clear c113b0
                                                try clear c129
                                                try clear c129b0
                                                try clear c129b1
                                                try clear c129b2
                                                try clear c130
                                                try clear c130b0
                                                try clear c130b1
                                                try clear c131
                                                try clear c131b0
                                                try clear c131b1
                                                try clear c131b2
                                                try clear c132
                                                try clear c132b0
                                                try clear c132b1
                                                try clear c133
                                                try clear c133b0
                                                try clear c133b1
                                                try clear c133b2
                                                try clear c135
                                                try clear c136
                                                try clear c136b0
                                                try clear c136b1
                                                try clear c136b2
                                                try clear hx386_0
                                                try clear hx387_0
                                                try clear hx388_0
                                                try clear hx395_0
                                                try clear hx408_0
                                                try clear hx425_0
                                                try clear p2
                                                try clear p3
                                                try clear p38
                                                try clear p386
                                                try clear p387
                                                try clear p388
                                                try clear p39
                                                try clear p395
                                                try clear p4
                                                try clear p40
                                                try clear p408
                                                try clear p425
                                                try clear p6
                                                try clear p64
                                                try clear q3
                                                try clear q38
                                                try clear q386
                                                try clear q387
                                                try clear q388
                                                try clear q39
                                                try clear q395
                                                try clear q4
                                                try clear q40
                                                try clear q408
                                                try clear q425
                                                obtain ⟨kq, x422_123, rfl, HA, HJ123, HB⟩ := hcut
                                                cases kq with
                                                | zero => exact absurd HA.out (by simp [laws_FnStepsToOne.j11])
                                                | succ kj123 =>
                                                  have H := HA.out
                                                  clear HA
                                                  simp only [laws_FnStepsToOne.j11] at H
                                                  by_cases c139 : x422_123 = true
                                                  · subst c139
                                                    have H1 : (some false) = some r := by rw [if_pos rfl] at H; exact H
                                                    clear H
                                                    have H := H1
                                                    clear H1
                                                    exact absurd (Option.some.inj H) (by rw [HR_.out]; decide)
                                                  · replace c139 := Bool.eq_false_iff.mpr c139
                                                    subst c139
                                                    have H1 : (if t446 = true then (laws_FnStepsToOne.l4 kj123 t428 t445 t428 0) else (some true)) = some r := by rw [if_neg (show ¬ (false = true) by decide)] at H; exact H
                                                    clear H
                                                    have H := H1
                                                    clear H1
                                                    by_cases c140 : t446 = true
                                                    · subst c140
                                                      have H1 : (laws_FnStepsToOne.l4 kj123 t428 t445 t428 0) = some r := by rw [if_pos rfl] at H; exact H
                                                      clear H
                                                      have H := H1
                                                      clear H1
                                                      have H' := Aside0.mk H
                                                      clear H
                                                      go_wp2
                                                      go_loopg [64, 65] kj123 (fun kq v64 v65 w' => ∃ (x64_10 : Int) (x65_10 : Int), v64 = .int .i64 x64_10 ∧ v65 = .int .i64 x65_10 ∧ Aside0 (laws_FnStepsToOne.l4 kq t428 t445 x64_10 x65_10 = some r) ∧ Aside0 (kq ≤ kj123) ∧ Aside0 (Below w.heap.size w w'))
                                                      case atStart => exact ⟨(t428), (0), (by first | rfl | (simp; done) | (simp [*]; done)), (by first | rfl | (simp; done) | (simp [*]; done)), H', ⟨Nat.le_refl _⟩, ⟨by repeat (first | (with_reducible first | exact HB.out | apply below_alloc | apply pw_below_drewN | apply below_drew1) | exact HB.out)⟩⟩
                                                      case round =>
                                                        as_aux_lemma =>
                                                        clear H'
                                                        try clear c1
                                                        try clear c2
                                                        try clear p2
                                                        try clear c3
                                                        try clear p3
                                                        try clear q3
                                                        try clear hx3
                                                        try clear qi3
                                                        try clear c4
                                                        try clear p4
                                                        try clear q4
                                                        try clear hx4
                                                        try clear c5
                                                        try clear c6
                                                        try clear p6
                                                        try clear c7
                                                        try clear c8
                                                        try clear c9
                                                        try clear c10
                                                        try clear c11
                                                        try clear c12
                                                        try clear c13
                                                        try clear c14
                                                        try clear c15
                                                        try clear c17
                                                        try clear c18
                                                        try clear c19
                                                        try clear c20
                                                        try clear c20b0
                                                        try clear c20b1
                                                        try clear c20b2
                                                        try clear c21
                                                        try clear c22
                                                        try clear c23
                                                        try clear c23b0
                                                        try clear c23b1
                                                        try clear c23b2
                                                        try clear c24
                                                        try clear c24b0
                                                        try clear c24b1
                                                        try clear c25
                                                        try clear c25b0
                                                        try clear c25b1
                                                        try clear c25b2
                                                        try clear c26
                                                        try clear c26b0
                                                        try clear c26b1
                                                        try clear c27
                                                        try clear c27b0
                                                        try clear c27b1
                                                        try clear c27b2
                                                        try clear c28
                                                        try clear c29
                                                        try clear c30
                                                        try clear c32
                                                        try clear c34
                                                        try clear c34b0
                                                        try clear c35
                                                        try clear c35b0
                                                        try clear c36
                                                        try clear c36b0
                                                        try clear c38
                                                        try clear c38b0
                                                        try clear p38
                                                        try clear q38
                                                        try clear hx38
                                                        try clear qi38
                                                        try clear c39
                                                        try clear c39b0
                                                        try clear p39
                                                        try clear q39
                                                        try clear hx39
                                                        try clear p40
                                                        try clear q40
                                                        try clear hx40
                                                        try clear c42
                                                        try clear p42
                                                        try clear q42
                                                        try clear hx42
                                                        try clear c44
                                                        try clear c44b0
                                                        try clear c45
                                                        try clear c45b0
                                                        try clear c45b1
                                                        try clear c46
                                                        try clear c48
                                                        try clear c49
                                                        try clear c49b0
                                                        try clear c49b1
                                                        try clear c52
                                                        try clear c52b0
                                                        try clear c52b1
                                                        try clear c53
                                                        try clear c53b0
                                                        try clear c53b1
                                                        try clear c55
                                                        try clear c55b0
                                                        try clear c56
                                                        try clear c56b0
                                                        try clear c57
                                                        try clear c57b0
                                                        try clear c57b1
                                                        try clear c58
                                                        try clear c58b0
                                                        try clear c58b1
                                                        try clear c59
                                                        try clear c59b0
                                                        try clear c59b1
                                                        try clear p64
                                                        try clear c67
                                                        try clear c67b0
                                                        try clear c67b1
                                                        try clear c67b2
                                                        try clear c69
                                                        try clear c73
                                                        try clear c75
                                                        try clear c75b0
                                                        try clear c76
                                                        try clear c76b0
                                                        try clear c77
                                                        try clear c77b0
                                                        try clear c79
                                                        try clear c80
                                                        try clear c80b0
                                                        try clear c80b1
                                                        try clear c83
                                                        try clear c85
                                                        try clear c86
                                                        try clear c86b0
                                                        try clear c88
                                                        try clear c90
                                                        try clear c90b0
                                                        try clear c90b1
                                                        try clear c90b2
                                                        try clear c99
                                                        try clear c99b0
                                                        try clear c99b1
                                                        try clear c99b2
                                                        try clear c101
                                                        try clear c105
                                                        try clear c107
                                                        try clear c107b0
                                                        try clear c108
                                                        try clear c108b0
                                                        try clear c109
                                                        try clear c109b0
                                                        try clear c111
                                                        try clear c112
                                                        try clear c112b0
                                                        try clear c113
                                                        try clear c113b0
                                                        try clear c129
                                                        try clear c129b0
                                                        try clear c129b1
                                                        try clear c129b2
                                                        try clear c130
                                                        try clear c130b0
                                                        try clear c130b1
                                                        try clear c131
                                                        try clear c131b0
                                                        try clear c131b1
                                                        try clear c131b2
                                                        try clear c132
                                                        try clear c132b0
                                                        try clear c132b1
                                                        try clear c133
                                                        try clear c133b0
                                                        try clear c133b1
                                                        try clear c133b2
                                                        try clear c135
                                                        try clear c136
                                                        try clear c136b0
                                                        try clear c136b1
                                                        try clear c136b2
                                                        try clear c139
                                                        try clear c140
                                                        try clear hx386_0
                                                        try clear hx387_0
                                                        try clear hx388_0
                                                        try clear hx395_0
                                                        try clear hx408_0
                                                        try clear hx425_0
                                                        try clear p2
                                                        try clear p3
                                                        try clear p38
                                                        try clear p386
                                                        try clear p387
                                                        try clear p388
                                                        try clear p39
                                                        try clear p395
                                                        try clear p4
                                                        try clear p40
                                                        try clear p408
                                                        try clear p42
                                                        try clear p425
                                                        try clear p6
                                                        try clear p64
                                                        try clear q3
                                                        try clear q38
                                                        try clear q386
                                                        try clear q387
                                                        try clear q388
                                                        try clear q39
                                                        try clear q395
                                                        try clear q4
                                                        try clear q40
                                                        try clear q408
                                                        try clear q42
                                                        try clear q425
                                                        obtain ⟨x64_10, x65_10, rfl, rfl, HA, HK10, HB⟩ := hrel
                                                        cases gk with
                                                        | zero => exact absurd HA.out (by simp [laws_FnStepsToOne.l4])
                                                        | succ k10 =>
                                                          have H := HA.out
                                                          clear HA
                                                          simp only [laws_FnStepsToOne.l4] at H
                                                          by_cases c141 : x65_10 < t445
                                                          · rw [if_pos c141] at H
                                                            have c141b0 : decide (x65_10 < t445) = true := decide_eq_true c141
                                                            clear c141
                                                            by_cases c142 : x64_10 < t428
                                                            · rw [if_pos c142] at H
                                                              have c142b0 : decide (x64_10 < t428) = true := decide_eq_true c142
                                                              clear c142
                                                              exact absurd (Option.some.inj H) (by rw [HR_.out]; decide)
                                                            · rw [if_neg c142] at H
                                                              have c142b0 : decide (x64_10 < t428) = false := decide_eq_false c142
                                                              clear c142
                                                              replace H := Option.bind_eq_some_iff.mp H
                                                              obtain ⟨⟨t450, t451⟩, A1430, H⟩ := H
                                                              replace H : (if t451 = true then (laws_FnStepsToOne.l4 k10 t428 t445 t450 (wrap64 (x65_10 + 1))) else (some false)) = some r := H
                                                              have A143 := Aside0.mk A1430
                                                              clear A1430
                                                              by_cases c144 : t451 = true
                                                              · subst c144
                                                                have H1 : (laws_FnStepsToOne.l4 k10 t428 t445 t450 (wrap64 (x65_10 + 1))) = some r := by rw [if_pos rfl] at H; exact H
                                                                clear H
                                                                have H := H1
                                                                clear H1
                                                                as_aux_lemma =>
                                                                  have H' := Aside0.mk H
                                                                  clear H
                                                                  go_wp2_with (first | ((with_reducible refine gate_callee (f := 14) rfl ?_); refine goesL_ (some 435) rfl rfl Try.func14 (by kernel_rfl) rfl #[.int .i64 x64_10] rfl (by (try simp only [List.map_toArray, List.map_cons, List.map_nil]); first | done | rfl | (simp only [List.length_drop, List.length_take]; rfl)) ?_; (with_reducible refine (impl_StepOf.calls x64_10 t450 true _ A143.out).mono ?_); rintro e w' ⟨rfl, ⟨nd, rfl⟩⟩; refine ⟨_, rfl, ?_⟩))
                                                                  go_roundg k10
                                                                  case measure => have := HJ11.out; have := HJ30.out; have := HJ62.out; have := HK4.out; have := HJ81.out; have := HJ83.out; have := HJ94.out; have := HK8.out; have := HJ123.out; have := HK10.out; omega
                                                                  case rel => exact ⟨(t450), (wrap64 (x65_10 + 1)), (by first | rfl | (simp; done) | (simp [*]; done)), (by first | rfl | (simp; done) | (simp [*]; done)), H', ⟨by have := HJ11.out; have := HJ30.out; have := HJ62.out; have := HK4.out; have := HJ81.out; have := HJ83.out; have := HJ94.out; have := HK8.out; have := HJ123.out; have := HK10.out; omega⟩, ⟨by repeat (first | (with_reducible first | exact HB.out | apply below_alloc | apply pw_below_drewN | apply below_drew1) | exact HB.out)⟩⟩
                                                              · replace c144 := Bool.eq_false_iff.mpr c144
                                                                subst c144
                                                                have H1 : (some false) = some r := by rw [if_neg (show ¬ (false = true) by decide)] at H; exact H
                                                                clear H
                                                                have H := H1
                                                                clear H1
                                                                exact absurd (Option.some.inj H) (by rw [HR_.out]; decide)
                                                          · rw [if_neg c141] at H
                                                            have c141b0 : decide (x65_10 < t445) = false := decide_eq_false c141
                                                            clear c141
                                                            as_aux_lemma =>
                                                              obtain rfl := Option.some.inj H
                                                              go_wp2
                                                              go_ret
                                                              exact ⟨by first | rfl | (simp [errW_none, errW_some] <;> rfl) | (simp [*, errW_none, errW_some] <;> rfl), by repeat (first | (with_reducible first | exact HB.out | apply below_alloc | apply pw_below_drewN | apply below_drew1) | exact HB.out)⟩
                                                    · replace c140 := Bool.eq_false_iff.mpr c140
                                                      subst c140
                                                      have H1 : (some true) = some r := by rw [if_neg (show ¬ (false = true) by decide)] at H; exact H
                                                      clear H
                                                      have H := H1
                                                      clear H1
                                                      as_aux_lemma =>
                                                        obtain rfl := Option.some.inj H
                                                        go_wp2
                                                        go_ret
                                                        exact ⟨by first | rfl | (simp [errW_none, errW_some] <;> rfl) | (simp [*, errW_none, errW_some] <;> rfl), by repeat (first | (with_reducible first | exact HB.out | apply below_alloc | apply pw_below_drewN | apply below_drew1) | exact HB.out)⟩

/-- THE ONE PURE STATEMENT of laws_FnStepsToOne: yours. -/
def laws_FnStepsToOne.Pure : Prop := ∀ (l0 : List Int) (l1 : List Int), l0.length ≤ maxLen → l0.length * 1 ≤ 140737488351232 → (∀ x ∈ l0, (Lit.int .u8 x).wf = true) → l1.length ≤ maxLen → l1.length * 1 ≤ 140737488351232 → (∀ x ∈ l1, (Lit.int .u8 x).wf = true) → ∃ k, laws_FnStepsToOne.f k l0 l1 = some true
theorem laws_FnStepsToOne.walk (P : laws_FnStepsToOne.Pure) (a0 : Option Addr) (len0 cap0 : Nat) (z0 : List Int) (a1 : Option Addr) (len1 cap1 : Nat) (z1 : List Int) (w : World) (w0 : (a0 = none ∧ len0 = 0 ∧ cap0 = 0 ∧ z0 = []) ∨ ∃ x, a0 = some x ∧ len0 ≤ cap0 ∧ cap0 ≤ maxLen ∧ z0.length = cap0 ∧ (∀ i, i < z0.length → w.cell? (x.add i) = some (.int .u8 (z0.getD i 0))) ∧ ∀ n ∈ z0, (Lit.int .u8 n).wf = true) (y0 : len0 * 1 ≤ 140737488351232) (w1 : (a1 = none ∧ len1 = 0 ∧ cap1 = 0 ∧ z1 = []) ∨ ∃ x, a1 = some x ∧ len1 ≤ cap1 ∧ cap1 ≤ maxLen ∧ z1.length = cap1 ∧ (∀ i, i < z1.length → w.cell? (x.add i) = some (.int .u8 (z1.getD i 0))) ∧ ∀ n ∈ z1, (Lit.int .u8 n).wf = true) (y1 : len1 * 1 ≤ 140737488351232) :
    Calls Try.prog 3 #[.slice a0 len0 cap0, .slice a1 len1 cap1] w fun e w' => e = .returned (.bool true) ∧ Below w.heap.size w w' := by
  obtain ⟨l0, rfl, hr0, hm0, hw0, hc0⟩ := ReadsInt.ofRowC w0
  obtain ⟨l1, rfl, hr1, hm1, hw1, hc1⟩ := ReadsInt.ofRowC w1
  obtain ⟨k, h⟩ := P l0 l1 hm0 y0 hw0 hm1 y1 hw1
  refine (laws_FnStepsToOne.calls k _ _ l0 _ _ l1 true w (Kd.C_of_reads (d := (0 : Int)) (h1 := fun _ => rfl) hr0) hc0 (Kd.C_of_reads (d := (0 : Int)) (h1 := fun _ => rfl) hr1) hc1 h rfl).mono ?_
  rintro e w' ⟨rfl, hd⟩
  exact ⟨rfl, hd⟩

end Go.Proofs.Ytclnhbppcmcalaa.PFnStepsToOne
