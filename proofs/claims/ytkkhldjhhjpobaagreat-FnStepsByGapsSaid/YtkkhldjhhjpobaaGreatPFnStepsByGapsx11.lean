-- out of the kit's print, turned by wip/own_print.py
import Derived.Test.YtkkhldjhhjpobaaGreatPFnStepsByGapsx0
import Derived.Test.YtkkhldjhhjpobaaGreatPFnStepsByGapsx1
import Derived.Test.YtkkhldjhhjpobaaGreatPFnStepsByGapsx3
import Derived.Test.YtkkhldjhhjpobaaGreatPFnStepsByGapsx4
import Derived.Test.YtkkhldjhhjpobaaGreatPFnStepsByGapsx5
import Derived.Test.YtkkhldjhhjpobaaGreatPFnStepsByGapsx6
import Derived.Test.YtkkhldjhhjpobaaGreatPFnStepsByGapsx7
import Derived.Test.YtkkhldjhhjpobaaGreatPFnStepsByGapsx8
import Derived.Test.YtkkhldjhhjpobaaGreatPFnStepsByGapsx10
namespace Go.Proofs.YtkkhldjhhjpobaaGreat.PFnStepsByGaps
open Go.RowKit Go.Proofs.YtkkhldjhhjpobaaGreatW.PrintWords Go.Proofs.YtkkhldjhhjpobaaGreatW.PrintLast Go.Proofs.YtkkhldjhhjpobaaGreatW.PrintMore
attribute [local go_sem] max2_int min2_int max_two min_two max_three min_three max_four min_four   -- for this text's walks alone
set_option linter.unusedVariables false
set_option linter.unusedSimpArgs false

/-! ### laws_FnStepsByGaps: function 3 -/
mutual
def laws_FnStepsByGaps.j0 : Nat → List Int → List Int → List Int → Int → List Int → Bool → List Int → Int → Bool → Option (Bool)
 | 0, _, _, _, _, _, _, _, _, _ => none
 | k + 1, x0, x1, x5, x6, x7, x8, x11, x15, x130 => if x130 = true then (some false) else (if x8 = true then ((impl_StepByGaps.f k x11 (x5.length : Int) x6).bind fun bt499 => ((impl_WordOf.f k x15 (x5.length : Int) x6).bind fun bt503 => ((laws_qBack.f k x5).bind fun t507 => ((impl_SortedStep.f k t507 x6).bind fun bt510 => (if bt499.2 = true then ((laws_qSame.f k bt499.1 x7).bind fun t514 => (if t514 = true then (if bt503.2 = true then ((laws_qSame.f k bt503.1 x5).bind fun t515 => (if t515 = true then (if bt510.2 = true then ((laws_qSame.f k bt510.1 x7).bind fun t516 => (if t516 = true then ((laws_qValue.f k x7 x6).bind fun t517 => (if (wrap64 (x6 - 1)) = 0 then (none) else (if (Int.tmod t517 (wrap64 (x6 - 1))) = 0 then (laws_FnStepsByGaps.j1 k x0 x1 x11 ((x7.length : Int) != (x5.length : Int))) else (laws_FnStepsByGaps.j1 k x0 x1 x11 true)))) else (laws_FnStepsByGaps.j1 k x0 x1 x11 true))) else (laws_FnStepsByGaps.j1 k x0 x1 x11 true)) else (laws_FnStepsByGaps.j1 k x0 x1 x11 true))) else (laws_FnStepsByGaps.j1 k x0 x1 x11 true)) else (laws_FnStepsByGaps.j1 k x0 x1 x11 true))) else (laws_FnStepsByGaps.j1 k x0 x1 x11 true)))))) else (laws_FnStepsByGaps.j3 k x0 x1))
def laws_FnStepsByGaps.j3 : Nat → List Int → List Int → Option (Bool)
 | 0, _, _ => none
 | k + 1, x0, x1 => (spec_DrawStepByGaps.f k x1).bind fun bt520 => ((impl_StepByGaps.f k bt520.1 bt520.2.1 bt520.2.2).bind fun bt525 => ((spec_StepByGaps.f k bt520.1 bt520.2.1 bt520.2.2).bind fun bt529 => ((spec_DrawWordOf.f x1).bind fun bt533 => ((impl_WordOf.f k bt533.1 bt533.2.1 bt533.2.2).bind fun bt536 => ((spec_WordOf.f k bt533.1 bt533.2.1 bt533.2.2).bind fun bt540 => (if (bt525.2 != bt529.2) = true then (laws_FnStepsByGaps.j4 k x0 bt533.1 bt533.2.2 bt536.1 bt536.2 true) else ((laws_qSame.f k bt525.1 bt529.1).bind fun t544 => (if t544 = true then (if (bt536.2 != bt540.2) = true then (laws_FnStepsByGaps.j4 k x0 bt533.1 bt533.2.2 bt536.1 bt536.2 true) else ((laws_qSame.f k bt536.1 bt540.1).bind fun t545 => (laws_FnStepsByGaps.j4 k x0 bt533.1 bt533.2.2 bt536.1 bt536.2 (!t545)))) else (laws_FnStepsByGaps.j4 k x0 bt533.1 bt533.2.2 bt536.1 bt536.2 true)))))))))
def laws_FnStepsByGaps.j4 : Nat → List Int → Int → Int → List Int → Bool → Bool → Option (Bool)
 | 0, _, _, _, _, _, _ => none
 | k + 1, x0, x33, x35, x36, x37, x274 => if x274 = true then (some false) else (if x37 = true then ((laws_qValue.f k x36 x35).bind fun t546 => (laws_FnStepsByGaps.j5 k x0 (t546 != x33))) else (laws_FnStepsByGaps.j5 k x0 false))
def laws_FnStepsByGaps.j5 : Nat → List Int → Bool → Option (Bool)
 | 0, _, _ => none
 | k + 1, x0, x282 => if x282 = true then (some false) else ((spec_DrawAllGaps.f x0).bind fun bt547 => ((impl_AllGaps.f k bt547.1 bt547.2).bind fun bt549 => ((spec_AllGaps.f k bt547.1 bt547.2).bind fun bt553 => (if (bt549.2 != bt553.2) = true then (laws_FnStepsByGaps.j6 k bt549.1 true) else ((laws_qSameRows.f k bt549.1 bt553.1).bind fun t557 => (laws_FnStepsByGaps.j6 k bt549.1 (!t557)))))))
def laws_FnStepsByGaps.j6 : Nat → List (List Int) → Bool → Option (Bool)
 | 0, _, _ => none
 | k + 1, x42, x308 => if x308 = true then (some false) else (laws_FnStepsByGaps.l1 k x42 1)
def laws_FnStepsByGaps.l1 : Nat → List (List Int) → Int → Option (Bool)
 | 0, _, _ => none
 | k + 1, x42, x46 => if x46 < (x42.length : Int) then (if 0 ≤ (wrap64 (x46 - 1)) then (if (wrap64 (x46 - 1)) < (x42.length : Int) then (if 0 ≤ x46 then ((laws_qLess.f k (rd_L2 x42 (wrap64 (x46 - 1))) (rd_L2 x42 x46)).bind fun t560 => (if t560 = true then (laws_FnStepsByGaps.l1 k x42 (wrap64 (x46 + 1))) else (some false))) else (none)) else (none)) else (none)) else (some true)
def laws_FnStepsByGaps.j1 : Nat → List Int → List Int → List Int → Bool → Option (Bool)
 | 0, _, _, _, _ => none
 | k + 1, x0, x1, x11, x198 => if x198 = true then (some false) else (laws_FnStepsByGaps.l0 k x0 x1 x11 1)
def laws_FnStepsByGaps.l0 : Nat → List Int → List Int → List Int → Int → Option (Bool)
 | 0, _, _, _, _ => none
 | k + 1, x0, x1, x11, x25 => if x25 < (x11.length : Int) then (if 0 ≤ x25 then (if 0 ≤ (wrap64 (x25 - 1)) then (if (wrap64 (x25 - 1)) < (x11.length : Int) then (if (rd x11 x25) > (rd x11 (wrap64 (x25 - 1))) then (some false) else (laws_FnStepsByGaps.l0 k x0 x1 x11 (wrap64 (x25 + 1)))) else (none)) else (none)) else (none)) else (laws_FnStepsByGaps.j3 k x0 x1)
end
def laws_FnStepsByGaps.f (k : Nat) (l0 : List Int) (l1 : List Int) : Option (Bool) := (laws_big.f l0 l1).bind fun t472 => (if t472 = true then (some true) else ((spec_DrawSortedStep.f k l0).bind fun bt473 => ((impl_SortedStep.f k bt473.1 bt473.2).bind fun bt477 => ((spec_SortedStep.f k bt473.1 bt473.2).bind fun bt481 => ((impl_GapsOf.f k bt473.1 bt473.2).bind fun bt485 => ((spec_GapsOf.f k bt473.1 bt473.2).bind fun bt489 => ((impl_ValueOf.f k bt473.1 bt473.2).bind fun bt493 => ((spec_ValueOf.f k bt473.1 bt473.2).bind fun bt495 => (if (bt477.2 != bt481.2) = true then (laws_FnStepsByGaps.j0 k l0 l1 bt473.1 bt473.2 bt477.1 bt477.2 bt485.1 bt493.1 true) else ((laws_qSame.f k bt477.1 bt481.1).bind fun t497 => (if t497 = true then (if (bt485.2 != bt489.2) = true then (laws_FnStepsByGaps.j0 k l0 l1 bt473.1 bt473.2 bt477.1 bt477.2 bt485.1 bt493.1 true) else ((laws_qSame.f k bt485.1 bt489.1).bind fun t498 => (if t498 = true then (if (bt493.2 != bt495.2) = true then (laws_FnStepsByGaps.j0 k l0 l1 bt473.1 bt473.2 bt477.1 bt477.2 bt485.1 bt493.1 true) else (if bt493.1 = bt495.1 then (if (bt485.2 != bt477.2) = true then (laws_FnStepsByGaps.j0 k l0 l1 bt473.1 bt473.2 bt477.1 bt477.2 bt485.1 bt493.1 true) else (laws_FnStepsByGaps.j0 k l0 l1 bt473.1 bt473.2 bt477.1 bt477.2 bt485.1 bt493.1 (bt493.2 != bt477.2))) else (laws_FnStepsByGaps.j0 k l0 l1 bt473.1 bt473.2 bt477.1 bt477.2 bt485.1 bt493.1 true))) else (laws_FnStepsByGaps.j0 k l0 l1 bt473.1 bt473.2 bt477.1 bt477.2 bt485.1 bt493.1 true)))) else (laws_FnStepsByGaps.j0 k l0 l1 bt473.1 bt473.2 bt477.1 bt477.2 bt485.1 bt493.1 true))))))))))))
theorem laws_FnStepsByGaps.mono_l : ∀ k, (∀ y0 y1 y2 y3 y4 y5 y6 y7 y8, LeO (laws_FnStepsByGaps.j0 k y0 y1 y2 y3 y4 y5 y6 y7 y8) (laws_FnStepsByGaps.j0 (k + 1) y0 y1 y2 y3 y4 y5 y6 y7 y8)) ∧ (∀ y0 y1, LeO (laws_FnStepsByGaps.j3 k y0 y1) (laws_FnStepsByGaps.j3 (k + 1) y0 y1)) ∧ (∀ y0 y1 y2 y3 y4 y5, LeO (laws_FnStepsByGaps.j4 k y0 y1 y2 y3 y4 y5) (laws_FnStepsByGaps.j4 (k + 1) y0 y1 y2 y3 y4 y5)) ∧ (∀ y0 y1, LeO (laws_FnStepsByGaps.j5 k y0 y1) (laws_FnStepsByGaps.j5 (k + 1) y0 y1)) ∧ (∀ y0 y1, LeO (laws_FnStepsByGaps.j6 k y0 y1) (laws_FnStepsByGaps.j6 (k + 1) y0 y1)) ∧ (∀ y0 y1, LeO (laws_FnStepsByGaps.l1 k y0 y1) (laws_FnStepsByGaps.l1 (k + 1) y0 y1)) ∧ (∀ y0 y1 y2 y3, LeO (laws_FnStepsByGaps.j1 k y0 y1 y2 y3) (laws_FnStepsByGaps.j1 (k + 1) y0 y1 y2 y3)) ∧ (∀ y0 y1 y2 y3, LeO (laws_FnStepsByGaps.l0 k y0 y1 y2 y3) (laws_FnStepsByGaps.l0 (k + 1) y0 y1 y2 y3))
 | 0 => ⟨fun _ _ _ _ _ _ _ _ _ r h => by simp [laws_FnStepsByGaps.j0] at h, fun _ _ r h => by simp [laws_FnStepsByGaps.j3] at h, fun _ _ _ _ _ _ r h => by simp [laws_FnStepsByGaps.j4] at h, fun _ _ r h => by simp [laws_FnStepsByGaps.j5] at h, fun _ _ r h => by simp [laws_FnStepsByGaps.j6] at h, fun _ _ r h => by simp [laws_FnStepsByGaps.l1] at h, fun _ _ _ _ r h => by simp [laws_FnStepsByGaps.j1] at h, fun _ _ _ _ r h => by simp [laws_FnStepsByGaps.l0] at h⟩
 | k + 1 => by
  obtain ⟨ih0, ih1, ih2, ih3, ih4, ih5, ih6, ih7⟩ := laws_FnStepsByGaps.mono_l k
  refine ⟨?_, ?_, ?_, ?_, ?_, ?_, ?_, ?_⟩
  ·intro y0 y1 y2 y3 y4 y5 y6 y7 y8
   unfold laws_FnStepsByGaps.j0
   repeat' first
   | (with_reducible exact ih0 _ _ _ _ _ _ _ _ _)
   | (with_reducible exact ih1 _ _)
   | (with_reducible exact ih2 _ _ _ _ _ _)
   | (with_reducible exact ih3 _ _)
   | (with_reducible exact ih4 _ _)
   | (with_reducible exact ih5 _ _)
   | (with_reducible exact ih6 _ _ _ _)
   | (with_reducible exact ih7 _ _ _ _)
   | (with_reducible exact impl_AllGaps.mono _ _ _)
   | (with_reducible exact impl_GapsOf.mono _ _ _)
   | (with_reducible exact impl_SortedStep.mono _ _ _)
   | (with_reducible exact impl_StepByGaps.mono _ _ _ _)
   | (with_reducible exact impl_ValueOf.mono _ _ _)
   | (with_reducible exact impl_WordOf.mono _ _ _ _)
   | (with_reducible exact laws_qBack.mono _ _)
   | (with_reducible exact laws_qLess.mono _ _ _)
   | (with_reducible exact laws_qSame.mono _ _ _)
   | (with_reducible exact laws_qSameRows.mono _ _ _)
   | (with_reducible exact laws_qValue.mono _ _ _)
   | (with_reducible exact spec_AllGaps.mono _ _ _)
   | (with_reducible exact spec_DrawSortedStep.mono _ _)
   | (with_reducible exact spec_DrawStepByGaps.mono _ _)
   | (with_reducible exact spec_GapsOf.mono _ _ _)
   | (with_reducible exact spec_SortedStep.mono _ _ _)
   | (with_reducible exact spec_StepByGaps.mono _ _ _ _)
   | (with_reducible exact spec_ValueOf.mono _ _ _)
   | (with_reducible exact spec_WordOf.mono _ _ _ _)
   | (with_reducible exact LeO.refl _)
   | (with_reducible exact LeO.none _)
   | (with_reducible refine LeO.ite ?_ ?_)
   | (with_reducible refine LeO.bind ?_ (fun _ => ?_))
   | exact ih0 _ _ _ _ _ _ _ _ _
   | exact ih1 _ _
   | exact ih2 _ _ _ _ _ _
   | exact ih3 _ _
   | exact ih4 _ _
   | exact ih5 _ _
   | exact ih6 _ _ _ _
   | exact ih7 _ _ _ _
   | exact impl_AllGaps.mono _ _ _
   | exact impl_GapsOf.mono _ _ _
   | exact impl_SortedStep.mono _ _ _
   | exact impl_StepByGaps.mono _ _ _ _
   | exact impl_ValueOf.mono _ _ _
   | exact impl_WordOf.mono _ _ _ _
   | exact laws_qBack.mono _ _
   | exact laws_qLess.mono _ _ _
   | exact laws_qSame.mono _ _ _
   | exact laws_qSameRows.mono _ _ _
   | exact laws_qValue.mono _ _ _
   | exact spec_AllGaps.mono _ _ _
   | exact spec_DrawSortedStep.mono _ _
   | exact spec_DrawStepByGaps.mono _ _
   | exact spec_GapsOf.mono _ _ _
   | exact spec_SortedStep.mono _ _ _
   | exact spec_StepByGaps.mono _ _ _ _
   | exact spec_ValueOf.mono _ _ _
   | exact spec_WordOf.mono _ _ _ _
   | exact LeO.none _
   | refine LeO.ite ?_ ?_
   | refine LeO.bind ?_ (fun _ => ?_)
  ·intro y0 y1
   unfold laws_FnStepsByGaps.j3
   repeat' first
   | (with_reducible exact ih0 _ _ _ _ _ _ _ _ _)
   | (with_reducible exact ih1 _ _)
   | (with_reducible exact ih2 _ _ _ _ _ _)
   | (with_reducible exact ih3 _ _)
   | (with_reducible exact ih4 _ _)
   | (with_reducible exact ih5 _ _)
   | (with_reducible exact ih6 _ _ _ _)
   | (with_reducible exact ih7 _ _ _ _)
   | (with_reducible exact impl_AllGaps.mono _ _ _)
   | (with_reducible exact impl_GapsOf.mono _ _ _)
   | (with_reducible exact impl_SortedStep.mono _ _ _)
   | (with_reducible exact impl_StepByGaps.mono _ _ _ _)
   | (with_reducible exact impl_ValueOf.mono _ _ _)
   | (with_reducible exact impl_WordOf.mono _ _ _ _)
   | (with_reducible exact laws_qBack.mono _ _)
   | (with_reducible exact laws_qLess.mono _ _ _)
   | (with_reducible exact laws_qSame.mono _ _ _)
   | (with_reducible exact laws_qSameRows.mono _ _ _)
   | (with_reducible exact laws_qValue.mono _ _ _)
   | (with_reducible exact spec_AllGaps.mono _ _ _)
   | (with_reducible exact spec_DrawSortedStep.mono _ _)
   | (with_reducible exact spec_DrawStepByGaps.mono _ _)
   | (with_reducible exact spec_GapsOf.mono _ _ _)
   | (with_reducible exact spec_SortedStep.mono _ _ _)
   | (with_reducible exact spec_StepByGaps.mono _ _ _ _)
   | (with_reducible exact spec_ValueOf.mono _ _ _)
   | (with_reducible exact spec_WordOf.mono _ _ _ _)
   | (with_reducible exact LeO.refl _)
   | (with_reducible exact LeO.none _)
   | (with_reducible refine LeO.ite ?_ ?_)
   | (with_reducible refine LeO.bind ?_ (fun _ => ?_))
   | exact ih0 _ _ _ _ _ _ _ _ _
   | exact ih1 _ _
   | exact ih2 _ _ _ _ _ _
   | exact ih3 _ _
   | exact ih4 _ _
   | exact ih5 _ _
   | exact ih6 _ _ _ _
   | exact ih7 _ _ _ _
   | exact impl_AllGaps.mono _ _ _
   | exact impl_GapsOf.mono _ _ _
   | exact impl_SortedStep.mono _ _ _
   | exact impl_StepByGaps.mono _ _ _ _
   | exact impl_ValueOf.mono _ _ _
   | exact impl_WordOf.mono _ _ _ _
   | exact laws_qBack.mono _ _
   | exact laws_qLess.mono _ _ _
   | exact laws_qSame.mono _ _ _
   | exact laws_qSameRows.mono _ _ _
   | exact laws_qValue.mono _ _ _
   | exact spec_AllGaps.mono _ _ _
   | exact spec_DrawSortedStep.mono _ _
   | exact spec_DrawStepByGaps.mono _ _
   | exact spec_GapsOf.mono _ _ _
   | exact spec_SortedStep.mono _ _ _
   | exact spec_StepByGaps.mono _ _ _ _
   | exact spec_ValueOf.mono _ _ _
   | exact spec_WordOf.mono _ _ _ _
   | exact LeO.none _
   | refine LeO.ite ?_ ?_
   | refine LeO.bind ?_ (fun _ => ?_)
  ·intro y0 y1 y2 y3 y4 y5
   unfold laws_FnStepsByGaps.j4
   repeat' first
   | (with_reducible exact ih0 _ _ _ _ _ _ _ _ _)
   | (with_reducible exact ih1 _ _)
   | (with_reducible exact ih2 _ _ _ _ _ _)
   | (with_reducible exact ih3 _ _)
   | (with_reducible exact ih4 _ _)
   | (with_reducible exact ih5 _ _)
   | (with_reducible exact ih6 _ _ _ _)
   | (with_reducible exact ih7 _ _ _ _)
   | (with_reducible exact impl_AllGaps.mono _ _ _)
   | (with_reducible exact impl_GapsOf.mono _ _ _)
   | (with_reducible exact impl_SortedStep.mono _ _ _)
   | (with_reducible exact impl_StepByGaps.mono _ _ _ _)
   | (with_reducible exact impl_ValueOf.mono _ _ _)
   | (with_reducible exact impl_WordOf.mono _ _ _ _)
   | (with_reducible exact laws_qBack.mono _ _)
   | (with_reducible exact laws_qLess.mono _ _ _)
   | (with_reducible exact laws_qSame.mono _ _ _)
   | (with_reducible exact laws_qSameRows.mono _ _ _)
   | (with_reducible exact laws_qValue.mono _ _ _)
   | (with_reducible exact spec_AllGaps.mono _ _ _)
   | (with_reducible exact spec_DrawSortedStep.mono _ _)
   | (with_reducible exact spec_DrawStepByGaps.mono _ _)
   | (with_reducible exact spec_GapsOf.mono _ _ _)
   | (with_reducible exact spec_SortedStep.mono _ _ _)
   | (with_reducible exact spec_StepByGaps.mono _ _ _ _)
   | (with_reducible exact spec_ValueOf.mono _ _ _)
   | (with_reducible exact spec_WordOf.mono _ _ _ _)
   | (with_reducible exact LeO.refl _)
   | (with_reducible exact LeO.none _)
   | (with_reducible refine LeO.ite ?_ ?_)
   | (with_reducible refine LeO.bind ?_ (fun _ => ?_))
   | exact ih0 _ _ _ _ _ _ _ _ _
   | exact ih1 _ _
   | exact ih2 _ _ _ _ _ _
   | exact ih3 _ _
   | exact ih4 _ _
   | exact ih5 _ _
   | exact ih6 _ _ _ _
   | exact ih7 _ _ _ _
   | exact impl_AllGaps.mono _ _ _
   | exact impl_GapsOf.mono _ _ _
   | exact impl_SortedStep.mono _ _ _
   | exact impl_StepByGaps.mono _ _ _ _
   | exact impl_ValueOf.mono _ _ _
   | exact impl_WordOf.mono _ _ _ _
   | exact laws_qBack.mono _ _
   | exact laws_qLess.mono _ _ _
   | exact laws_qSame.mono _ _ _
   | exact laws_qSameRows.mono _ _ _
   | exact laws_qValue.mono _ _ _
   | exact spec_AllGaps.mono _ _ _
   | exact spec_DrawSortedStep.mono _ _
   | exact spec_DrawStepByGaps.mono _ _
   | exact spec_GapsOf.mono _ _ _
   | exact spec_SortedStep.mono _ _ _
   | exact spec_StepByGaps.mono _ _ _ _
   | exact spec_ValueOf.mono _ _ _
   | exact spec_WordOf.mono _ _ _ _
   | exact LeO.none _
   | refine LeO.ite ?_ ?_
   | refine LeO.bind ?_ (fun _ => ?_)
  ·intro y0 y1
   unfold laws_FnStepsByGaps.j5
   repeat' first
   | (with_reducible exact ih0 _ _ _ _ _ _ _ _ _)
   | (with_reducible exact ih1 _ _)
   | (with_reducible exact ih2 _ _ _ _ _ _)
   | (with_reducible exact ih3 _ _)
   | (with_reducible exact ih4 _ _)
   | (with_reducible exact ih5 _ _)
   | (with_reducible exact ih6 _ _ _ _)
   | (with_reducible exact ih7 _ _ _ _)
   | (with_reducible exact impl_AllGaps.mono _ _ _)
   | (with_reducible exact impl_GapsOf.mono _ _ _)
   | (with_reducible exact impl_SortedStep.mono _ _ _)
   | (with_reducible exact impl_StepByGaps.mono _ _ _ _)
   | (with_reducible exact impl_ValueOf.mono _ _ _)
   | (with_reducible exact impl_WordOf.mono _ _ _ _)
   | (with_reducible exact laws_qBack.mono _ _)
   | (with_reducible exact laws_qLess.mono _ _ _)
   | (with_reducible exact laws_qSame.mono _ _ _)
   | (with_reducible exact laws_qSameRows.mono _ _ _)
   | (with_reducible exact laws_qValue.mono _ _ _)
   | (with_reducible exact spec_AllGaps.mono _ _ _)
   | (with_reducible exact spec_DrawSortedStep.mono _ _)
   | (with_reducible exact spec_DrawStepByGaps.mono _ _)
   | (with_reducible exact spec_GapsOf.mono _ _ _)
   | (with_reducible exact spec_SortedStep.mono _ _ _)
   | (with_reducible exact spec_StepByGaps.mono _ _ _ _)
   | (with_reducible exact spec_ValueOf.mono _ _ _)
   | (with_reducible exact spec_WordOf.mono _ _ _ _)
   | (with_reducible exact LeO.refl _)
   | (with_reducible exact LeO.none _)
   | (with_reducible refine LeO.ite ?_ ?_)
   | (with_reducible refine LeO.bind ?_ (fun _ => ?_))
   | exact ih0 _ _ _ _ _ _ _ _ _
   | exact ih1 _ _
   | exact ih2 _ _ _ _ _ _
   | exact ih3 _ _
   | exact ih4 _ _
   | exact ih5 _ _
   | exact ih6 _ _ _ _
   | exact ih7 _ _ _ _
   | exact impl_AllGaps.mono _ _ _
   | exact impl_GapsOf.mono _ _ _
   | exact impl_SortedStep.mono _ _ _
   | exact impl_StepByGaps.mono _ _ _ _
   | exact impl_ValueOf.mono _ _ _
   | exact impl_WordOf.mono _ _ _ _
   | exact laws_qBack.mono _ _
   | exact laws_qLess.mono _ _ _
   | exact laws_qSame.mono _ _ _
   | exact laws_qSameRows.mono _ _ _
   | exact laws_qValue.mono _ _ _
   | exact spec_AllGaps.mono _ _ _
   | exact spec_DrawSortedStep.mono _ _
   | exact spec_DrawStepByGaps.mono _ _
   | exact spec_GapsOf.mono _ _ _
   | exact spec_SortedStep.mono _ _ _
   | exact spec_StepByGaps.mono _ _ _ _
   | exact spec_ValueOf.mono _ _ _
   | exact spec_WordOf.mono _ _ _ _
   | exact LeO.none _
   | refine LeO.ite ?_ ?_
   | refine LeO.bind ?_ (fun _ => ?_)
  ·intro y0 y1
   unfold laws_FnStepsByGaps.j6
   repeat' first
   | (with_reducible exact ih0 _ _ _ _ _ _ _ _ _)
   | (with_reducible exact ih1 _ _)
   | (with_reducible exact ih2 _ _ _ _ _ _)
   | (with_reducible exact ih3 _ _)
   | (with_reducible exact ih4 _ _)
   | (with_reducible exact ih5 _ _)
   | (with_reducible exact ih6 _ _ _ _)
   | (with_reducible exact ih7 _ _ _ _)
   | (with_reducible exact impl_AllGaps.mono _ _ _)
   | (with_reducible exact impl_GapsOf.mono _ _ _)
   | (with_reducible exact impl_SortedStep.mono _ _ _)
   | (with_reducible exact impl_StepByGaps.mono _ _ _ _)
   | (with_reducible exact impl_ValueOf.mono _ _ _)
   | (with_reducible exact impl_WordOf.mono _ _ _ _)
   | (with_reducible exact laws_qBack.mono _ _)
   | (with_reducible exact laws_qLess.mono _ _ _)
   | (with_reducible exact laws_qSame.mono _ _ _)
   | (with_reducible exact laws_qSameRows.mono _ _ _)
   | (with_reducible exact laws_qValue.mono _ _ _)
   | (with_reducible exact spec_AllGaps.mono _ _ _)
   | (with_reducible exact spec_DrawSortedStep.mono _ _)
   | (with_reducible exact spec_DrawStepByGaps.mono _ _)
   | (with_reducible exact spec_GapsOf.mono _ _ _)
   | (with_reducible exact spec_SortedStep.mono _ _ _)
   | (with_reducible exact spec_StepByGaps.mono _ _ _ _)
   | (with_reducible exact spec_ValueOf.mono _ _ _)
   | (with_reducible exact spec_WordOf.mono _ _ _ _)
   | (with_reducible exact LeO.refl _)
   | (with_reducible exact LeO.none _)
   | (with_reducible refine LeO.ite ?_ ?_)
   | (with_reducible refine LeO.bind ?_ (fun _ => ?_))
   | exact ih0 _ _ _ _ _ _ _ _ _
   | exact ih1 _ _
   | exact ih2 _ _ _ _ _ _
   | exact ih3 _ _
   | exact ih4 _ _
   | exact ih5 _ _
   | exact ih6 _ _ _ _
   | exact ih7 _ _ _ _
   | exact impl_AllGaps.mono _ _ _
   | exact impl_GapsOf.mono _ _ _
   | exact impl_SortedStep.mono _ _ _
   | exact impl_StepByGaps.mono _ _ _ _
   | exact impl_ValueOf.mono _ _ _
   | exact impl_WordOf.mono _ _ _ _
   | exact laws_qBack.mono _ _
   | exact laws_qLess.mono _ _ _
   | exact laws_qSame.mono _ _ _
   | exact laws_qSameRows.mono _ _ _
   | exact laws_qValue.mono _ _ _
   | exact spec_AllGaps.mono _ _ _
   | exact spec_DrawSortedStep.mono _ _
   | exact spec_DrawStepByGaps.mono _ _
   | exact spec_GapsOf.mono _ _ _
   | exact spec_SortedStep.mono _ _ _
   | exact spec_StepByGaps.mono _ _ _ _
   | exact spec_ValueOf.mono _ _ _
   | exact spec_WordOf.mono _ _ _ _
   | exact LeO.none _
   | refine LeO.ite ?_ ?_
   | refine LeO.bind ?_ (fun _ => ?_)
  ·intro y0 y1
   unfold laws_FnStepsByGaps.l1
   repeat' first
   | (with_reducible exact ih0 _ _ _ _ _ _ _ _ _)
   | (with_reducible exact ih1 _ _)
   | (with_reducible exact ih2 _ _ _ _ _ _)
   | (with_reducible exact ih3 _ _)
   | (with_reducible exact ih4 _ _)
   | (with_reducible exact ih5 _ _)
   | (with_reducible exact ih6 _ _ _ _)
   | (with_reducible exact ih7 _ _ _ _)
   | (with_reducible exact impl_AllGaps.mono _ _ _)
   | (with_reducible exact impl_GapsOf.mono _ _ _)
   | (with_reducible exact impl_SortedStep.mono _ _ _)
   | (with_reducible exact impl_StepByGaps.mono _ _ _ _)
   | (with_reducible exact impl_ValueOf.mono _ _ _)
   | (with_reducible exact impl_WordOf.mono _ _ _ _)
   | (with_reducible exact laws_qBack.mono _ _)
   | (with_reducible exact laws_qLess.mono _ _ _)
   | (with_reducible exact laws_qSame.mono _ _ _)
   | (with_reducible exact laws_qSameRows.mono _ _ _)
   | (with_reducible exact laws_qValue.mono _ _ _)
   | (with_reducible exact spec_AllGaps.mono _ _ _)
   | (with_reducible exact spec_DrawSortedStep.mono _ _)
   | (with_reducible exact spec_DrawStepByGaps.mono _ _)
   | (with_reducible exact spec_GapsOf.mono _ _ _)
   | (with_reducible exact spec_SortedStep.mono _ _ _)
   | (with_reducible exact spec_StepByGaps.mono _ _ _ _)
   | (with_reducible exact spec_ValueOf.mono _ _ _)
   | (with_reducible exact spec_WordOf.mono _ _ _ _)
   | (with_reducible exact LeO.refl _)
   | (with_reducible exact LeO.none _)
   | (with_reducible refine LeO.ite ?_ ?_)
   | (with_reducible refine LeO.bind ?_ (fun _ => ?_))
   | exact ih0 _ _ _ _ _ _ _ _ _
   | exact ih1 _ _
   | exact ih2 _ _ _ _ _ _
   | exact ih3 _ _
   | exact ih4 _ _
   | exact ih5 _ _
   | exact ih6 _ _ _ _
   | exact ih7 _ _ _ _
   | exact impl_AllGaps.mono _ _ _
   | exact impl_GapsOf.mono _ _ _
   | exact impl_SortedStep.mono _ _ _
   | exact impl_StepByGaps.mono _ _ _ _
   | exact impl_ValueOf.mono _ _ _
   | exact impl_WordOf.mono _ _ _ _
   | exact laws_qBack.mono _ _
   | exact laws_qLess.mono _ _ _
   | exact laws_qSame.mono _ _ _
   | exact laws_qSameRows.mono _ _ _
   | exact laws_qValue.mono _ _ _
   | exact spec_AllGaps.mono _ _ _
   | exact spec_DrawSortedStep.mono _ _
   | exact spec_DrawStepByGaps.mono _ _
   | exact spec_GapsOf.mono _ _ _
   | exact spec_SortedStep.mono _ _ _
   | exact spec_StepByGaps.mono _ _ _ _
   | exact spec_ValueOf.mono _ _ _
   | exact spec_WordOf.mono _ _ _ _
   | exact LeO.none _
   | refine LeO.ite ?_ ?_
   | refine LeO.bind ?_ (fun _ => ?_)
  ·intro y0 y1 y2 y3
   unfold laws_FnStepsByGaps.j1
   repeat' first
   | (with_reducible exact ih0 _ _ _ _ _ _ _ _ _)
   | (with_reducible exact ih1 _ _)
   | (with_reducible exact ih2 _ _ _ _ _ _)
   | (with_reducible exact ih3 _ _)
   | (with_reducible exact ih4 _ _)
   | (with_reducible exact ih5 _ _)
   | (with_reducible exact ih6 _ _ _ _)
   | (with_reducible exact ih7 _ _ _ _)
   | (with_reducible exact impl_AllGaps.mono _ _ _)
   | (with_reducible exact impl_GapsOf.mono _ _ _)
   | (with_reducible exact impl_SortedStep.mono _ _ _)
   | (with_reducible exact impl_StepByGaps.mono _ _ _ _)
   | (with_reducible exact impl_ValueOf.mono _ _ _)
   | (with_reducible exact impl_WordOf.mono _ _ _ _)
   | (with_reducible exact laws_qBack.mono _ _)
   | (with_reducible exact laws_qLess.mono _ _ _)
   | (with_reducible exact laws_qSame.mono _ _ _)
   | (with_reducible exact laws_qSameRows.mono _ _ _)
   | (with_reducible exact laws_qValue.mono _ _ _)
   | (with_reducible exact spec_AllGaps.mono _ _ _)
   | (with_reducible exact spec_DrawSortedStep.mono _ _)
   | (with_reducible exact spec_DrawStepByGaps.mono _ _)
   | (with_reducible exact spec_GapsOf.mono _ _ _)
   | (with_reducible exact spec_SortedStep.mono _ _ _)
   | (with_reducible exact spec_StepByGaps.mono _ _ _ _)
   | (with_reducible exact spec_ValueOf.mono _ _ _)
   | (with_reducible exact spec_WordOf.mono _ _ _ _)
   | (with_reducible exact LeO.refl _)
   | (with_reducible exact LeO.none _)
   | (with_reducible refine LeO.ite ?_ ?_)
   | (with_reducible refine LeO.bind ?_ (fun _ => ?_))
   | exact ih0 _ _ _ _ _ _ _ _ _
   | exact ih1 _ _
   | exact ih2 _ _ _ _ _ _
   | exact ih3 _ _
   | exact ih4 _ _
   | exact ih5 _ _
   | exact ih6 _ _ _ _
   | exact ih7 _ _ _ _
   | exact impl_AllGaps.mono _ _ _
   | exact impl_GapsOf.mono _ _ _
   | exact impl_SortedStep.mono _ _ _
   | exact impl_StepByGaps.mono _ _ _ _
   | exact impl_ValueOf.mono _ _ _
   | exact impl_WordOf.mono _ _ _ _
   | exact laws_qBack.mono _ _
   | exact laws_qLess.mono _ _ _
   | exact laws_qSame.mono _ _ _
   | exact laws_qSameRows.mono _ _ _
   | exact laws_qValue.mono _ _ _
   | exact spec_AllGaps.mono _ _ _
   | exact spec_DrawSortedStep.mono _ _
   | exact spec_DrawStepByGaps.mono _ _
   | exact spec_GapsOf.mono _ _ _
   | exact spec_SortedStep.mono _ _ _
   | exact spec_StepByGaps.mono _ _ _ _
   | exact spec_ValueOf.mono _ _ _
   | exact spec_WordOf.mono _ _ _ _
   | exact LeO.none _
   | refine LeO.ite ?_ ?_
   | refine LeO.bind ?_ (fun _ => ?_)
  ·intro y0 y1 y2 y3
   unfold laws_FnStepsByGaps.l0
   repeat' first
   | (with_reducible exact ih0 _ _ _ _ _ _ _ _ _)
   | (with_reducible exact ih1 _ _)
   | (with_reducible exact ih2 _ _ _ _ _ _)
   | (with_reducible exact ih3 _ _)
   | (with_reducible exact ih4 _ _)
   | (with_reducible exact ih5 _ _)
   | (with_reducible exact ih6 _ _ _ _)
   | (with_reducible exact ih7 _ _ _ _)
   | (with_reducible exact impl_AllGaps.mono _ _ _)
   | (with_reducible exact impl_GapsOf.mono _ _ _)
   | (with_reducible exact impl_SortedStep.mono _ _ _)
   | (with_reducible exact impl_StepByGaps.mono _ _ _ _)
   | (with_reducible exact impl_ValueOf.mono _ _ _)
   | (with_reducible exact impl_WordOf.mono _ _ _ _)
   | (with_reducible exact laws_qBack.mono _ _)
   | (with_reducible exact laws_qLess.mono _ _ _)
   | (with_reducible exact laws_qSame.mono _ _ _)
   | (with_reducible exact laws_qSameRows.mono _ _ _)
   | (with_reducible exact laws_qValue.mono _ _ _)
   | (with_reducible exact spec_AllGaps.mono _ _ _)
   | (with_reducible exact spec_DrawSortedStep.mono _ _)
   | (with_reducible exact spec_DrawStepByGaps.mono _ _)
   | (with_reducible exact spec_GapsOf.mono _ _ _)
   | (with_reducible exact spec_SortedStep.mono _ _ _)
   | (with_reducible exact spec_StepByGaps.mono _ _ _ _)
   | (with_reducible exact spec_ValueOf.mono _ _ _)
   | (with_reducible exact spec_WordOf.mono _ _ _ _)
   | (with_reducible exact LeO.refl _)
   | (with_reducible exact LeO.none _)
   | (with_reducible refine LeO.ite ?_ ?_)
   | (with_reducible refine LeO.bind ?_ (fun _ => ?_))
   | exact ih0 _ _ _ _ _ _ _ _ _
   | exact ih1 _ _
   | exact ih2 _ _ _ _ _ _
   | exact ih3 _ _
   | exact ih4 _ _
   | exact ih5 _ _
   | exact ih6 _ _ _ _
   | exact ih7 _ _ _ _
   | exact impl_AllGaps.mono _ _ _
   | exact impl_GapsOf.mono _ _ _
   | exact impl_SortedStep.mono _ _ _
   | exact impl_StepByGaps.mono _ _ _ _
   | exact impl_ValueOf.mono _ _ _
   | exact impl_WordOf.mono _ _ _ _
   | exact laws_qBack.mono _ _
   | exact laws_qLess.mono _ _ _
   | exact laws_qSame.mono _ _ _
   | exact laws_qSameRows.mono _ _ _
   | exact laws_qValue.mono _ _ _
   | exact spec_AllGaps.mono _ _ _
   | exact spec_DrawSortedStep.mono _ _
   | exact spec_DrawStepByGaps.mono _ _
   | exact spec_GapsOf.mono _ _ _
   | exact spec_SortedStep.mono _ _ _
   | exact spec_StepByGaps.mono _ _ _ _
   | exact spec_ValueOf.mono _ _ _
   | exact spec_WordOf.mono _ _ _ _
   | exact LeO.none _
   | refine LeO.ite ?_ ?_
   | refine LeO.bind ?_ (fun _ => ?_)
theorem laws_FnStepsByGaps.mono : ∀ a0 a1 k, LeO (laws_FnStepsByGaps.f k a0 a1) (laws_FnStepsByGaps.f (k + 1) a0 a1) := by
 intro a0 a1 k
 obtain ⟨ih0, ih1, ih2, ih3, ih4, ih5, ih6, ih7⟩ := laws_FnStepsByGaps.mono_l k
 unfold laws_FnStepsByGaps.f
 repeat' first
   | (with_reducible exact ih0 _ _ _ _ _ _ _ _ _)
   | (with_reducible exact ih1 _ _)
   | (with_reducible exact ih2 _ _ _ _ _ _)
   | (with_reducible exact ih3 _ _)
   | (with_reducible exact ih4 _ _)
   | (with_reducible exact ih5 _ _)
   | (with_reducible exact ih6 _ _ _ _)
   | (with_reducible exact ih7 _ _ _ _)
   | (with_reducible exact impl_AllGaps.mono _ _ _)
   | (with_reducible exact impl_GapsOf.mono _ _ _)
   | (with_reducible exact impl_SortedStep.mono _ _ _)
   | (with_reducible exact impl_StepByGaps.mono _ _ _ _)
   | (with_reducible exact impl_ValueOf.mono _ _ _)
   | (with_reducible exact impl_WordOf.mono _ _ _ _)
   | (with_reducible exact laws_qBack.mono _ _)
   | (with_reducible exact laws_qLess.mono _ _ _)
   | (with_reducible exact laws_qSame.mono _ _ _)
   | (with_reducible exact laws_qSameRows.mono _ _ _)
   | (with_reducible exact laws_qValue.mono _ _ _)
   | (with_reducible exact spec_AllGaps.mono _ _ _)
   | (with_reducible exact spec_DrawSortedStep.mono _ _)
   | (with_reducible exact spec_DrawStepByGaps.mono _ _)
   | (with_reducible exact spec_GapsOf.mono _ _ _)
   | (with_reducible exact spec_SortedStep.mono _ _ _)
   | (with_reducible exact spec_StepByGaps.mono _ _ _ _)
   | (with_reducible exact spec_ValueOf.mono _ _ _)
   | (with_reducible exact spec_WordOf.mono _ _ _ _)
   | (with_reducible exact LeO.refl _)
   | (with_reducible exact LeO.none _)
   | (with_reducible refine LeO.ite ?_ ?_)
   | (with_reducible refine LeO.bind ?_ (fun _ => ?_))
   | exact ih0 _ _ _ _ _ _ _ _ _
   | exact ih1 _ _
   | exact ih2 _ _ _ _ _ _
   | exact ih3 _ _
   | exact ih4 _ _
   | exact ih5 _ _
   | exact ih6 _ _ _ _
   | exact ih7 _ _ _ _
   | exact impl_AllGaps.mono _ _ _
   | exact impl_GapsOf.mono _ _ _
   | exact impl_SortedStep.mono _ _ _
   | exact impl_StepByGaps.mono _ _ _ _
   | exact impl_ValueOf.mono _ _ _
   | exact impl_WordOf.mono _ _ _ _
   | exact laws_qBack.mono _ _
   | exact laws_qLess.mono _ _ _
   | exact laws_qSame.mono _ _ _
   | exact laws_qSameRows.mono _ _ _
   | exact laws_qValue.mono _ _ _
   | exact spec_AllGaps.mono _ _ _
   | exact spec_DrawSortedStep.mono _ _
   | exact spec_DrawStepByGaps.mono _ _
   | exact spec_GapsOf.mono _ _ _
   | exact spec_SortedStep.mono _ _ _
   | exact spec_StepByGaps.mono _ _ _ _
   | exact spec_ValueOf.mono _ _ _
   | exact spec_WordOf.mono _ _ _ _
   | exact LeO.none _
   | refine LeO.ite ?_ ?_
   | refine LeO.bind ?_ (fun _ => ?_)
theorem laws_FnStepsByGaps.j0_no {r : Bool} (hr : r = true) (k : Nat) (x0 : List Int) (x1 : List Int) (x5 : List Int) (x6 : Int) (x7 : List Int) (x8 : Bool) (x11 : List Int) (x15 : Int) (h : laws_FnStepsByGaps.j0 k x0 x1 x5 x6 x7 x8 x11 x15 true = some r) : False := by
 subst hr
 cases k with
 | zero => simp [laws_FnStepsByGaps.j0] at h
 | succ k => simp [laws_FnStepsByGaps.j0] at h
theorem laws_FnStepsByGaps.j4_no {r : Bool} (hr : r = true) (k : Nat) (x0 : List Int) (x33 : Int) (x35 : Int) (x36 : List Int) (x37 : Bool) (h : laws_FnStepsByGaps.j4 k x0 x33 x35 x36 x37 true = some r) : False := by
 subst hr
 cases k with
 | zero => simp [laws_FnStepsByGaps.j4] at h
 | succ k => simp [laws_FnStepsByGaps.j4] at h
theorem laws_FnStepsByGaps.j5_no {r : Bool} (hr : r = true) (k : Nat) (x0 : List Int) (h : laws_FnStepsByGaps.j5 k x0 true = some r) : False := by
 subst hr
 cases k with
 | zero => simp [laws_FnStepsByGaps.j5] at h
 | succ k => simp [laws_FnStepsByGaps.j5] at h
theorem laws_FnStepsByGaps.j6_no {r : Bool} (hr : r = true) (k : Nat) (x42 : List (List Int)) (h : laws_FnStepsByGaps.j6 k x42 true = some r) : False := by
 subst hr
 cases k with
 | zero => simp [laws_FnStepsByGaps.j6] at h
 | succ k => simp [laws_FnStepsByGaps.j6] at h
theorem laws_FnStepsByGaps.j1_no {r : Bool} (hr : r = true) (k : Nat) (x0 : List Int) (x1 : List Int) (x11 : List Int) (h : laws_FnStepsByGaps.j1 k x0 x1 x11 true = some r) : False := by
 subst hr
 cases k with
 | zero => simp [laws_FnStepsByGaps.j1] at h
 | succ k => simp [laws_FnStepsByGaps.j1] at h
set_option maxHeartbeats 8000000 in
set_option maxRecDepth 100000 in
theorem laws_FnStepsByGaps.calls (k : Nat) (A0 : Option Addr) (c0 : Nat) (l0 : List Int) (A1 : Option Addr) (c1 : Nat) (l1 : List Int) (r : Bool) (w : World) (hr0 : Kd.C (Kd.int .u8) w A0 l0.length l0) (hc0 : l0.length ≤ c0) (hr1 : Kd.C (Kd.int .u8) w A1 l1.length l1) (hc1 : l1.length ≤ c1) (h : laws_FnStepsByGaps.f k l0 l1 = some r) (hr_ : r = true) :
  Calls Tryz.prog 3 #[.slice A0 l0.length c0, .slice A1 l1.length c1] w fun e w' => e = .returned (.bool r) ∧ Below w.heap.size w w' := by
 have HR0 := Aside0.mk hr0
 have HC0 := Aside0.mk hc0
 clear hr0 hc0
 have HR1 := Aside0.mk hr1
 have HC1 := Aside0.mk hc1
 clear hr1 hc1
 have HB := Aside0.mk (Below.refl w.heap.size w)
 have H : ((laws_big.f l0 l1).bind fun t472 => (if t472 = true then (some true) else ((spec_DrawSortedStep.f k l0).bind fun bt473 => ((impl_SortedStep.f k bt473.1 bt473.2).bind fun bt477 => ((spec_SortedStep.f k bt473.1 bt473.2).bind fun bt481 => ((impl_GapsOf.f k bt473.1 bt473.2).bind fun bt485 => ((spec_GapsOf.f k bt473.1 bt473.2).bind fun bt489 => ((impl_ValueOf.f k bt473.1 bt473.2).bind fun bt493 => ((spec_ValueOf.f k bt473.1 bt473.2).bind fun bt495 => (if (bt477.2 != bt481.2) = true then (laws_FnStepsByGaps.j0 k l0 l1 bt473.1 bt473.2 bt477.1 bt477.2 bt485.1 bt493.1 true) else ((laws_qSame.f k bt477.1 bt481.1).bind fun t497 => (if t497 = true then (if (bt485.2 != bt489.2) = true then (laws_FnStepsByGaps.j0 k l0 l1 bt473.1 bt473.2 bt477.1 bt477.2 bt485.1 bt493.1 true) else ((laws_qSame.f k bt485.1 bt489.1).bind fun t498 => (if t498 = true then (if (bt493.2 != bt495.2) = true then (laws_FnStepsByGaps.j0 k l0 l1 bt473.1 bt473.2 bt477.1 bt477.2 bt485.1 bt493.1 true) else (if bt493.1 = bt495.1 then (if (bt485.2 != bt477.2) = true then (laws_FnStepsByGaps.j0 k l0 l1 bt473.1 bt473.2 bt477.1 bt477.2 bt485.1 bt493.1 true) else (laws_FnStepsByGaps.j0 k l0 l1 bt473.1 bt473.2 bt477.1 bt477.2 bt485.1 bt493.1 (bt493.2 != bt477.2))) else (laws_FnStepsByGaps.j0 k l0 l1 bt473.1 bt473.2 bt477.1 bt477.2 bt485.1 bt493.1 true))) else (laws_FnStepsByGaps.j0 k l0 l1 bt473.1 bt473.2 bt477.1 bt477.2 bt485.1 bt493.1 true)))) else (laws_FnStepsByGaps.j0 k l0 l1 bt473.1 bt473.2 bt477.1 bt477.2 bt485.1 bt493.1 true))))))))))))) = some r := h
 clear h
 have HR_ := Aside0.mk hr_
 clear hr_
 replace H := Option.bind_eq_some_iff.mp H
 obtain ⟨t472, A30, H⟩ := H
 replace H : (if t472 = true then (some true) else ((spec_DrawSortedStep.f k l0).bind fun bt473 => ((impl_SortedStep.f k bt473.1 bt473.2).bind fun bt477 => ((spec_SortedStep.f k bt473.1 bt473.2).bind fun bt481 => ((impl_GapsOf.f k bt473.1 bt473.2).bind fun bt485 => ((spec_GapsOf.f k bt473.1 bt473.2).bind fun bt489 => ((impl_ValueOf.f k bt473.1 bt473.2).bind fun bt493 => ((spec_ValueOf.f k bt473.1 bt473.2).bind fun bt495 => (if (bt477.2 != bt481.2) = true then (laws_FnStepsByGaps.j0 k l0 l1 bt473.1 bt473.2 bt477.1 bt477.2 bt485.1 bt493.1 true) else ((laws_qSame.f k bt477.1 bt481.1).bind fun t497 => (if t497 = true then (if (bt485.2 != bt489.2) = true then (laws_FnStepsByGaps.j0 k l0 l1 bt473.1 bt473.2 bt477.1 bt477.2 bt485.1 bt493.1 true) else ((laws_qSame.f k bt485.1 bt489.1).bind fun t498 => (if t498 = true then (if (bt493.2 != bt495.2) = true then (laws_FnStepsByGaps.j0 k l0 l1 bt473.1 bt473.2 bt477.1 bt477.2 bt485.1 bt493.1 true) else (if bt493.1 = bt495.1 then (if (bt485.2 != bt477.2) = true then (laws_FnStepsByGaps.j0 k l0 l1 bt473.1 bt473.2 bt477.1 bt477.2 bt485.1 bt493.1 true) else (laws_FnStepsByGaps.j0 k l0 l1 bt473.1 bt473.2 bt477.1 bt477.2 bt485.1 bt493.1 (bt493.2 != bt477.2))) else (laws_FnStepsByGaps.j0 k l0 l1 bt473.1 bt473.2 bt477.1 bt477.2 bt485.1 bt493.1 true))) else (laws_FnStepsByGaps.j0 k l0 l1 bt473.1 bt473.2 bt477.1 bt477.2 bt485.1 bt493.1 true)))) else (laws_FnStepsByGaps.j0 k l0 l1 bt473.1 bt473.2 bt477.1 bt477.2 bt485.1 bt493.1 true)))))))))))) = some r := H
 have A3 := Aside0.mk A30
 clear A30
 by_cases c4 : t472 = true
 ·subst c4
  have H1 : (some true) = some r := by rw [if_pos rfl] at H; exact H
  clear H
  have H := H1
  clear H1
  as_aux_lemma =>
   obtain rfl := Option.some.inj H
   go_enter Tryz.func3, Tryz.ntmps3
   go_wp2_with (first | (go_at_call 4; (with_reducible refine (laws_big.calls _ _ l0 _ _ l1 true _ ?side1 ?side2 ?side3 ?side4 A3.out).mono ?_); (case side1 => repeat (first | exact HR0.out | (with_reducible refine Kd.C_alloc ?_ _) | (with_reducible refine Kd.C_drewN ?_ _) | (with_reducible refine Kd.C_drew ?_))); (case side2 => exact HC0.out); (case side3 => repeat (first | exact HR1.out | (with_reducible refine Kd.C_alloc ?_ _) | (with_reducible refine Kd.C_drewN ?_ _) | (with_reducible refine Kd.C_drew ?_))); (case side4 => exact HC1.out); rintro e w' ⟨rfl, ⟨nd, rfl⟩⟩; (try first | exact ⟨rfl, _, World.drewN_drewN _ _ _⟩ | exact ⟨rfl, _, Eq.trans (World.drewN_drewN _ _ _) (congrArg (World.drewN _) (Nat.add_assoc _ _ _))⟩)))
   repeat (go_quiet (first | (go_at_call 4; (with_reducible refine (laws_big.calls _ _ l0 _ _ l1 true _ ?side1 ?side2 ?side3 ?side4 A3.out).mono ?_); (case side1 => repeat (first | exact HR0.out | (with_reducible refine Kd.C_alloc ?_ _) | (with_reducible refine Kd.C_drewN ?_ _) | (with_reducible refine Kd.C_drew ?_))); (case side2 => exact HC0.out); (case side3 => repeat (first | exact HR1.out | (with_reducible refine Kd.C_alloc ?_ _) | (with_reducible refine Kd.C_drewN ?_ _) | (with_reducible refine Kd.C_drew ?_))); (case side4 => exact HC1.out); rintro e w' ⟨rfl, ⟨nd, rfl⟩⟩; (try first | exact ⟨rfl, _, World.drewN_drewN _ _ _⟩ | exact ⟨rfl, _, Eq.trans (World.drewN_drewN _ _ _) (congrArg (World.drewN _) (Nat.add_assoc _ _ _))⟩))); try go_wp2_with (first | (go_at_call 4; (with_reducible refine (laws_big.calls _ _ l0 _ _ l1 true _ ?side1 ?side2 ?side3 ?side4 A3.out).mono ?_); (case side1 => repeat (first | exact HR0.out | (with_reducible refine Kd.C_alloc ?_ _) | (with_reducible refine Kd.C_drewN ?_ _) | (with_reducible refine Kd.C_drew ?_))); (case side2 => exact HC0.out); (case side3 => repeat (first | exact HR1.out | (with_reducible refine Kd.C_alloc ?_ _) | (with_reducible refine Kd.C_drewN ?_ _) | (with_reducible refine Kd.C_drew ?_))); (case side4 => exact HC1.out); rintro e w' ⟨rfl, ⟨nd, rfl⟩⟩; (try first | exact ⟨rfl, _, World.drewN_drewN _ _ _⟩ | exact ⟨rfl, _, Eq.trans (World.drewN_drewN _ _ _) (congrArg (World.drewN _) (Nat.add_assoc _ _ _))⟩))))
   go_ret
   exact ⟨by first | rfl | (simp [errW_none, errW_some] <;> rfl) | (simp [*, errW_none, errW_some] <;> rfl), by repeat (first | (with_reducible first | exact HB.out | apply below_alloc | apply pw_below_drewN | apply below_drew1) | exact HB.out)⟩
 ·replace c4 := Bool.eq_false_iff.mpr c4
  subst c4
  have H1 : ((spec_DrawSortedStep.f k l0).bind fun bt473 => ((impl_SortedStep.f k bt473.1 bt473.2).bind fun bt477 => ((spec_SortedStep.f k bt473.1 bt473.2).bind fun bt481 => ((impl_GapsOf.f k bt473.1 bt473.2).bind fun bt485 => ((spec_GapsOf.f k bt473.1 bt473.2).bind fun bt489 => ((impl_ValueOf.f k bt473.1 bt473.2).bind fun bt493 => ((spec_ValueOf.f k bt473.1 bt473.2).bind fun bt495 => (if (bt477.2 != bt481.2) = true then (laws_FnStepsByGaps.j0 k l0 l1 bt473.1 bt473.2 bt477.1 bt477.2 bt485.1 bt493.1 true) else ((laws_qSame.f k bt477.1 bt481.1).bind fun t497 => (if t497 = true then (if (bt485.2 != bt489.2) = true then (laws_FnStepsByGaps.j0 k l0 l1 bt473.1 bt473.2 bt477.1 bt477.2 bt485.1 bt493.1 true) else ((laws_qSame.f k bt485.1 bt489.1).bind fun t498 => (if t498 = true then (if (bt493.2 != bt495.2) = true then (laws_FnStepsByGaps.j0 k l0 l1 bt473.1 bt473.2 bt477.1 bt477.2 bt485.1 bt493.1 true) else (if bt493.1 = bt495.1 then (if (bt485.2 != bt477.2) = true then (laws_FnStepsByGaps.j0 k l0 l1 bt473.1 bt473.2 bt477.1 bt477.2 bt485.1 bt493.1 true) else (laws_FnStepsByGaps.j0 k l0 l1 bt473.1 bt473.2 bt477.1 bt477.2 bt485.1 bt493.1 (bt493.2 != bt477.2))) else (laws_FnStepsByGaps.j0 k l0 l1 bt473.1 bt473.2 bt477.1 bt477.2 bt485.1 bt493.1 true))) else (laws_FnStepsByGaps.j0 k l0 l1 bt473.1 bt473.2 bt477.1 bt477.2 bt485.1 bt493.1 true)))) else (laws_FnStepsByGaps.j0 k l0 l1 bt473.1 bt473.2 bt477.1 bt477.2 bt485.1 bt493.1 true))))))))))) = some r := by rw [if_neg (show ¬ (false = true) by decide)] at H; exact H
  clear H
  have H := H1
  clear H1
  replace H := Option.bind_eq_some_iff.mp H
  obtain ⟨⟨t473, t474⟩, A50, H⟩ := H
  replace H : ((impl_SortedStep.f k t473 t474).bind fun bt477 => ((spec_SortedStep.f k t473 t474).bind fun bt481 => ((impl_GapsOf.f k t473 t474).bind fun bt485 => ((spec_GapsOf.f k t473 t474).bind fun bt489 => ((impl_ValueOf.f k t473 t474).bind fun bt493 => ((spec_ValueOf.f k t473 t474).bind fun bt495 => (if (bt477.2 != bt481.2) = true then (laws_FnStepsByGaps.j0 k l0 l1 t473 t474 bt477.1 bt477.2 bt485.1 bt493.1 true) else ((laws_qSame.f k bt477.1 bt481.1).bind fun t497 => (if t497 = true then (if (bt485.2 != bt489.2) = true then (laws_FnStepsByGaps.j0 k l0 l1 t473 t474 bt477.1 bt477.2 bt485.1 bt493.1 true) else ((laws_qSame.f k bt485.1 bt489.1).bind fun t498 => (if t498 = true then (if (bt493.2 != bt495.2) = true then (laws_FnStepsByGaps.j0 k l0 l1 t473 t474 bt477.1 bt477.2 bt485.1 bt493.1 true) else (if bt493.1 = bt495.1 then (if (bt485.2 != bt477.2) = true then (laws_FnStepsByGaps.j0 k l0 l1 t473 t474 bt477.1 bt477.2 bt485.1 bt493.1 true) else (laws_FnStepsByGaps.j0 k l0 l1 t473 t474 bt477.1 bt477.2 bt485.1 bt493.1 (bt493.2 != bt477.2))) else (laws_FnStepsByGaps.j0 k l0 l1 t473 t474 bt477.1 bt477.2 bt485.1 bt493.1 true))) else (laws_FnStepsByGaps.j0 k l0 l1 t473 t474 bt477.1 bt477.2 bt485.1 bt493.1 true)))) else (laws_FnStepsByGaps.j0 k l0 l1 t473 t474 bt477.1 bt477.2 bt485.1 bt493.1 true)))))))))) = some r := H
  have A5 := Aside0.mk A50
  clear A50
  replace H := Option.bind_eq_some_iff.mp H
  obtain ⟨⟨t477, t478⟩, A60, H⟩ := H
  replace H : ((spec_SortedStep.f k t473 t474).bind fun bt481 => ((impl_GapsOf.f k t473 t474).bind fun bt485 => ((spec_GapsOf.f k t473 t474).bind fun bt489 => ((impl_ValueOf.f k t473 t474).bind fun bt493 => ((spec_ValueOf.f k t473 t474).bind fun bt495 => (if (t478 != bt481.2) = true then (laws_FnStepsByGaps.j0 k l0 l1 t473 t474 t477 t478 bt485.1 bt493.1 true) else ((laws_qSame.f k t477 bt481.1).bind fun t497 => (if t497 = true then (if (bt485.2 != bt489.2) = true then (laws_FnStepsByGaps.j0 k l0 l1 t473 t474 t477 t478 bt485.1 bt493.1 true) else ((laws_qSame.f k bt485.1 bt489.1).bind fun t498 => (if t498 = true then (if (bt493.2 != bt495.2) = true then (laws_FnStepsByGaps.j0 k l0 l1 t473 t474 t477 t478 bt485.1 bt493.1 true) else (if bt493.1 = bt495.1 then (if (bt485.2 != t478) = true then (laws_FnStepsByGaps.j0 k l0 l1 t473 t474 t477 t478 bt485.1 bt493.1 true) else (laws_FnStepsByGaps.j0 k l0 l1 t473 t474 t477 t478 bt485.1 bt493.1 (bt493.2 != t478))) else (laws_FnStepsByGaps.j0 k l0 l1 t473 t474 t477 t478 bt485.1 bt493.1 true))) else (laws_FnStepsByGaps.j0 k l0 l1 t473 t474 t477 t478 bt485.1 bt493.1 true)))) else (laws_FnStepsByGaps.j0 k l0 l1 t473 t474 t477 t478 bt485.1 bt493.1 true))))))))) = some r := H
  have A6 := Aside0.mk A60
  clear A60
  replace H := Option.bind_eq_some_iff.mp H
  obtain ⟨⟨t481, t482⟩, A70, H⟩ := H
  replace H : ((impl_GapsOf.f k t473 t474).bind fun bt485 => ((spec_GapsOf.f k t473 t474).bind fun bt489 => ((impl_ValueOf.f k t473 t474).bind fun bt493 => ((spec_ValueOf.f k t473 t474).bind fun bt495 => (if (t478 != t482) = true then (laws_FnStepsByGaps.j0 k l0 l1 t473 t474 t477 t478 bt485.1 bt493.1 true) else ((laws_qSame.f k t477 t481).bind fun t497 => (if t497 = true then (if (bt485.2 != bt489.2) = true then (laws_FnStepsByGaps.j0 k l0 l1 t473 t474 t477 t478 bt485.1 bt493.1 true) else ((laws_qSame.f k bt485.1 bt489.1).bind fun t498 => (if t498 = true then (if (bt493.2 != bt495.2) = true then (laws_FnStepsByGaps.j0 k l0 l1 t473 t474 t477 t478 bt485.1 bt493.1 true) else (if bt493.1 = bt495.1 then (if (bt485.2 != t478) = true then (laws_FnStepsByGaps.j0 k l0 l1 t473 t474 t477 t478 bt485.1 bt493.1 true) else (laws_FnStepsByGaps.j0 k l0 l1 t473 t474 t477 t478 bt485.1 bt493.1 (bt493.2 != t478))) else (laws_FnStepsByGaps.j0 k l0 l1 t473 t474 t477 t478 bt485.1 bt493.1 true))) else (laws_FnStepsByGaps.j0 k l0 l1 t473 t474 t477 t478 bt485.1 bt493.1 true)))) else (laws_FnStepsByGaps.j0 k l0 l1 t473 t474 t477 t478 bt485.1 bt493.1 true)))))))) = some r := H
  have A7 := Aside0.mk A70
  clear A70
  replace H := Option.bind_eq_some_iff.mp H
  obtain ⟨⟨t485, t486⟩, A80, H⟩ := H
  replace H : ((spec_GapsOf.f k t473 t474).bind fun bt489 => ((impl_ValueOf.f k t473 t474).bind fun bt493 => ((spec_ValueOf.f k t473 t474).bind fun bt495 => (if (t478 != t482) = true then (laws_FnStepsByGaps.j0 k l0 l1 t473 t474 t477 t478 t485 bt493.1 true) else ((laws_qSame.f k t477 t481).bind fun t497 => (if t497 = true then (if (t486 != bt489.2) = true then (laws_FnStepsByGaps.j0 k l0 l1 t473 t474 t477 t478 t485 bt493.1 true) else ((laws_qSame.f k t485 bt489.1).bind fun t498 => (if t498 = true then (if (bt493.2 != bt495.2) = true then (laws_FnStepsByGaps.j0 k l0 l1 t473 t474 t477 t478 t485 bt493.1 true) else (if bt493.1 = bt495.1 then (if (t486 != t478) = true then (laws_FnStepsByGaps.j0 k l0 l1 t473 t474 t477 t478 t485 bt493.1 true) else (laws_FnStepsByGaps.j0 k l0 l1 t473 t474 t477 t478 t485 bt493.1 (bt493.2 != t478))) else (laws_FnStepsByGaps.j0 k l0 l1 t473 t474 t477 t478 t485 bt493.1 true))) else (laws_FnStepsByGaps.j0 k l0 l1 t473 t474 t477 t478 t485 bt493.1 true)))) else (laws_FnStepsByGaps.j0 k l0 l1 t473 t474 t477 t478 t485 bt493.1 true))))))) = some r := H
  have A8 := Aside0.mk A80
  clear A80
  replace H := Option.bind_eq_some_iff.mp H
  obtain ⟨⟨t489, t490⟩, A90, H⟩ := H
  replace H : ((impl_ValueOf.f k t473 t474).bind fun bt493 => ((spec_ValueOf.f k t473 t474).bind fun bt495 => (if (t478 != t482) = true then (laws_FnStepsByGaps.j0 k l0 l1 t473 t474 t477 t478 t485 bt493.1 true) else ((laws_qSame.f k t477 t481).bind fun t497 => (if t497 = true then (if (t486 != t490) = true then (laws_FnStepsByGaps.j0 k l0 l1 t473 t474 t477 t478 t485 bt493.1 true) else ((laws_qSame.f k t485 t489).bind fun t498 => (if t498 = true then (if (bt493.2 != bt495.2) = true then (laws_FnStepsByGaps.j0 k l0 l1 t473 t474 t477 t478 t485 bt493.1 true) else (if bt493.1 = bt495.1 then (if (t486 != t478) = true then (laws_FnStepsByGaps.j0 k l0 l1 t473 t474 t477 t478 t485 bt493.1 true) else (laws_FnStepsByGaps.j0 k l0 l1 t473 t474 t477 t478 t485 bt493.1 (bt493.2 != t478))) else (laws_FnStepsByGaps.j0 k l0 l1 t473 t474 t477 t478 t485 bt493.1 true))) else (laws_FnStepsByGaps.j0 k l0 l1 t473 t474 t477 t478 t485 bt493.1 true)))) else (laws_FnStepsByGaps.j0 k l0 l1 t473 t474 t477 t478 t485 bt493.1 true)))))) = some r := H
  have A9 := Aside0.mk A90
  clear A90
  replace H := Option.bind_eq_some_iff.mp H
  obtain ⟨⟨t493, t494⟩, A100, H⟩ := H
  replace H : ((spec_ValueOf.f k t473 t474).bind fun bt495 => (if (t478 != t482) = true then (laws_FnStepsByGaps.j0 k l0 l1 t473 t474 t477 t478 t485 t493 true) else ((laws_qSame.f k t477 t481).bind fun t497 => (if t497 = true then (if (t486 != t490) = true then (laws_FnStepsByGaps.j0 k l0 l1 t473 t474 t477 t478 t485 t493 true) else ((laws_qSame.f k t485 t489).bind fun t498 => (if t498 = true then (if (t494 != bt495.2) = true then (laws_FnStepsByGaps.j0 k l0 l1 t473 t474 t477 t478 t485 t493 true) else (if t493 = bt495.1 then (if (t486 != t478) = true then (laws_FnStepsByGaps.j0 k l0 l1 t473 t474 t477 t478 t485 t493 true) else (laws_FnStepsByGaps.j0 k l0 l1 t473 t474 t477 t478 t485 t493 (t494 != t478))) else (laws_FnStepsByGaps.j0 k l0 l1 t473 t474 t477 t478 t485 t493 true))) else (laws_FnStepsByGaps.j0 k l0 l1 t473 t474 t477 t478 t485 t493 true)))) else (laws_FnStepsByGaps.j0 k l0 l1 t473 t474 t477 t478 t485 t493 true))))) = some r := H
  have A10 := Aside0.mk A100
  clear A100
  replace H := Option.bind_eq_some_iff.mp H
  obtain ⟨⟨t495, t496⟩, A110, H⟩ := H
  replace H : (if (t478 != t482) = true then (laws_FnStepsByGaps.j0 k l0 l1 t473 t474 t477 t478 t485 t493 true) else ((laws_qSame.f k t477 t481).bind fun t497 => (if t497 = true then (if (t486 != t490) = true then (laws_FnStepsByGaps.j0 k l0 l1 t473 t474 t477 t478 t485 t493 true) else ((laws_qSame.f k t485 t489).bind fun t498 => (if t498 = true then (if (t494 != t496) = true then (laws_FnStepsByGaps.j0 k l0 l1 t473 t474 t477 t478 t485 t493 true) else (if t493 = t495 then (if (t486 != t478) = true then (laws_FnStepsByGaps.j0 k l0 l1 t473 t474 t477 t478 t485 t493 true) else (laws_FnStepsByGaps.j0 k l0 l1 t473 t474 t477 t478 t485 t493 (t494 != t478))) else (laws_FnStepsByGaps.j0 k l0 l1 t473 t474 t477 t478 t485 t493 true))) else (laws_FnStepsByGaps.j0 k l0 l1 t473 t474 t477 t478 t485 t493 true)))) else (laws_FnStepsByGaps.j0 k l0 l1 t473 t474 t477 t478 t485 t493 true)))) = some r := H
  have A11 := Aside0.mk A110
  clear A110
  have HC12 := Aside0.mk H
  clear H
  go_enter Tryz.func3, Tryz.ntmps3
  go_upto_region 10 with (first | (go_at_call 4; (with_reducible refine (laws_big.calls _ _ l0 _ _ l1 false _ ?side1 ?side2 ?side3 ?side4 A3.out).mono ?_); (case side1 => repeat (first | exact HR0.out | (with_reducible refine Kd.C_alloc ?_ _) | (with_reducible refine Kd.C_drewN ?_ _) | (with_reducible refine Kd.C_drew ?_))); (case side2 => exact HC0.out); (case side3 => repeat (first | exact HR1.out | (with_reducible refine Kd.C_alloc ?_ _) | (with_reducible refine Kd.C_drewN ?_ _) | (with_reducible refine Kd.C_drew ?_))); (case side4 => exact HC1.out); rintro e w' ⟨rfl, ⟨nd, rfl⟩⟩; (try first | exact ⟨rfl, _, World.drewN_drewN _ _ _⟩ | exact ⟨rfl, _, Eq.trans (World.drewN_drewN _ _ _) (congrArg (World.drewN _) (Nat.add_assoc _ _ _))⟩)) | (go_at_call 5; (with_reducible refine (spec_DrawSortedStep.calls k _ _ l0 t473 t474 _ ?side1 ?side2 A5.out).mono ?_); (case side1 => repeat (first | exact HR0.out | (with_reducible refine Kd.C_alloc ?_ _) | (with_reducible refine Kd.C_drewN ?_ _) | (with_reducible refine Kd.C_drew ?_))); (case side2 => exact HC0.out); rintro e w13 ⟨v475, rfl, ho0, hb⟩; have n0_ := Aside0.mk (Kd.R_lower ho0 (below_size (by repeat (first | (with_reducible first | exact HB.out | apply below_alloc | apply pw_below_drewN | apply below_drew1) | exact HB.out)))); have n1_ := Aside0.mk (below_step (by repeat (first | (with_reducible first | exact HB.out | apply below_alloc | apply pw_below_drewN | apply below_drew1) | exact HB.out)) hb); clear HB; have HO476 := n0_; have HB := n1_; clear n0_ n1_; (try clear hb); (try clear hb2); (try clear hk); (try clear hi); (try clear ho0); obtain ⟨Ao14, co14, eo14⟩ := Kd.R_slice HO476.out; subst eo14) | (go_at_call 6; (with_reducible refine (impl_SortedStep.calls k _ _ t473 t474 t477 t478 _ ?side1 ?side2 A6.out).mono ?_); (case side1 => repeat (first | exact (Kd.R_reads' HO476.out).2.2 | (with_reducible refine Kd.C_alloc ?_ _) | (with_reducible refine Kd.C_drewN ?_ _) | (with_reducible refine Kd.C_drew ?_))); (case side2 => exact (Kd.R_reads' HO476.out).2.1); rintro e w15 ⟨v479, rfl, ho0, hb⟩; have n0_ := Aside0.mk (Kd.R_elder' (by (with_reducible repeat (first | apply Kd.R_alloc | apply Kd.R_drewN | apply Kd.R_drew)); exact HO476.out) (Kd.R_base ho0) hb); have n1_ := Aside0.mk (Kd.R_lower (Kd.R_new' ho0 (Kd.R_lt (by (with_reducible repeat (first | apply Kd.R_alloc | apply Kd.R_drewN | apply Kd.R_drew)); exact HO476.out))) (below_size (by repeat (first | (with_reducible first | exact HB.out | apply below_alloc | apply pw_below_drewN | apply below_drew1) | exact HB.out)))); have n2_ := Aside0.mk (below_step (by repeat (first | (with_reducible first | exact HB.out | apply below_alloc | apply pw_below_drewN | apply below_drew1) | exact HB.out)) hb); clear HO476; clear HB; have HO476 := n0_; have HO480 := n1_; have HB := n2_; clear n0_ n1_ n2_; (try clear hb); (try clear hb2); (try clear hk); (try clear hi); (try clear ho0)) | (go_at_call 7; (with_reducible refine (spec_SortedStep.calls k _ _ t473 t474 t481 t482 _ ?side1 ?side2 A7.out).mono ?_); (case side1 => repeat (first | exact (Kd.R_reads' HO476.out).2.2 | (with_reducible refine Kd.C_alloc ?_ _) | (with_reducible refine Kd.C_drewN ?_ _) | (with_reducible refine Kd.C_drew ?_))); (case side2 => exact (Kd.R_reads' HO476.out).2.1); rintro e w16 ⟨v483, rfl, ho0, hb⟩; have n0_ := Aside0.mk (Kd.R_elder' (by (with_reducible repeat (first | apply Kd.R_alloc | apply Kd.R_drewN | apply Kd.R_drew)); exact HO476.out) (Kd.R_base ho0) hb); have n1_ := Aside0.mk (Kd.R_elder' (by (with_reducible repeat (first | apply Kd.R_alloc | apply Kd.R_drewN | apply Kd.R_drew)); exact HO480.out) (Kd.R_base ho0) hb); have n2_ := Aside0.mk (Kd.R_lower (Kd.R_new' (Kd.R_new' ho0 (Kd.R_lt (by (with_reducible repeat (first | apply Kd.R_alloc | apply Kd.R_drewN | apply Kd.R_drew)); exact HO476.out))) (Kd.R_lt (by (with_reducible repeat (first | apply Kd.R_alloc | apply Kd.R_drewN | apply Kd.R_drew)); exact HO480.out))) (below_size (by repeat (first | (with_reducible first | exact HB.out | apply below_alloc | apply pw_below_drewN | apply below_drew1) | exact HB.out)))); have n3_ := Aside0.mk (below_step (by repeat (first | (with_reducible first | exact HB.out | apply below_alloc | apply pw_below_drewN | apply below_drew1) | exact HB.out)) hb); clear HO476; clear HO480; clear HB; have HO476 := n0_; have HO480 := n1_; have HO484 := n2_; have HB := n3_; clear n0_ n1_ n2_ n3_; (try clear hb); (try clear hb2); (try clear hk); (try clear hi); (try clear ho0)) | (go_at_call 8; (with_reducible refine (impl_GapsOf.calls k _ _ t473 t474 t485 t486 _ ?side1 ?side2 A8.out).mono ?_); (case side1 => repeat (first | exact (Kd.R_reads' HO476.out).2.2 | (with_reducible refine Kd.C_alloc ?_ _) | (with_reducible refine Kd.C_drewN ?_ _) | (with_reducible refine Kd.C_drew ?_))); (case side2 => exact (Kd.R_reads' HO476.out).2.1); rintro e w17 ⟨v487, rfl, ho0, hb⟩; have n0_ := Aside0.mk (Kd.R_elder' (by (with_reducible repeat (first | apply Kd.R_alloc | apply Kd.R_drewN | apply Kd.R_drew)); exact HO476.out) (Kd.R_base ho0) hb); have n1_ := Aside0.mk (Kd.R_elder' (by (with_reducible repeat (first | apply Kd.R_alloc | apply Kd.R_drewN | apply Kd.R_drew)); exact HO480.out) (Kd.R_base ho0) hb); have n2_ := Aside0.mk (Kd.R_elder' (by (with_reducible repeat (first | apply Kd.R_alloc | apply Kd.R_drewN | apply Kd.R_drew)); exact HO484.out) (Kd.R_base ho0) hb); have n3_ := Aside0.mk (Kd.R_lower (Kd.R_new' (Kd.R_new' (Kd.R_new' ho0 (Kd.R_lt (by (with_reducible repeat (first | apply Kd.R_alloc | apply Kd.R_drewN | apply Kd.R_drew)); exact HO476.out))) (Kd.R_lt (by (with_reducible repeat (first | apply Kd.R_alloc | apply Kd.R_drewN | apply Kd.R_drew)); exact HO480.out))) (Kd.R_lt (by (with_reducible repeat (first | apply Kd.R_alloc | apply Kd.R_drewN | apply Kd.R_drew)); exact HO484.out))) (below_size (by repeat (first | (with_reducible first | exact HB.out | apply below_alloc | apply pw_below_drewN | apply below_drew1) | exact HB.out)))); have n4_ := Aside0.mk (below_step (by repeat (first | (with_reducible first | exact HB.out | apply below_alloc | apply pw_below_drewN | apply below_drew1) | exact HB.out)) hb); clear HO476; clear HO480; clear HO484; clear HB; have HO476 := n0_; have HO480 := n1_; have HO484 := n2_; have HO488 := n3_; have HB := n4_; clear n0_ n1_ n2_ n3_ n4_; (try clear hb); (try clear hb2); (try clear hk); (try clear hi); (try clear ho0)) | (go_at_call 9; (with_reducible refine (spec_GapsOf.calls k _ _ t473 t474 t489 t490 _ ?side1 ?side2 A9.out).mono ?_); (case side1 => repeat (first | exact (Kd.R_reads' HO476.out).2.2 | (with_reducible refine Kd.C_alloc ?_ _) | (with_reducible refine Kd.C_drewN ?_ _) | (with_reducible refine Kd.C_drew ?_))); (case side2 => exact (Kd.R_reads' HO476.out).2.1); rintro e w18 ⟨v491, rfl, ho0, hb⟩; have n0_ := Aside0.mk (Kd.R_elder' (by (with_reducible repeat (first | apply Kd.R_alloc | apply Kd.R_drewN | apply Kd.R_drew)); exact HO476.out) (Kd.R_base ho0) hb); have n1_ := Aside0.mk (Kd.R_elder' (by (with_reducible repeat (first | apply Kd.R_alloc | apply Kd.R_drewN | apply Kd.R_drew)); exact HO480.out) (Kd.R_base ho0) hb); have n2_ := Aside0.mk (Kd.R_elder' (by (with_reducible repeat (first | apply Kd.R_alloc | apply Kd.R_drewN | apply Kd.R_drew)); exact HO484.out) (Kd.R_base ho0) hb); have n3_ := Aside0.mk (Kd.R_elder' (by (with_reducible repeat (first | apply Kd.R_alloc | apply Kd.R_drewN | apply Kd.R_drew)); exact HO488.out) (Kd.R_base ho0) hb); have n4_ := Aside0.mk (Kd.R_lower (Kd.R_new' (Kd.R_new' (Kd.R_new' (Kd.R_new' ho0 (Kd.R_lt (by (with_reducible repeat (first | apply Kd.R_alloc | apply Kd.R_drewN | apply Kd.R_drew)); exact HO476.out))) (Kd.R_lt (by (with_reducible repeat (first | apply Kd.R_alloc | apply Kd.R_drewN | apply Kd.R_drew)); exact HO480.out))) (Kd.R_lt (by (with_reducible repeat (first | apply Kd.R_alloc | apply Kd.R_drewN | apply Kd.R_drew)); exact HO484.out))) (Kd.R_lt (by (with_reducible repeat (first | apply Kd.R_alloc | apply Kd.R_drewN | apply Kd.R_drew)); exact HO488.out))) (below_size (by repeat (first | (with_reducible first | exact HB.out | apply below_alloc | apply pw_below_drewN | apply below_drew1) | exact HB.out)))); have n5_ := Aside0.mk (below_step (by repeat (first | (with_reducible first | exact HB.out | apply below_alloc | apply pw_below_drewN | apply below_drew1) | exact HB.out)) hb); clear HO476; clear HO480; clear HO484; clear HO488; clear HB; have HO476 := n0_; have HO480 := n1_; have HO484 := n2_; have HO488 := n3_; have HO492 := n4_; have HB := n5_; clear n0_ n1_ n2_ n3_ n4_ n5_; (try clear hb); (try clear hb2); (try clear hk); (try clear hi); (try clear ho0)) | (go_at_call 10; (with_reducible refine (impl_ValueOf.calls k _ _ t473 t474 t493 t494 _ ?side1 ?side2 A10.out).mono ?_); (case side1 => repeat (first | exact (Kd.R_reads' HO476.out).2.2 | (with_reducible refine Kd.C_alloc ?_ _) | (with_reducible refine Kd.C_drewN ?_ _) | (with_reducible refine Kd.C_drew ?_))); (case side2 => exact (Kd.R_reads' HO476.out).2.1); rintro e w19 ⟨rfl, hb⟩; have n0_ := Aside0.mk (Kd.R_below (by (with_reducible repeat (first | apply Kd.R_alloc | apply Kd.R_drewN | apply Kd.R_drew)); exact HO476.out) hb); have n1_ := Aside0.mk (Kd.R_below (by (with_reducible repeat (first | apply Kd.R_alloc | apply Kd.R_drewN | apply Kd.R_drew)); exact HO480.out) hb); have n2_ := Aside0.mk (Kd.R_below (by (with_reducible repeat (first | apply Kd.R_alloc | apply Kd.R_drewN | apply Kd.R_drew)); exact HO484.out) hb); have n3_ := Aside0.mk (Kd.R_below (by (with_reducible repeat (first | apply Kd.R_alloc | apply Kd.R_drewN | apply Kd.R_drew)); exact HO488.out) hb); have n4_ := Aside0.mk (Kd.R_below (by (with_reducible repeat (first | apply Kd.R_alloc | apply Kd.R_drewN | apply Kd.R_drew)); exact HO492.out) hb); have n5_ := Aside0.mk (below_step (by repeat (first | (with_reducible first | exact HB.out | apply below_alloc | apply pw_below_drewN | apply below_drew1) | exact HB.out)) hb); clear HO476; clear HO480; clear HO484; clear HO488; clear HO492; clear HB; have HO476 := n0_; have HO480 := n1_; have HO484 := n2_; have HO488 := n3_; have HO492 := n4_; have HB := n5_; clear n0_ n1_ n2_ n3_ n4_ n5_; (try clear hb); (try clear hb2); (try clear hk); (try clear hi)) | (go_at_call 11; (with_reducible refine (spec_ValueOf.calls k _ _ t473 t474 t495 t496 _ ?side1 ?side2 A11.out).mono ?_); (case side1 => repeat (first | exact (Kd.R_reads' HO476.out).2.2 | (with_reducible refine Kd.C_alloc ?_ _) | (with_reducible refine Kd.C_drewN ?_ _) | (with_reducible refine Kd.C_drew ?_))); (case side2 => exact (Kd.R_reads' HO476.out).2.1); rintro e w' ⟨rfl, ⟨nd, rfl⟩⟩; (try first | exact ⟨rfl, _, World.drewN_drewN _ _ _⟩ | exact ⟨rfl, _, Eq.trans (World.drewN_drewN _ _ _) (congrArg (World.drewN _) (Nat.add_assoc _ _ _))⟩)))
  repeat (go_quiet (first | (go_at_call 4; (with_reducible refine (laws_big.calls _ _ l0 _ _ l1 false _ ?side1 ?side2 ?side3 ?side4 A3.out).mono ?_); (case side1 => repeat (first | exact HR0.out | (with_reducible refine Kd.C_alloc ?_ _) | (with_reducible refine Kd.C_drewN ?_ _) | (with_reducible refine Kd.C_drew ?_))); (case side2 => exact HC0.out); (case side3 => repeat (first | exact HR1.out | (with_reducible refine Kd.C_alloc ?_ _) | (with_reducible refine Kd.C_drewN ?_ _) | (with_reducible refine Kd.C_drew ?_))); (case side4 => exact HC1.out); rintro e w' ⟨rfl, ⟨nd, rfl⟩⟩; (try first | exact ⟨rfl, _, World.drewN_drewN _ _ _⟩ | exact ⟨rfl, _, Eq.trans (World.drewN_drewN _ _ _) (congrArg (World.drewN _) (Nat.add_assoc _ _ _))⟩)) | (go_at_call 5; (with_reducible refine (spec_DrawSortedStep.calls k _ _ l0 t473 t474 _ ?side1 ?side2 A5.out).mono ?_); (case side1 => repeat (first | exact HR0.out | (with_reducible refine Kd.C_alloc ?_ _) | (with_reducible refine Kd.C_drewN ?_ _) | (with_reducible refine Kd.C_drew ?_))); (case side2 => exact HC0.out); rintro e w13 ⟨v475, rfl, ho0, hb⟩; have n0_ := Aside0.mk (Kd.R_lower ho0 (below_size (by repeat (first | (with_reducible first | exact HB.out | apply below_alloc | apply pw_below_drewN | apply below_drew1) | exact HB.out)))); have n1_ := Aside0.mk (below_step (by repeat (first | (with_reducible first | exact HB.out | apply below_alloc | apply pw_below_drewN | apply below_drew1) | exact HB.out)) hb); clear HB; have HO476 := n0_; have HB := n1_; clear n0_ n1_; (try clear hb); (try clear hb2); (try clear hk); (try clear hi); (try clear ho0); obtain ⟨Ao14, co14, eo14⟩ := Kd.R_slice HO476.out; subst eo14) | (go_at_call 6; (with_reducible refine (impl_SortedStep.calls k _ _ t473 t474 t477 t478 _ ?side1 ?side2 A6.out).mono ?_); (case side1 => repeat (first | exact (Kd.R_reads' HO476.out).2.2 | (with_reducible refine Kd.C_alloc ?_ _) | (with_reducible refine Kd.C_drewN ?_ _) | (with_reducible refine Kd.C_drew ?_))); (case side2 => exact (Kd.R_reads' HO476.out).2.1); rintro e w15 ⟨v479, rfl, ho0, hb⟩; have n0_ := Aside0.mk (Kd.R_elder' (by (with_reducible repeat (first | apply Kd.R_alloc | apply Kd.R_drewN | apply Kd.R_drew)); exact HO476.out) (Kd.R_base ho0) hb); have n1_ := Aside0.mk (Kd.R_lower (Kd.R_new' ho0 (Kd.R_lt (by (with_reducible repeat (first | apply Kd.R_alloc | apply Kd.R_drewN | apply Kd.R_drew)); exact HO476.out))) (below_size (by repeat (first | (with_reducible first | exact HB.out | apply below_alloc | apply pw_below_drewN | apply below_drew1) | exact HB.out)))); have n2_ := Aside0.mk (below_step (by repeat (first | (with_reducible first | exact HB.out | apply below_alloc | apply pw_below_drewN | apply below_drew1) | exact HB.out)) hb); clear HO476; clear HB; have HO476 := n0_; have HO480 := n1_; have HB := n2_; clear n0_ n1_ n2_; (try clear hb); (try clear hb2); (try clear hk); (try clear hi); (try clear ho0)) | (go_at_call 7; (with_reducible refine (spec_SortedStep.calls k _ _ t473 t474 t481 t482 _ ?side1 ?side2 A7.out).mono ?_); (case side1 => repeat (first | exact (Kd.R_reads' HO476.out).2.2 | (with_reducible refine Kd.C_alloc ?_ _) | (with_reducible refine Kd.C_drewN ?_ _) | (with_reducible refine Kd.C_drew ?_))); (case side2 => exact (Kd.R_reads' HO476.out).2.1); rintro e w16 ⟨v483, rfl, ho0, hb⟩; have n0_ := Aside0.mk (Kd.R_elder' (by (with_reducible repeat (first | apply Kd.R_alloc | apply Kd.R_drewN | apply Kd.R_drew)); exact HO476.out) (Kd.R_base ho0) hb); have n1_ := Aside0.mk (Kd.R_elder' (by (with_reducible repeat (first | apply Kd.R_alloc | apply Kd.R_drewN | apply Kd.R_drew)); exact HO480.out) (Kd.R_base ho0) hb); have n2_ := Aside0.mk (Kd.R_lower (Kd.R_new' (Kd.R_new' ho0 (Kd.R_lt (by (with_reducible repeat (first | apply Kd.R_alloc | apply Kd.R_drewN | apply Kd.R_drew)); exact HO476.out))) (Kd.R_lt (by (with_reducible repeat (first | apply Kd.R_alloc | apply Kd.R_drewN | apply Kd.R_drew)); exact HO480.out))) (below_size (by repeat (first | (with_reducible first | exact HB.out | apply below_alloc | apply pw_below_drewN | apply below_drew1) | exact HB.out)))); have n3_ := Aside0.mk (below_step (by repeat (first | (with_reducible first | exact HB.out | apply below_alloc | apply pw_below_drewN | apply below_drew1) | exact HB.out)) hb); clear HO476; clear HO480; clear HB; have HO476 := n0_; have HO480 := n1_; have HO484 := n2_; have HB := n3_; clear n0_ n1_ n2_ n3_; (try clear hb); (try clear hb2); (try clear hk); (try clear hi); (try clear ho0)) | (go_at_call 8; (with_reducible refine (impl_GapsOf.calls k _ _ t473 t474 t485 t486 _ ?side1 ?side2 A8.out).mono ?_); (case side1 => repeat (first | exact (Kd.R_reads' HO476.out).2.2 | (with_reducible refine Kd.C_alloc ?_ _) | (with_reducible refine Kd.C_drewN ?_ _) | (with_reducible refine Kd.C_drew ?_))); (case side2 => exact (Kd.R_reads' HO476.out).2.1); rintro e w17 ⟨v487, rfl, ho0, hb⟩; have n0_ := Aside0.mk (Kd.R_elder' (by (with_reducible repeat (first | apply Kd.R_alloc | apply Kd.R_drewN | apply Kd.R_drew)); exact HO476.out) (Kd.R_base ho0) hb); have n1_ := Aside0.mk (Kd.R_elder' (by (with_reducible repeat (first | apply Kd.R_alloc | apply Kd.R_drewN | apply Kd.R_drew)); exact HO480.out) (Kd.R_base ho0) hb); have n2_ := Aside0.mk (Kd.R_elder' (by (with_reducible repeat (first | apply Kd.R_alloc | apply Kd.R_drewN | apply Kd.R_drew)); exact HO484.out) (Kd.R_base ho0) hb); have n3_ := Aside0.mk (Kd.R_lower (Kd.R_new' (Kd.R_new' (Kd.R_new' ho0 (Kd.R_lt (by (with_reducible repeat (first | apply Kd.R_alloc | apply Kd.R_drewN | apply Kd.R_drew)); exact HO476.out))) (Kd.R_lt (by (with_reducible repeat (first | apply Kd.R_alloc | apply Kd.R_drewN | apply Kd.R_drew)); exact HO480.out))) (Kd.R_lt (by (with_reducible repeat (first | apply Kd.R_alloc | apply Kd.R_drewN | apply Kd.R_drew)); exact HO484.out))) (below_size (by repeat (first | (with_reducible first | exact HB.out | apply below_alloc | apply pw_below_drewN | apply below_drew1) | exact HB.out)))); have n4_ := Aside0.mk (below_step (by repeat (first | (with_reducible first | exact HB.out | apply below_alloc | apply pw_below_drewN | apply below_drew1) | exact HB.out)) hb); clear HO476; clear HO480; clear HO484; clear HB; have HO476 := n0_; have HO480 := n1_; have HO484 := n2_; have HO488 := n3_; have HB := n4_; clear n0_ n1_ n2_ n3_ n4_; (try clear hb); (try clear hb2); (try clear hk); (try clear hi); (try clear ho0)) | (go_at_call 9; (with_reducible refine (spec_GapsOf.calls k _ _ t473 t474 t489 t490 _ ?side1 ?side2 A9.out).mono ?_); (case side1 => repeat (first | exact (Kd.R_reads' HO476.out).2.2 | (with_reducible refine Kd.C_alloc ?_ _) | (with_reducible refine Kd.C_drewN ?_ _) | (with_reducible refine Kd.C_drew ?_))); (case side2 => exact (Kd.R_reads' HO476.out).2.1); rintro e w18 ⟨v491, rfl, ho0, hb⟩; have n0_ := Aside0.mk (Kd.R_elder' (by (with_reducible repeat (first | apply Kd.R_alloc | apply Kd.R_drewN | apply Kd.R_drew)); exact HO476.out) (Kd.R_base ho0) hb); have n1_ := Aside0.mk (Kd.R_elder' (by (with_reducible repeat (first | apply Kd.R_alloc | apply Kd.R_drewN | apply Kd.R_drew)); exact HO480.out) (Kd.R_base ho0) hb); have n2_ := Aside0.mk (Kd.R_elder' (by (with_reducible repeat (first | apply Kd.R_alloc | apply Kd.R_drewN | apply Kd.R_drew)); exact HO484.out) (Kd.R_base ho0) hb); have n3_ := Aside0.mk (Kd.R_elder' (by (with_reducible repeat (first | apply Kd.R_alloc | apply Kd.R_drewN | apply Kd.R_drew)); exact HO488.out) (Kd.R_base ho0) hb); have n4_ := Aside0.mk (Kd.R_lower (Kd.R_new' (Kd.R_new' (Kd.R_new' (Kd.R_new' ho0 (Kd.R_lt (by (with_reducible repeat (first | apply Kd.R_alloc | apply Kd.R_drewN | apply Kd.R_drew)); exact HO476.out))) (Kd.R_lt (by (with_reducible repeat (first | apply Kd.R_alloc | apply Kd.R_drewN | apply Kd.R_drew)); exact HO480.out))) (Kd.R_lt (by (with_reducible repeat (first | apply Kd.R_alloc | apply Kd.R_drewN | apply Kd.R_drew)); exact HO484.out))) (Kd.R_lt (by (with_reducible repeat (first | apply Kd.R_alloc | apply Kd.R_drewN | apply Kd.R_drew)); exact HO488.out))) (below_size (by repeat (first | (with_reducible first | exact HB.out | apply below_alloc | apply pw_below_drewN | apply below_drew1) | exact HB.out)))); have n5_ := Aside0.mk (below_step (by repeat (first | (with_reducible first | exact HB.out | apply below_alloc | apply pw_below_drewN | apply below_drew1) | exact HB.out)) hb); clear HO476; clear HO480; clear HO484; clear HO488; clear HB; have HO476 := n0_; have HO480 := n1_; have HO484 := n2_; have HO488 := n3_; have HO492 := n4_; have HB := n5_; clear n0_ n1_ n2_ n3_ n4_ n5_; (try clear hb); (try clear hb2); (try clear hk); (try clear hi); (try clear ho0)) | (go_at_call 10; (with_reducible refine (impl_ValueOf.calls k _ _ t473 t474 t493 t494 _ ?side1 ?side2 A10.out).mono ?_); (case side1 => repeat (first | exact (Kd.R_reads' HO476.out).2.2 | (with_reducible refine Kd.C_alloc ?_ _) | (with_reducible refine Kd.C_drewN ?_ _) | (with_reducible refine Kd.C_drew ?_))); (case side2 => exact (Kd.R_reads' HO476.out).2.1); rintro e w19 ⟨rfl, hb⟩; have n0_ := Aside0.mk (Kd.R_below (by (with_reducible repeat (first | apply Kd.R_alloc | apply Kd.R_drewN | apply Kd.R_drew)); exact HO476.out) hb); have n1_ := Aside0.mk (Kd.R_below (by (with_reducible repeat (first | apply Kd.R_alloc | apply Kd.R_drewN | apply Kd.R_drew)); exact HO480.out) hb); have n2_ := Aside0.mk (Kd.R_below (by (with_reducible repeat (first | apply Kd.R_alloc | apply Kd.R_drewN | apply Kd.R_drew)); exact HO484.out) hb); have n3_ := Aside0.mk (Kd.R_below (by (with_reducible repeat (first | apply Kd.R_alloc | apply Kd.R_drewN | apply Kd.R_drew)); exact HO488.out) hb); have n4_ := Aside0.mk (Kd.R_below (by (with_reducible repeat (first | apply Kd.R_alloc | apply Kd.R_drewN | apply Kd.R_drew)); exact HO492.out) hb); have n5_ := Aside0.mk (below_step (by repeat (first | (with_reducible first | exact HB.out | apply below_alloc | apply pw_below_drewN | apply below_drew1) | exact HB.out)) hb); clear HO476; clear HO480; clear HO484; clear HO488; clear HO492; clear HB; have HO476 := n0_; have HO480 := n1_; have HO484 := n2_; have HO488 := n3_; have HO492 := n4_; have HB := n5_; clear n0_ n1_ n2_ n3_ n4_ n5_; (try clear hb); (try clear hb2); (try clear hk); (try clear hi)) | (go_at_call 11; (with_reducible refine (spec_ValueOf.calls k _ _ t473 t474 t495 t496 _ ?side1 ?side2 A11.out).mono ?_); (case side1 => repeat (first | exact (Kd.R_reads' HO476.out).2.2 | (with_reducible refine Kd.C_alloc ?_ _) | (with_reducible refine Kd.C_drewN ?_ _) | (with_reducible refine Kd.C_drew ?_))); (case side2 => exact (Kd.R_reads' HO476.out).2.1); rintro e w' ⟨rfl, ⟨nd, rfl⟩⟩; (try first | exact ⟨rfl, _, World.drewN_drewN _ _ _⟩ | exact ⟨rfl, _, Eq.trans (World.drewN_drewN _ _ _) (congrArg (World.drewN _) (Nat.add_assoc _ _ _))⟩))); go_upto_region 10 with (first | (go_at_call 4; (with_reducible refine (laws_big.calls _ _ l0 _ _ l1 false _ ?side1 ?side2 ?side3 ?side4 A3.out).mono ?_); (case side1 => repeat (first | exact HR0.out | (with_reducible refine Kd.C_alloc ?_ _) | (with_reducible refine Kd.C_drewN ?_ _) | (with_reducible refine Kd.C_drew ?_))); (case side2 => exact HC0.out); (case side3 => repeat (first | exact HR1.out | (with_reducible refine Kd.C_alloc ?_ _) | (with_reducible refine Kd.C_drewN ?_ _) | (with_reducible refine Kd.C_drew ?_))); (case side4 => exact HC1.out); rintro e w' ⟨rfl, ⟨nd, rfl⟩⟩; (try first | exact ⟨rfl, _, World.drewN_drewN _ _ _⟩ | exact ⟨rfl, _, Eq.trans (World.drewN_drewN _ _ _) (congrArg (World.drewN _) (Nat.add_assoc _ _ _))⟩)) | (go_at_call 5; (with_reducible refine (spec_DrawSortedStep.calls k _ _ l0 t473 t474 _ ?side1 ?side2 A5.out).mono ?_); (case side1 => repeat (first | exact HR0.out | (with_reducible refine Kd.C_alloc ?_ _) | (with_reducible refine Kd.C_drewN ?_ _) | (with_reducible refine Kd.C_drew ?_))); (case side2 => exact HC0.out); rintro e w13 ⟨v475, rfl, ho0, hb⟩; have n0_ := Aside0.mk (Kd.R_lower ho0 (below_size (by repeat (first | (with_reducible first | exact HB.out | apply below_alloc | apply pw_below_drewN | apply below_drew1) | exact HB.out)))); have n1_ := Aside0.mk (below_step (by repeat (first | (with_reducible first | exact HB.out | apply below_alloc | apply pw_below_drewN | apply below_drew1) | exact HB.out)) hb); clear HB; have HO476 := n0_; have HB := n1_; clear n0_ n1_; (try clear hb); (try clear hb2); (try clear hk); (try clear hi); (try clear ho0); obtain ⟨Ao14, co14, eo14⟩ := Kd.R_slice HO476.out; subst eo14) | (go_at_call 6; (with_reducible refine (impl_SortedStep.calls k _ _ t473 t474 t477 t478 _ ?side1 ?side2 A6.out).mono ?_); (case side1 => repeat (first | exact (Kd.R_reads' HO476.out).2.2 | (with_reducible refine Kd.C_alloc ?_ _) | (with_reducible refine Kd.C_drewN ?_ _) | (with_reducible refine Kd.C_drew ?_))); (case side2 => exact (Kd.R_reads' HO476.out).2.1); rintro e w15 ⟨v479, rfl, ho0, hb⟩; have n0_ := Aside0.mk (Kd.R_elder' (by (with_reducible repeat (first | apply Kd.R_alloc | apply Kd.R_drewN | apply Kd.R_drew)); exact HO476.out) (Kd.R_base ho0) hb); have n1_ := Aside0.mk (Kd.R_lower (Kd.R_new' ho0 (Kd.R_lt (by (with_reducible repeat (first | apply Kd.R_alloc | apply Kd.R_drewN | apply Kd.R_drew)); exact HO476.out))) (below_size (by repeat (first | (with_reducible first | exact HB.out | apply below_alloc | apply pw_below_drewN | apply below_drew1) | exact HB.out)))); have n2_ := Aside0.mk (below_step (by repeat (first | (with_reducible first | exact HB.out | apply below_alloc | apply pw_below_drewN | apply below_drew1) | exact HB.out)) hb); clear HO476; clear HB; have HO476 := n0_; have HO480 := n1_; have HB := n2_; clear n0_ n1_ n2_; (try clear hb); (try clear hb2); (try clear hk); (try clear hi); (try clear ho0)) | (go_at_call 7; (with_reducible refine (spec_SortedStep.calls k _ _ t473 t474 t481 t482 _ ?side1 ?side2 A7.out).mono ?_); (case side1 => repeat (first | exact (Kd.R_reads' HO476.out).2.2 | (with_reducible refine Kd.C_alloc ?_ _) | (with_reducible refine Kd.C_drewN ?_ _) | (with_reducible refine Kd.C_drew ?_))); (case side2 => exact (Kd.R_reads' HO476.out).2.1); rintro e w16 ⟨v483, rfl, ho0, hb⟩; have n0_ := Aside0.mk (Kd.R_elder' (by (with_reducible repeat (first | apply Kd.R_alloc | apply Kd.R_drewN | apply Kd.R_drew)); exact HO476.out) (Kd.R_base ho0) hb); have n1_ := Aside0.mk (Kd.R_elder' (by (with_reducible repeat (first | apply Kd.R_alloc | apply Kd.R_drewN | apply Kd.R_drew)); exact HO480.out) (Kd.R_base ho0) hb); have n2_ := Aside0.mk (Kd.R_lower (Kd.R_new' (Kd.R_new' ho0 (Kd.R_lt (by (with_reducible repeat (first | apply Kd.R_alloc | apply Kd.R_drewN | apply Kd.R_drew)); exact HO476.out))) (Kd.R_lt (by (with_reducible repeat (first | apply Kd.R_alloc | apply Kd.R_drewN | apply Kd.R_drew)); exact HO480.out))) (below_size (by repeat (first | (with_reducible first | exact HB.out | apply below_alloc | apply pw_below_drewN | apply below_drew1) | exact HB.out)))); have n3_ := Aside0.mk (below_step (by repeat (first | (with_reducible first | exact HB.out | apply below_alloc | apply pw_below_drewN | apply below_drew1) | exact HB.out)) hb); clear HO476; clear HO480; clear HB; have HO476 := n0_; have HO480 := n1_; have HO484 := n2_; have HB := n3_; clear n0_ n1_ n2_ n3_; (try clear hb); (try clear hb2); (try clear hk); (try clear hi); (try clear ho0)) | (go_at_call 8; (with_reducible refine (impl_GapsOf.calls k _ _ t473 t474 t485 t486 _ ?side1 ?side2 A8.out).mono ?_); (case side1 => repeat (first | exact (Kd.R_reads' HO476.out).2.2 | (with_reducible refine Kd.C_alloc ?_ _) | (with_reducible refine Kd.C_drewN ?_ _) | (with_reducible refine Kd.C_drew ?_))); (case side2 => exact (Kd.R_reads' HO476.out).2.1); rintro e w17 ⟨v487, rfl, ho0, hb⟩; have n0_ := Aside0.mk (Kd.R_elder' (by (with_reducible repeat (first | apply Kd.R_alloc | apply Kd.R_drewN | apply Kd.R_drew)); exact HO476.out) (Kd.R_base ho0) hb); have n1_ := Aside0.mk (Kd.R_elder' (by (with_reducible repeat (first | apply Kd.R_alloc | apply Kd.R_drewN | apply Kd.R_drew)); exact HO480.out) (Kd.R_base ho0) hb); have n2_ := Aside0.mk (Kd.R_elder' (by (with_reducible repeat (first | apply Kd.R_alloc | apply Kd.R_drewN | apply Kd.R_drew)); exact HO484.out) (Kd.R_base ho0) hb); have n3_ := Aside0.mk (Kd.R_lower (Kd.R_new' (Kd.R_new' (Kd.R_new' ho0 (Kd.R_lt (by (with_reducible repeat (first | apply Kd.R_alloc | apply Kd.R_drewN | apply Kd.R_drew)); exact HO476.out))) (Kd.R_lt (by (with_reducible repeat (first | apply Kd.R_alloc | apply Kd.R_drewN | apply Kd.R_drew)); exact HO480.out))) (Kd.R_lt (by (with_reducible repeat (first | apply Kd.R_alloc | apply Kd.R_drewN | apply Kd.R_drew)); exact HO484.out))) (below_size (by repeat (first | (with_reducible first | exact HB.out | apply below_alloc | apply pw_below_drewN | apply below_drew1) | exact HB.out)))); have n4_ := Aside0.mk (below_step (by repeat (first | (with_reducible first | exact HB.out | apply below_alloc | apply pw_below_drewN | apply below_drew1) | exact HB.out)) hb); clear HO476; clear HO480; clear HO484; clear HB; have HO476 := n0_; have HO480 := n1_; have HO484 := n2_; have HO488 := n3_; have HB := n4_; clear n0_ n1_ n2_ n3_ n4_; (try clear hb); (try clear hb2); (try clear hk); (try clear hi); (try clear ho0)) | (go_at_call 9; (with_reducible refine (spec_GapsOf.calls k _ _ t473 t474 t489 t490 _ ?side1 ?side2 A9.out).mono ?_); (case side1 => repeat (first | exact (Kd.R_reads' HO476.out).2.2 | (with_reducible refine Kd.C_alloc ?_ _) | (with_reducible refine Kd.C_drewN ?_ _) | (with_reducible refine Kd.C_drew ?_))); (case side2 => exact (Kd.R_reads' HO476.out).2.1); rintro e w18 ⟨v491, rfl, ho0, hb⟩; have n0_ := Aside0.mk (Kd.R_elder' (by (with_reducible repeat (first | apply Kd.R_alloc | apply Kd.R_drewN | apply Kd.R_drew)); exact HO476.out) (Kd.R_base ho0) hb); have n1_ := Aside0.mk (Kd.R_elder' (by (with_reducible repeat (first | apply Kd.R_alloc | apply Kd.R_drewN | apply Kd.R_drew)); exact HO480.out) (Kd.R_base ho0) hb); have n2_ := Aside0.mk (Kd.R_elder' (by (with_reducible repeat (first | apply Kd.R_alloc | apply Kd.R_drewN | apply Kd.R_drew)); exact HO484.out) (Kd.R_base ho0) hb); have n3_ := Aside0.mk (Kd.R_elder' (by (with_reducible repeat (first | apply Kd.R_alloc | apply Kd.R_drewN | apply Kd.R_drew)); exact HO488.out) (Kd.R_base ho0) hb); have n4_ := Aside0.mk (Kd.R_lower (Kd.R_new' (Kd.R_new' (Kd.R_new' (Kd.R_new' ho0 (Kd.R_lt (by (with_reducible repeat (first | apply Kd.R_alloc | apply Kd.R_drewN | apply Kd.R_drew)); exact HO476.out))) (Kd.R_lt (by (with_reducible repeat (first | apply Kd.R_alloc | apply Kd.R_drewN | apply Kd.R_drew)); exact HO480.out))) (Kd.R_lt (by (with_reducible repeat (first | apply Kd.R_alloc | apply Kd.R_drewN | apply Kd.R_drew)); exact HO484.out))) (Kd.R_lt (by (with_reducible repeat (first | apply Kd.R_alloc | apply Kd.R_drewN | apply Kd.R_drew)); exact HO488.out))) (below_size (by repeat (first | (with_reducible first | exact HB.out | apply below_alloc | apply pw_below_drewN | apply below_drew1) | exact HB.out)))); have n5_ := Aside0.mk (below_step (by repeat (first | (with_reducible first | exact HB.out | apply below_alloc | apply pw_below_drewN | apply below_drew1) | exact HB.out)) hb); clear HO476; clear HO480; clear HO484; clear HO488; clear HB; have HO476 := n0_; have HO480 := n1_; have HO484 := n2_; have HO488 := n3_; have HO492 := n4_; have HB := n5_; clear n0_ n1_ n2_ n3_ n4_ n5_; (try clear hb); (try clear hb2); (try clear hk); (try clear hi); (try clear ho0)) | (go_at_call 10; (with_reducible refine (impl_ValueOf.calls k _ _ t473 t474 t493 t494 _ ?side1 ?side2 A10.out).mono ?_); (case side1 => repeat (first | exact (Kd.R_reads' HO476.out).2.2 | (with_reducible refine Kd.C_alloc ?_ _) | (with_reducible refine Kd.C_drewN ?_ _) | (with_reducible refine Kd.C_drew ?_))); (case side2 => exact (Kd.R_reads' HO476.out).2.1); rintro e w19 ⟨rfl, hb⟩; have n0_ := Aside0.mk (Kd.R_below (by (with_reducible repeat (first | apply Kd.R_alloc | apply Kd.R_drewN | apply Kd.R_drew)); exact HO476.out) hb); have n1_ := Aside0.mk (Kd.R_below (by (with_reducible repeat (first | apply Kd.R_alloc | apply Kd.R_drewN | apply Kd.R_drew)); exact HO480.out) hb); have n2_ := Aside0.mk (Kd.R_below (by (with_reducible repeat (first | apply Kd.R_alloc | apply Kd.R_drewN | apply Kd.R_drew)); exact HO484.out) hb); have n3_ := Aside0.mk (Kd.R_below (by (with_reducible repeat (first | apply Kd.R_alloc | apply Kd.R_drewN | apply Kd.R_drew)); exact HO488.out) hb); have n4_ := Aside0.mk (Kd.R_below (by (with_reducible repeat (first | apply Kd.R_alloc | apply Kd.R_drewN | apply Kd.R_drew)); exact HO492.out) hb); have n5_ := Aside0.mk (below_step (by repeat (first | (with_reducible first | exact HB.out | apply below_alloc | apply pw_below_drewN | apply below_drew1) | exact HB.out)) hb); clear HO476; clear HO480; clear HO484; clear HO488; clear HO492; clear HB; have HO476 := n0_; have HO480 := n1_; have HO484 := n2_; have HO488 := n3_; have HO492 := n4_; have HB := n5_; clear n0_ n1_ n2_ n3_ n4_ n5_; (try clear hb); (try clear hb2); (try clear hk); (try clear hi)) | (go_at_call 11; (with_reducible refine (spec_ValueOf.calls k _ _ t473 t474 t495 t496 _ ?side1 ?side2 A11.out).mono ?_); (case side1 => repeat (first | exact (Kd.R_reads' HO476.out).2.2 | (with_reducible refine Kd.C_alloc ?_ _) | (with_reducible refine Kd.C_drewN ?_ _) | (with_reducible refine Kd.C_drew ?_))); (case side2 => exact (Kd.R_reads' HO476.out).2.1); rintro e w' ⟨rfl, ⟨nd, rfl⟩⟩; (try first | exact ⟨rfl, _, World.drewN_drewN _ _ _⟩ | exact ⟨rfl, _, Eq.trans (World.drewN_drewN _ _ _) (congrArg (World.drewN _) (Nat.add_assoc _ _ _))⟩))))
  (try simp only [Act.put, List.setIfInBounds_toArray, List.set_cons_zero, List.set_cons_succ])
  go_cut [130] (fun v130 wc => ∃ (kq : Nat) (x130_11 : Bool), v130 = .bool x130_11 ∧ Aside0 (laws_FnStepsByGaps.j0 kq l0 l1 t473 t474 t477 t478 t485 t493 x130_11 = some r) ∧ Aside0 (kq ≤ k) ∧ Aside0 (Kd.R (Kd.int .i64) 3 wc w.heap.size (fun k_ => some k_ ≠ (v479 : Value).ownBlock ∧ some k_ ≠ (v487 : Value).ownBlock) (.slice Ao14 t473.length co14) t473) ∧ Aside0 (Kd.R (Kd.int .i64) 3 wc w.heap.size (fun k_ => some k_ ≠ ((.slice Ao14 t473.length co14) : Value).ownBlock ∧ some k_ ≠ (v487 : Value).ownBlock) v479 t477) ∧ Aside0 (Kd.R (Kd.int .i64) 3 wc w.heap.size (fun k_ => some k_ ≠ ((.slice Ao14 t473.length co14) : Value).ownBlock ∧ some k_ ≠ (v479 : Value).ownBlock) v487 t485) ∧ Aside0 (Below w.heap.size w wc))
  case first =>
   as_aux_lemma =>
   have H := HC12.out
   clear HC12
   by_cases c20 : (t478 != t482) = true
   ·rw [if_pos c20] at H
    have c20b0 : (t478 != t482) = true := c20
    (try (have c20b1 : decide (t478 = t482) = false := by simpa using c20))
    (try (have c20b2 : (t478 == t482) = false := by simpa using c20))
    (try (have c20b3 : ¬ (t478 = t482) := by simpa using c20))
    clear c20
    (first | rw [c20b0] | (simp only [i64_w, i32_w]; rw [c20b0]) | skip)
    exact (laws_FnStepsByGaps.j0_no HR_.out _ _ _ _ _ _ _ _ _ H).elim
   ·rw [if_neg c20] at H
    have c20b0 : (t478 != t482) = false := by simpa using c20
    (try (have c20b1 : decide (t478 = t482) = true := by simpa using c20))
    (try (have c20b2 : (t478 == t482) = true := by simpa using c20))
    clear c20
    (first | rw [c20b0] | (simp only [i64_w, i32_w]; rw [c20b0]) | skip)
    replace H := Option.bind_eq_some_iff.mp H
    obtain ⟨t497, A210, H⟩ := H
    replace H : (if t497 = true then (if (t486 != t490) = true then (laws_FnStepsByGaps.j0 k l0 l1 t473 t474 t477 t478 t485 t493 true) else ((laws_qSame.f k t485 t489).bind fun t498 => (if t498 = true then (if (t494 != t496) = true then (laws_FnStepsByGaps.j0 k l0 l1 t473 t474 t477 t478 t485 t493 true) else (if t493 = t495 then (if (t486 != t478) = true then (laws_FnStepsByGaps.j0 k l0 l1 t473 t474 t477 t478 t485 t493 true) else (laws_FnStepsByGaps.j0 k l0 l1 t473 t474 t477 t478 t485 t493 (t494 != t478))) else (laws_FnStepsByGaps.j0 k l0 l1 t473 t474 t477 t478 t485 t493 true))) else (laws_FnStepsByGaps.j0 k l0 l1 t473 t474 t477 t478 t485 t493 true)))) else (laws_FnStepsByGaps.j0 k l0 l1 t473 t474 t477 t478 t485 t493 true)) = some r := H
    have A21 := Aside0.mk A210
    clear A210
    by_cases c22 : t497 = true
    ·subst c22
     have H1 : (if (t486 != t490) = true then (laws_FnStepsByGaps.j0 k l0 l1 t473 t474 t477 t478 t485 t493 true) else ((laws_qSame.f k t485 t489).bind fun t498 => (if t498 = true then (if (t494 != t496) = true then (laws_FnStepsByGaps.j0 k l0 l1 t473 t474 t477 t478 t485 t493 true) else (if t493 = t495 then (if (t486 != t478) = true then (laws_FnStepsByGaps.j0 k l0 l1 t473 t474 t477 t478 t485 t493 true) else (laws_FnStepsByGaps.j0 k l0 l1 t473 t474 t477 t478 t485 t493 (t494 != t478))) else (laws_FnStepsByGaps.j0 k l0 l1 t473 t474 t477 t478 t485 t493 true))) else (laws_FnStepsByGaps.j0 k l0 l1 t473 t474 t477 t478 t485 t493 true)))) = some r := by rw [if_pos rfl] at H; exact H
     clear H
     have H := H1
     clear H1
     by_cases c23 : (t486 != t490) = true
     ·rw [if_pos c23] at H
      have c23b0 : (t486 != t490) = true := c23
      (try (have c23b1 : decide (t486 = t490) = false := by simpa using c23))
      (try (have c23b2 : (t486 == t490) = false := by simpa using c23))
      (try (have c23b3 : ¬ (t486 = t490) := by simpa using c23))
      clear c23
      exact (laws_FnStepsByGaps.j0_no HR_.out _ _ _ _ _ _ _ _ _ H).elim
     ·rw [if_neg c23] at H
      have c23b0 : (t486 != t490) = false := by simpa using c23
      (try (have c23b1 : decide (t486 = t490) = true := by simpa using c23))
      (try (have c23b2 : (t486 == t490) = true := by simpa using c23))
      clear c23
      replace H := Option.bind_eq_some_iff.mp H
      obtain ⟨t498, A240, H⟩ := H
      replace H : (if t498 = true then (if (t494 != t496) = true then (laws_FnStepsByGaps.j0 k l0 l1 t473 t474 t477 t478 t485 t493 true) else (if t493 = t495 then (if (t486 != t478) = true then (laws_FnStepsByGaps.j0 k l0 l1 t473 t474 t477 t478 t485 t493 true) else (laws_FnStepsByGaps.j0 k l0 l1 t473 t474 t477 t478 t485 t493 (t494 != t478))) else (laws_FnStepsByGaps.j0 k l0 l1 t473 t474 t477 t478 t485 t493 true))) else (laws_FnStepsByGaps.j0 k l0 l1 t473 t474 t477 t478 t485 t493 true)) = some r := H
      have A24 := Aside0.mk A240
      clear A240
      by_cases c25 : t498 = true
      ·subst c25
       have H1 : (if (t494 != t496) = true then (laws_FnStepsByGaps.j0 k l0 l1 t473 t474 t477 t478 t485 t493 true) else (if t493 = t495 then (if (t486 != t478) = true then (laws_FnStepsByGaps.j0 k l0 l1 t473 t474 t477 t478 t485 t493 true) else (laws_FnStepsByGaps.j0 k l0 l1 t473 t474 t477 t478 t485 t493 (t494 != t478))) else (laws_FnStepsByGaps.j0 k l0 l1 t473 t474 t477 t478 t485 t493 true))) = some r := by rw [if_pos rfl] at H; exact H
       clear H
       have H := H1
       clear H1
       by_cases c26 : (t494 != t496) = true
       ·rw [if_pos c26] at H
        have c26b0 : (t494 != t496) = true := c26
        (try (have c26b1 : decide (t494 = t496) = false := by simpa using c26))
        (try (have c26b2 : (t494 == t496) = false := by simpa using c26))
        (try (have c26b3 : ¬ (t494 = t496) := by simpa using c26))
        clear c26
        exact (laws_FnStepsByGaps.j0_no HR_.out _ _ _ _ _ _ _ _ _ H).elim
       ·rw [if_neg c26] at H
        have c26b0 : (t494 != t496) = false := by simpa using c26
        (try (have c26b1 : decide (t494 = t496) = true := by simpa using c26))
        (try (have c26b2 : (t494 == t496) = true := by simpa using c26))
        clear c26
        by_cases c27 : t493 = t495
        ·rw [if_pos c27] at H
         have c27b0 : (t493 == t495) = true := beq_iff_eq.mpr c27
         have c27b1 : (t493 != t495) = false := bne_eq_false_iff_eq.mpr c27
         clear c27
         by_cases c28 : (t486 != t478) = true
         ·rw [if_pos c28] at H
          have c28b0 : (t486 != t478) = true := c28
          (try (have c28b1 : decide (t486 = t478) = false := by simpa using c28))
          (try (have c28b2 : (t486 == t478) = false := by simpa using c28))
          (try (have c28b3 : ¬ (t486 = t478) := by simpa using c28))
          clear c28
          exact (laws_FnStepsByGaps.j0_no HR_.out _ _ _ _ _ _ _ _ _ H).elim
         ·rw [if_neg c28] at H
          have c28b0 : (t486 != t478) = false := by simpa using c28
          (try (have c28b1 : decide (t486 = t478) = true := by simpa using c28))
          (try (have c28b2 : (t486 == t478) = true := by simpa using c28))
          clear c28
          as_aux_lemma =>
           have H' := Aside0.mk H
           clear H
           obtain ⟨Ao29, co29, eo29⟩ := Kd.R_slice HO480.out
           subst eo29
           obtain ⟨Ao30, co30, eo30⟩ := Kd.R_slice HO484.out
           subst eo30
           go_wp2_with (first | (go_at_call 12; (with_reducible refine (laws_qSame.calls k _ _ t477 _ _ t481 true _ ?side1 ?side2 ?side3 ?side4 A21.out).mono ?_); (case side1 => repeat (first | exact (Kd.R_reads' HO480.out).2.2 | (with_reducible refine Kd.C_alloc ?_ _) | (with_reducible refine Kd.C_drewN ?_ _) | (with_reducible refine Kd.C_drew ?_))); (case side2 => exact (Kd.R_reads' HO480.out).2.1); (case side3 => repeat (first | exact (Kd.R_reads' HO484.out).2.2 | (with_reducible refine Kd.C_alloc ?_ _) | (with_reducible refine Kd.C_drewN ?_ _) | (with_reducible refine Kd.C_drew ?_))); (case side4 => exact (Kd.R_reads' HO484.out).2.1); rintro e w' ⟨rfl, ⟨nd, rfl⟩⟩; (try first | exact ⟨rfl, _, World.drewN_drewN _ _ _⟩ | exact ⟨rfl, _, Eq.trans (World.drewN_drewN _ _ _) (congrArg (World.drewN _) (Nat.add_assoc _ _ _))⟩); obtain ⟨Ao31, co31, eo31⟩ := Kd.R_slice HO488.out; subst eo31; obtain ⟨Ao32, co32, eo32⟩ := Kd.R_slice HO492.out; subst eo32) | (go_at_call 12; (with_reducible refine (laws_qSame.calls k _ _ t485 _ _ t489 true _ ?side1 ?side2 ?side3 ?side4 A24.out).mono ?_); (case side1 => repeat (first | exact (Kd.R_reads' HO488.out).2.2 | (with_reducible refine Kd.C_alloc ?_ _) | (with_reducible refine Kd.C_drewN ?_ _) | (with_reducible refine Kd.C_drew ?_))); (case side2 => exact (Kd.R_reads' HO488.out).2.1); (case side3 => repeat (first | exact (Kd.R_reads' HO492.out).2.2 | (with_reducible refine Kd.C_alloc ?_ _) | (with_reducible refine Kd.C_drewN ?_ _) | (with_reducible refine Kd.C_drew ?_))); (case side4 => exact (Kd.R_reads' HO492.out).2.1); rintro e w' ⟨rfl, ⟨nd, rfl⟩⟩; (try first | exact ⟨rfl, _, World.drewN_drewN _ _ _⟩ | exact ⟨rfl, _, Eq.trans (World.drewN_drewN _ _ _) (congrArg (World.drewN _) (Nat.add_assoc _ _ _))⟩)))
           repeat (go_quiet (first | (go_at_call 12; (with_reducible refine (laws_qSame.calls k _ _ t477 _ _ t481 true _ ?side1 ?side2 ?side3 ?side4 A21.out).mono ?_); (case side1 => repeat (first | exact (Kd.R_reads' HO480.out).2.2 | (with_reducible refine Kd.C_alloc ?_ _) | (with_reducible refine Kd.C_drewN ?_ _) | (with_reducible refine Kd.C_drew ?_))); (case side2 => exact (Kd.R_reads' HO480.out).2.1); (case side3 => repeat (first | exact (Kd.R_reads' HO484.out).2.2 | (with_reducible refine Kd.C_alloc ?_ _) | (with_reducible refine Kd.C_drewN ?_ _) | (with_reducible refine Kd.C_drew ?_))); (case side4 => exact (Kd.R_reads' HO484.out).2.1); rintro e w' ⟨rfl, ⟨nd, rfl⟩⟩; (try first | exact ⟨rfl, _, World.drewN_drewN _ _ _⟩ | exact ⟨rfl, _, Eq.trans (World.drewN_drewN _ _ _) (congrArg (World.drewN _) (Nat.add_assoc _ _ _))⟩); obtain ⟨Ao31, co31, eo31⟩ := Kd.R_slice HO488.out; subst eo31; obtain ⟨Ao32, co32, eo32⟩ := Kd.R_slice HO492.out; subst eo32) | (go_at_call 12; (with_reducible refine (laws_qSame.calls k _ _ t485 _ _ t489 true _ ?side1 ?side2 ?side3 ?side4 A24.out).mono ?_); (case side1 => repeat (first | exact (Kd.R_reads' HO488.out).2.2 | (with_reducible refine Kd.C_alloc ?_ _) | (with_reducible refine Kd.C_drewN ?_ _) | (with_reducible refine Kd.C_drew ?_))); (case side2 => exact (Kd.R_reads' HO488.out).2.1); (case side3 => repeat (first | exact (Kd.R_reads' HO492.out).2.2 | (with_reducible refine Kd.C_alloc ?_ _) | (with_reducible refine Kd.C_drewN ?_ _) | (with_reducible refine Kd.C_drew ?_))); (case side4 => exact (Kd.R_reads' HO492.out).2.1); rintro e w' ⟨rfl, ⟨nd, rfl⟩⟩; (try first | exact ⟨rfl, _, World.drewN_drewN _ _ _⟩ | exact ⟨rfl, _, Eq.trans (World.drewN_drewN _ _ _) (congrArg (World.drewN _) (Nat.add_assoc _ _ _))⟩))); try go_wp2_with (first | (go_at_call 12; (with_reducible refine (laws_qSame.calls k _ _ t477 _ _ t481 true _ ?side1 ?side2 ?side3 ?side4 A21.out).mono ?_); (case side1 => repeat (first | exact (Kd.R_reads' HO480.out).2.2 | (with_reducible refine Kd.C_alloc ?_ _) | (with_reducible refine Kd.C_drewN ?_ _) | (with_reducible refine Kd.C_drew ?_))); (case side2 => exact (Kd.R_reads' HO480.out).2.1); (case side3 => repeat (first | exact (Kd.R_reads' HO484.out).2.2 | (with_reducible refine Kd.C_alloc ?_ _) | (with_reducible refine Kd.C_drewN ?_ _) | (with_reducible refine Kd.C_drew ?_))); (case side4 => exact (Kd.R_reads' HO484.out).2.1); rintro e w' ⟨rfl, ⟨nd, rfl⟩⟩; (try first | exact ⟨rfl, _, World.drewN_drewN _ _ _⟩ | exact ⟨rfl, _, Eq.trans (World.drewN_drewN _ _ _) (congrArg (World.drewN _) (Nat.add_assoc _ _ _))⟩); obtain ⟨Ao31, co31, eo31⟩ := Kd.R_slice HO488.out; subst eo31; obtain ⟨Ao32, co32, eo32⟩ := Kd.R_slice HO492.out; subst eo32) | (go_at_call 12; (with_reducible refine (laws_qSame.calls k _ _ t485 _ _ t489 true _ ?side1 ?side2 ?side3 ?side4 A24.out).mono ?_); (case side1 => repeat (first | exact (Kd.R_reads' HO488.out).2.2 | (with_reducible refine Kd.C_alloc ?_ _) | (with_reducible refine Kd.C_drewN ?_ _) | (with_reducible refine Kd.C_drew ?_))); (case side2 => exact (Kd.R_reads' HO488.out).2.1); (case side3 => repeat (first | exact (Kd.R_reads' HO492.out).2.2 | (with_reducible refine Kd.C_alloc ?_ _) | (with_reducible refine Kd.C_drewN ?_ _) | (with_reducible refine Kd.C_drew ?_))); (case side4 => exact (Kd.R_reads' HO492.out).2.1); rintro e w' ⟨rfl, ⟨nd, rfl⟩⟩; (try first | exact ⟨rfl, _, World.drewN_drewN _ _ _⟩ | exact ⟨rfl, _, Eq.trans (World.drewN_drewN _ _ _) (congrArg (World.drewN _) (Nat.add_assoc _ _ _))⟩))))
           go_meet
           case rel => exact ⟨_, ((t494 != t478)), (by first | rfl | (simp; done) | (simp [*]; done)), H', ⟨by first | omega | exact Nat.le_refl _⟩, ⟨by (with_reducible repeat (first | apply Kd.R_alloc | apply Kd.R_drewN | apply Kd.R_drew)); exact Kd.R_mono HO476.out (fun _ hk => ⟨hk.1.1.1.2, hk.1.2⟩)⟩, ⟨by (with_reducible repeat (first | apply Kd.R_alloc | apply Kd.R_drewN | apply Kd.R_drew)); exact Kd.R_mono HO480.out (fun _ hk => ⟨hk.1.1.1.2, hk.1.2⟩)⟩, ⟨by (with_reducible repeat (first | apply Kd.R_alloc | apply Kd.R_drewN | apply Kd.R_drew)); exact Kd.R_mono HO488.out (fun _ hk => ⟨hk.1.1.1.2, hk.1.1.2⟩)⟩, ⟨by repeat (first | (with_reducible first | exact HB.out | apply below_alloc | apply pw_below_drewN | apply below_drew1) | exact HB.out)⟩⟩
        ·rw [if_neg c27] at H
         have c27b0 : (t493 == t495) = false := beq_eq_false_iff_ne.mpr c27
         have c27b1 : (t493 != t495) = true := bne_iff_ne.mpr c27
         exact (laws_FnStepsByGaps.j0_no HR_.out _ _ _ _ _ _ _ _ _ H).elim
      ·replace c25 := Bool.eq_false_iff.mpr c25
       subst c25
       have H1 : (laws_FnStepsByGaps.j0 k l0 l1 t473 t474 t477 t478 t485 t493 true) = some r := by rw [if_neg (show ¬ (false = true) by decide)] at H; exact H
       clear H
       have H := H1
       clear H1
       exact (laws_FnStepsByGaps.j0_no HR_.out _ _ _ _ _ _ _ _ _ H).elim
    ·replace c22 := Bool.eq_false_iff.mpr c22
     subst c22
     have H1 : (laws_FnStepsByGaps.j0 k l0 l1 t473 t474 t477 t478 t485 t493 true) = some r := by rw [if_neg (show ¬ (false = true) by decide)] at H; exact H
     clear H
     have H := H1
     clear H1
     exact (laws_FnStepsByGaps.j0_no HR_.out _ _ _ _ _ _ _ _ _ H).elim
  case rest =>
   as_aux_lemma =>
   clear HC12
   try clear c1
   try clear c2
   try clear p2
   try clear c3
   try clear c4
   try clear c20
   try clear c20b0
   try clear c20b1
   try clear c20b2
   try clear c22
   try clear c23
   try clear c23b0
   try clear c23b1
   try clear c23b2
   try clear c25
   try clear c26
   try clear c26b0
   try clear c26b1
   try clear c26b2
   try clear c27
   try clear c27b0
   try clear c27b1
   try clear c28
   try clear c28b0
   try clear c28b1
   try clear c28b2
   obtain ⟨kq, x130_11, rfl, HA, HJ11, HO_5, HO_7, HO_11, HB⟩ := hcut
   cases kq with
   | zero => exact absurd HA.out (by simp [laws_FnStepsByGaps.j0])
   | succ kj11 =>
    have H := HA.out
    clear HA
    simp only [laws_FnStepsByGaps.j0] at H
    by_cases c33 : x130_11 = true
    ·subst c33
     have H1 : (some false) = some r := by rw [if_pos rfl] at H; exact H
     clear H
     have H := H1
     clear H1
     exact absurd (Option.some.inj H) (by rw [HR_.out]; decide)
    ·replace c33 := Bool.eq_false_iff.mpr c33
     subst c33
     have H1 : (if t478 = true then ((impl_StepByGaps.f kj11 t485 (t473.length : Int) t474).bind fun bt499 => ((impl_WordOf.f kj11 t493 (t473.length : Int) t474).bind fun bt503 => ((laws_qBack.f kj11 t473).bind fun t507 => ((impl_SortedStep.f kj11 t507 t474).bind fun bt510 => (if bt499.2 = true then ((laws_qSame.f kj11 bt499.1 t477).bind fun t514 => (if t514 = true then (if bt503.2 = true then ((laws_qSame.f kj11 bt503.1 t473).bind fun t515 => (if t515 = true then (if bt510.2 = true then ((laws_qSame.f kj11 bt510.1 t477).bind fun t516 => (if t516 = true then ((laws_qValue.f kj11 t477 t474).bind fun t517 => (if (wrap64 (t474 - 1)) = 0 then (none) else (if (Int.tmod t517 (wrap64 (t474 - 1))) = 0 then (laws_FnStepsByGaps.j1 kj11 l0 l1 t485 ((t477.length : Int) != (t473.length : Int))) else (laws_FnStepsByGaps.j1 kj11 l0 l1 t485 true)))) else (laws_FnStepsByGaps.j1 kj11 l0 l1 t485 true))) else (laws_FnStepsByGaps.j1 kj11 l0 l1 t485 true)) else (laws_FnStepsByGaps.j1 kj11 l0 l1 t485 true))) else (laws_FnStepsByGaps.j1 kj11 l0 l1 t485 true)) else (laws_FnStepsByGaps.j1 kj11 l0 l1 t485 true))) else (laws_FnStepsByGaps.j1 kj11 l0 l1 t485 true)))))) else (laws_FnStepsByGaps.j3 kj11 l0 l1)) = some r := by rw [if_neg (show ¬ (false = true) by decide)] at H; exact H
     clear H
     have H := H1
     clear H1
     have HC34 := Aside0.mk H
     clear H
     go_upto_if 131 with (fail)
     repeat (go_quiet (fail); go_upto_if 131 with (fail))
     go_cut [] (fun wc => ∃ (kq : Nat), Aside0 (laws_FnStepsByGaps.j3 kq l0 l1 = some r) ∧ Aside0 (kq ≤ kj11) ∧ Aside0 (Below w.heap.size w wc))
     case first =>
      as_aux_lemma =>
      have H := HC34.out
      clear HC34
      by_cases c35 : t478 = true
      ·subst c35
       have H1 : ((impl_StepByGaps.f kj11 t485 (t473.length : Int) t474).bind fun bt499 => ((impl_WordOf.f kj11 t493 (t473.length : Int) t474).bind fun bt503 => ((laws_qBack.f kj11 t473).bind fun t507 => ((impl_SortedStep.f kj11 t507 t474).bind fun bt510 => (if bt499.2 = true then ((laws_qSame.f kj11 bt499.1 t477).bind fun t514 => (if t514 = true then (if bt503.2 = true then ((laws_qSame.f kj11 bt503.1 t473).bind fun t515 => (if t515 = true then (if bt510.2 = true then ((laws_qSame.f kj11 bt510.1 t477).bind fun t516 => (if t516 = true then ((laws_qValue.f kj11 t477 t474).bind fun t517 => (if (wrap64 (t474 - 1)) = 0 then (none) else (if (Int.tmod t517 (wrap64 (t474 - 1))) = 0 then (laws_FnStepsByGaps.j1 kj11 l0 l1 t485 ((t477.length : Int) != (t473.length : Int))) else (laws_FnStepsByGaps.j1 kj11 l0 l1 t485 true)))) else (laws_FnStepsByGaps.j1 kj11 l0 l1 t485 true))) else (laws_FnStepsByGaps.j1 kj11 l0 l1 t485 true)) else (laws_FnStepsByGaps.j1 kj11 l0 l1 t485 true))) else (laws_FnStepsByGaps.j1 kj11 l0 l1 t485 true)) else (laws_FnStepsByGaps.j1 kj11 l0 l1 t485 true))) else (laws_FnStepsByGaps.j1 kj11 l0 l1 t485 true)))))) = some r := by rw [if_pos rfl] at H; exact H
       clear H
       have H := H1
       clear H1
       replace H := Option.bind_eq_some_iff.mp H
       obtain ⟨⟨t499, t500⟩, A360, H⟩ := H
       replace H : ((impl_WordOf.f kj11 t493 (t473.length : Int) t474).bind fun bt503 => ((laws_qBack.f kj11 t473).bind fun t507 => ((impl_SortedStep.f kj11 t507 t474).bind fun bt510 => (if t500 = true then ((laws_qSame.f kj11 t499 t477).bind fun t514 => (if t514 = true then (if bt503.2 = true then ((laws_qSame.f kj11 bt503.1 t473).bind fun t515 => (if t515 = true then (if bt510.2 = true then ((laws_qSame.f kj11 bt510.1 t477).bind fun t516 => (if t516 = true then ((laws_qValue.f kj11 t477 t474).bind fun t517 => (if (wrap64 (t474 - 1)) = 0 then (none) else (if (Int.tmod t517 (wrap64 (t474 - 1))) = 0 then (laws_FnStepsByGaps.j1 kj11 l0 l1 t485 ((t477.length : Int) != (t473.length : Int))) else (laws_FnStepsByGaps.j1 kj11 l0 l1 t485 true)))) else (laws_FnStepsByGaps.j1 kj11 l0 l1 t485 true))) else (laws_FnStepsByGaps.j1 kj11 l0 l1 t485 true)) else (laws_FnStepsByGaps.j1 kj11 l0 l1 t485 true))) else (laws_FnStepsByGaps.j1 kj11 l0 l1 t485 true)) else (laws_FnStepsByGaps.j1 kj11 l0 l1 t485 true))) else (laws_FnStepsByGaps.j1 kj11 l0 l1 t485 true))))) = some r := H
       have A36 := Aside0.mk A360
       clear A360
       replace H := Option.bind_eq_some_iff.mp H
       obtain ⟨⟨t503, t504⟩, A370, H⟩ := H
       replace H : ((laws_qBack.f kj11 t473).bind fun t507 => ((impl_SortedStep.f kj11 t507 t474).bind fun bt510 => (if t500 = true then ((laws_qSame.f kj11 t499 t477).bind fun t514 => (if t514 = true then (if t504 = true then ((laws_qSame.f kj11 t503 t473).bind fun t515 => (if t515 = true then (if bt510.2 = true then ((laws_qSame.f kj11 bt510.1 t477).bind fun t516 => (if t516 = true then ((laws_qValue.f kj11 t477 t474).bind fun t517 => (if (wrap64 (t474 - 1)) = 0 then (none) else (if (Int.tmod t517 (wrap64 (t474 - 1))) = 0 then (laws_FnStepsByGaps.j1 kj11 l0 l1 t485 ((t477.length : Int) != (t473.length : Int))) else (laws_FnStepsByGaps.j1 kj11 l0 l1 t485 true)))) else (laws_FnStepsByGaps.j1 kj11 l0 l1 t485 true))) else (laws_FnStepsByGaps.j1 kj11 l0 l1 t485 true)) else (laws_FnStepsByGaps.j1 kj11 l0 l1 t485 true))) else (laws_FnStepsByGaps.j1 kj11 l0 l1 t485 true)) else (laws_FnStepsByGaps.j1 kj11 l0 l1 t485 true))) else (laws_FnStepsByGaps.j1 kj11 l0 l1 t485 true)))) = some r := H
       have A37 := Aside0.mk A370
       clear A370
       replace H := Option.bind_eq_some_iff.mp H
       obtain ⟨t507, A380, H⟩ := H
       replace H : ((impl_SortedStep.f kj11 t507 t474).bind fun bt510 => (if t500 = true then ((laws_qSame.f kj11 t499 t477).bind fun t514 => (if t514 = true then (if t504 = true then ((laws_qSame.f kj11 t503 t473).bind fun t515 => (if t515 = true then (if bt510.2 = true then ((laws_qSame.f kj11 bt510.1 t477).bind fun t516 => (if t516 = true then ((laws_qValue.f kj11 t477 t474).bind fun t517 => (if (wrap64 (t474 - 1)) = 0 then (none) else (if (Int.tmod t517 (wrap64 (t474 - 1))) = 0 then (laws_FnStepsByGaps.j1 kj11 l0 l1 t485 ((t477.length : Int) != (t473.length : Int))) else (laws_FnStepsByGaps.j1 kj11 l0 l1 t485 true)))) else (laws_FnStepsByGaps.j1 kj11 l0 l1 t485 true))) else (laws_FnStepsByGaps.j1 kj11 l0 l1 t485 true)) else (laws_FnStepsByGaps.j1 kj11 l0 l1 t485 true))) else (laws_FnStepsByGaps.j1 kj11 l0 l1 t485 true)) else (laws_FnStepsByGaps.j1 kj11 l0 l1 t485 true))) else (laws_FnStepsByGaps.j1 kj11 l0 l1 t485 true))) = some r := H
       have A38 := Aside0.mk A380
       clear A380
       replace H := Option.bind_eq_some_iff.mp H
       obtain ⟨⟨t510, t511⟩, A390, H⟩ := H
       replace H : (if t500 = true then ((laws_qSame.f kj11 t499 t477).bind fun t514 => (if t514 = true then (if t504 = true then ((laws_qSame.f kj11 t503 t473).bind fun t515 => (if t515 = true then (if t511 = true then ((laws_qSame.f kj11 t510 t477).bind fun t516 => (if t516 = true then ((laws_qValue.f kj11 t477 t474).bind fun t517 => (if (wrap64 (t474 - 1)) = 0 then (none) else (if (Int.tmod t517 (wrap64 (t474 - 1))) = 0 then (laws_FnStepsByGaps.j1 kj11 l0 l1 t485 ((t477.length : Int) != (t473.length : Int))) else (laws_FnStepsByGaps.j1 kj11 l0 l1 t485 true)))) else (laws_FnStepsByGaps.j1 kj11 l0 l1 t485 true))) else (laws_FnStepsByGaps.j1 kj11 l0 l1 t485 true)) else (laws_FnStepsByGaps.j1 kj11 l0 l1 t485 true))) else (laws_FnStepsByGaps.j1 kj11 l0 l1 t485 true)) else (laws_FnStepsByGaps.j1 kj11 l0 l1 t485 true))) else (laws_FnStepsByGaps.j1 kj11 l0 l1 t485 true)) = some r := H
       have A39 := Aside0.mk A390
       clear A390
       have HC40 := Aside0.mk H
       clear H
       obtain ⟨Ao41, co41, eo41⟩ := Kd.R_slice HO_11.out
       subst eo41
       go_upto_region 16 with (first | (go_at_call 13; (with_reducible refine (impl_StepByGaps.calls kj11 _ _ t485 (t473.length : Int) t474 t499 t500 _ ?side1 ?side2 A36.out).mono ?_); (case side1 => repeat (first | exact (Kd.R_reads' HO_11.out).2.2 | (with_reducible refine Kd.C_alloc ?_ _) | (with_reducible refine Kd.C_drewN ?_ _) | (with_reducible refine Kd.C_drew ?_))); (case side2 => exact (Kd.R_reads' HO_11.out).2.1); rintro e w42 ⟨v501, rfl, ho0, hb⟩; have n0_ := Aside0.mk (Kd.R_elder' (by (with_reducible repeat (first | apply Kd.R_alloc | apply Kd.R_drewN | apply Kd.R_drew)); exact HO_5.out) (Kd.R_base ho0) hb); have n1_ := Aside0.mk (Kd.R_elder' (by (with_reducible repeat (first | apply Kd.R_alloc | apply Kd.R_drewN | apply Kd.R_drew)); exact HO_7.out) (Kd.R_base ho0) hb); have n2_ := Aside0.mk (Kd.R_elder' (by (with_reducible repeat (first | apply Kd.R_alloc | apply Kd.R_drewN | apply Kd.R_drew)); exact HO_11.out) (Kd.R_base ho0) hb); have n3_ := Aside0.mk (Kd.R_lower (Kd.R_new' (Kd.R_new' (Kd.R_new' ho0 (Kd.R_lt (by (with_reducible repeat (first | apply Kd.R_alloc | apply Kd.R_drewN | apply Kd.R_drew)); exact HO_5.out))) (Kd.R_lt (by (with_reducible repeat (first | apply Kd.R_alloc | apply Kd.R_drewN | apply Kd.R_drew)); exact HO_7.out))) (Kd.R_lt (by (with_reducible repeat (first | apply Kd.R_alloc | apply Kd.R_drewN | apply Kd.R_drew)); exact HO_11.out))) (below_size (by repeat (first | (with_reducible first | exact HB.out | apply below_alloc | apply pw_below_drewN | apply below_drew1) | exact HB.out)))); have n4_ := Aside0.mk (below_step (by repeat (first | (with_reducible first | exact HB.out | apply below_alloc | apply pw_below_drewN | apply below_drew1) | exact HB.out)) hb); clear HO_5; clear HO_7; clear HO_11; clear HB; have HO_5 := n0_; have HO_7 := n1_; have HO_11 := n2_; have HO502 := n3_; have HB := n4_; clear n0_ n1_ n2_ n3_ n4_; (try clear hb); (try clear hb2); (try clear hk); (try clear hi); (try clear ho0)) | (go_at_call 14; (with_reducible refine (impl_WordOf.calls kj11 t493 (t473.length : Int) t474 t503 t504 _ A37.out).mono ?_); rintro e w43 ⟨v505, rfl, ho0, hb⟩; have n0_ := Aside0.mk (Kd.R_elder' (by (with_reducible repeat (first | apply Kd.R_alloc | apply Kd.R_drewN | apply Kd.R_drew)); exact HO_5.out) (Kd.R_base ho0) hb); have n1_ := Aside0.mk (Kd.R_elder' (by (with_reducible repeat (first | apply Kd.R_alloc | apply Kd.R_drewN | apply Kd.R_drew)); exact HO_7.out) (Kd.R_base ho0) hb); have n2_ := Aside0.mk (Kd.R_elder' (by (with_reducible repeat (first | apply Kd.R_alloc | apply Kd.R_drewN | apply Kd.R_drew)); exact HO_11.out) (Kd.R_base ho0) hb); have n3_ := Aside0.mk (Kd.R_elder' (by (with_reducible repeat (first | apply Kd.R_alloc | apply Kd.R_drewN | apply Kd.R_drew)); exact HO502.out) (Kd.R_base ho0) hb); have n4_ := Aside0.mk (Kd.R_lower (Kd.R_new' (Kd.R_new' (Kd.R_new' (Kd.R_new' ho0 (Kd.R_lt (by (with_reducible repeat (first | apply Kd.R_alloc | apply Kd.R_drewN | apply Kd.R_drew)); exact HO_5.out))) (Kd.R_lt (by (with_reducible repeat (first | apply Kd.R_alloc | apply Kd.R_drewN | apply Kd.R_drew)); exact HO_7.out))) (Kd.R_lt (by (with_reducible repeat (first | apply Kd.R_alloc | apply Kd.R_drewN | apply Kd.R_drew)); exact HO_11.out))) (Kd.R_lt (by (with_reducible repeat (first | apply Kd.R_alloc | apply Kd.R_drewN | apply Kd.R_drew)); exact HO502.out))) (below_size (by repeat (first | (with_reducible first | exact HB.out | apply below_alloc | apply pw_below_drewN | apply below_drew1) | exact HB.out)))); have n5_ := Aside0.mk (below_step (by repeat (first | (with_reducible first | exact HB.out | apply below_alloc | apply pw_below_drewN | apply below_drew1) | exact HB.out)) hb); clear HO_5; clear HO_7; clear HO_11; clear HO502; clear HB; have HO_5 := n0_; have HO_7 := n1_; have HO_11 := n2_; have HO502 := n3_; have HO506 := n4_; have HB := n5_; clear n0_ n1_ n2_ n3_ n4_ n5_; (try clear hb); (try clear hb2); (try clear hk); (try clear hi); (try clear ho0)) | (go_at_call 15; (with_reducible refine (laws_qBack.calls kj11 _ _ t473 t507 _ ?side1 ?side2 A38.out).mono ?_); (case side1 => repeat (first | exact (Kd.R_reads' HO_5.out).2.2 | (with_reducible refine Kd.C_alloc ?_ _) | (with_reducible refine Kd.C_drewN ?_ _) | (with_reducible refine Kd.C_drew ?_))); (case side2 => exact (Kd.R_reads' HO_5.out).2.1); rintro e w44 ⟨v508, rfl, ho0, hb⟩; have n0_ := Aside0.mk (Kd.R_elder' (by (with_reducible repeat (first | apply Kd.R_alloc | apply Kd.R_drewN | apply Kd.R_drew)); exact HO_5.out) (Kd.R_base ho0) hb); have n1_ := Aside0.mk (Kd.R_elder' (by (with_reducible repeat (first | apply Kd.R_alloc | apply Kd.R_drewN | apply Kd.R_drew)); exact HO_7.out) (Kd.R_base ho0) hb); have n2_ := Aside0.mk (Kd.R_elder' (by (with_reducible repeat (first | apply Kd.R_alloc | apply Kd.R_drewN | apply Kd.R_drew)); exact HO_11.out) (Kd.R_base ho0) hb); have n3_ := Aside0.mk (Kd.R_elder' (by (with_reducible repeat (first | apply Kd.R_alloc | apply Kd.R_drewN | apply Kd.R_drew)); exact HO502.out) (Kd.R_base ho0) hb); have n4_ := Aside0.mk (Kd.R_elder' (by (with_reducible repeat (first | apply Kd.R_alloc | apply Kd.R_drewN | apply Kd.R_drew)); exact HO506.out) (Kd.R_base ho0) hb); have n5_ := Aside0.mk (Kd.R_lower (Kd.R_new' (Kd.R_new' (Kd.R_new' (Kd.R_new' (Kd.R_new' ho0 (Kd.R_lt (by (with_reducible repeat (first | apply Kd.R_alloc | apply Kd.R_drewN | apply Kd.R_drew)); exact HO_5.out))) (Kd.R_lt (by (with_reducible repeat (first | apply Kd.R_alloc | apply Kd.R_drewN | apply Kd.R_drew)); exact HO_7.out))) (Kd.R_lt (by (with_reducible repeat (first | apply Kd.R_alloc | apply Kd.R_drewN | apply Kd.R_drew)); exact HO_11.out))) (Kd.R_lt (by (with_reducible repeat (first | apply Kd.R_alloc | apply Kd.R_drewN | apply Kd.R_drew)); exact HO502.out))) (Kd.R_lt (by (with_reducible repeat (first | apply Kd.R_alloc | apply Kd.R_drewN | apply Kd.R_drew)); exact HO506.out))) (below_size (by repeat (first | (with_reducible first | exact HB.out | apply below_alloc | apply pw_below_drewN | apply below_drew1) | exact HB.out)))); have n6_ := Aside0.mk (below_step (by repeat (first | (with_reducible first | exact HB.out | apply below_alloc | apply pw_below_drewN | apply below_drew1) | exact HB.out)) hb); clear HO_5; clear HO_7; clear HO_11; clear HO502; clear HO506; clear HB; have HO_5 := n0_; have HO_7 := n1_; have HO_11 := n2_; have HO502 := n3_; have HO506 := n4_; have HO509 := n5_; have HB := n6_; clear n0_ n1_ n2_ n3_ n4_ n5_ n6_; (try clear hb); (try clear hb2); (try clear hk); (try clear hi); (try clear ho0); obtain ⟨Ao45, co45, eo45⟩ := Kd.R_slice HO509.out; subst eo45) | (go_at_call 6; (with_reducible refine (impl_SortedStep.calls kj11 _ _ t507 t474 t510 t511 _ ?side1 ?side2 A39.out).mono ?_); (case side1 => repeat (first | exact (Kd.R_reads' HO509.out).2.2 | (with_reducible refine Kd.C_alloc ?_ _) | (with_reducible refine Kd.C_drewN ?_ _) | (with_reducible refine Kd.C_drew ?_))); (case side2 => exact (Kd.R_reads' HO509.out).2.1); rintro e w46 ⟨v512, rfl, ho0, hb⟩; have n0_ := Aside0.mk (Kd.R_elder' (by (with_reducible repeat (first | apply Kd.R_alloc | apply Kd.R_drewN | apply Kd.R_drew)); exact HO_5.out) (Kd.R_base ho0) hb); have n1_ := Aside0.mk (Kd.R_elder' (by (with_reducible repeat (first | apply Kd.R_alloc | apply Kd.R_drewN | apply Kd.R_drew)); exact HO_7.out) (Kd.R_base ho0) hb); have n2_ := Aside0.mk (Kd.R_elder' (by (with_reducible repeat (first | apply Kd.R_alloc | apply Kd.R_drewN | apply Kd.R_drew)); exact HO_11.out) (Kd.R_base ho0) hb); have n3_ := Aside0.mk (Kd.R_elder' (by (with_reducible repeat (first | apply Kd.R_alloc | apply Kd.R_drewN | apply Kd.R_drew)); exact HO502.out) (Kd.R_base ho0) hb); have n4_ := Aside0.mk (Kd.R_elder' (by (with_reducible repeat (first | apply Kd.R_alloc | apply Kd.R_drewN | apply Kd.R_drew)); exact HO506.out) (Kd.R_base ho0) hb); have n5_ := Aside0.mk (Kd.R_elder' (by (with_reducible repeat (first | apply Kd.R_alloc | apply Kd.R_drewN | apply Kd.R_drew)); exact HO509.out) (Kd.R_base ho0) hb); have n6_ := Aside0.mk (Kd.R_lower (Kd.R_new' (Kd.R_new' (Kd.R_new' (Kd.R_new' (Kd.R_new' (Kd.R_new' ho0 (Kd.R_lt (by (with_reducible repeat (first | apply Kd.R_alloc | apply Kd.R_drewN | apply Kd.R_drew)); exact HO_5.out))) (Kd.R_lt (by (with_reducible repeat (first | apply Kd.R_alloc | apply Kd.R_drewN | apply Kd.R_drew)); exact HO_7.out))) (Kd.R_lt (by (with_reducible repeat (first | apply Kd.R_alloc | apply Kd.R_drewN | apply Kd.R_drew)); exact HO_11.out))) (Kd.R_lt (by (with_reducible repeat (first | apply Kd.R_alloc | apply Kd.R_drewN | apply Kd.R_drew)); exact HO502.out))) (Kd.R_lt (by (with_reducible repeat (first | apply Kd.R_alloc | apply Kd.R_drewN | apply Kd.R_drew)); exact HO506.out))) (Kd.R_lt (by (with_reducible repeat (first | apply Kd.R_alloc | apply Kd.R_drewN | apply Kd.R_drew)); exact HO509.out))) (below_size (by repeat (first | (with_reducible first | exact HB.out | apply below_alloc | apply pw_below_drewN | apply below_drew1) | exact HB.out)))); have n7_ := Aside0.mk (below_step (by repeat (first | (with_reducible first | exact HB.out | apply below_alloc | apply pw_below_drewN | apply below_drew1) | exact HB.out)) hb); clear HO_5; clear HO_7; clear HO_11; clear HO502; clear HO506; clear HO509; clear HB; have HO_5 := n0_; have HO_7 := n1_; have HO_11 := n2_; have HO502 := n3_; have HO506 := n4_; have HO509 := n5_; have HO513 := n6_; have HB := n7_; clear n0_ n1_ n2_ n3_ n4_ n5_ n6_ n7_; (try clear hb); (try clear hb2); (try clear hk); (try clear hi); (try clear ho0)))
       repeat (go_quiet (first | (go_at_call 13; (with_reducible refine (impl_StepByGaps.calls kj11 _ _ t485 (t473.length : Int) t474 t499 t500 _ ?side1 ?side2 A36.out).mono ?_); (case side1 => repeat (first | exact (Kd.R_reads' HO_11.out).2.2 | (with_reducible refine Kd.C_alloc ?_ _) | (with_reducible refine Kd.C_drewN ?_ _) | (with_reducible refine Kd.C_drew ?_))); (case side2 => exact (Kd.R_reads' HO_11.out).2.1); rintro e w42 ⟨v501, rfl, ho0, hb⟩; have n0_ := Aside0.mk (Kd.R_elder' (by (with_reducible repeat (first | apply Kd.R_alloc | apply Kd.R_drewN | apply Kd.R_drew)); exact HO_5.out) (Kd.R_base ho0) hb); have n1_ := Aside0.mk (Kd.R_elder' (by (with_reducible repeat (first | apply Kd.R_alloc | apply Kd.R_drewN | apply Kd.R_drew)); exact HO_7.out) (Kd.R_base ho0) hb); have n2_ := Aside0.mk (Kd.R_elder' (by (with_reducible repeat (first | apply Kd.R_alloc | apply Kd.R_drewN | apply Kd.R_drew)); exact HO_11.out) (Kd.R_base ho0) hb); have n3_ := Aside0.mk (Kd.R_lower (Kd.R_new' (Kd.R_new' (Kd.R_new' ho0 (Kd.R_lt (by (with_reducible repeat (first | apply Kd.R_alloc | apply Kd.R_drewN | apply Kd.R_drew)); exact HO_5.out))) (Kd.R_lt (by (with_reducible repeat (first | apply Kd.R_alloc | apply Kd.R_drewN | apply Kd.R_drew)); exact HO_7.out))) (Kd.R_lt (by (with_reducible repeat (first | apply Kd.R_alloc | apply Kd.R_drewN | apply Kd.R_drew)); exact HO_11.out))) (below_size (by repeat (first | (with_reducible first | exact HB.out | apply below_alloc | apply pw_below_drewN | apply below_drew1) | exact HB.out)))); have n4_ := Aside0.mk (below_step (by repeat (first | (with_reducible first | exact HB.out | apply below_alloc | apply pw_below_drewN | apply below_drew1) | exact HB.out)) hb); clear HO_5; clear HO_7; clear HO_11; clear HB; have HO_5 := n0_; have HO_7 := n1_; have HO_11 := n2_; have HO502 := n3_; have HB := n4_; clear n0_ n1_ n2_ n3_ n4_; (try clear hb); (try clear hb2); (try clear hk); (try clear hi); (try clear ho0)) | (go_at_call 14; (with_reducible refine (impl_WordOf.calls kj11 t493 (t473.length : Int) t474 t503 t504 _ A37.out).mono ?_); rintro e w43 ⟨v505, rfl, ho0, hb⟩; have n0_ := Aside0.mk (Kd.R_elder' (by (with_reducible repeat (first | apply Kd.R_alloc | apply Kd.R_drewN | apply Kd.R_drew)); exact HO_5.out) (Kd.R_base ho0) hb); have n1_ := Aside0.mk (Kd.R_elder' (by (with_reducible repeat (first | apply Kd.R_alloc | apply Kd.R_drewN | apply Kd.R_drew)); exact HO_7.out) (Kd.R_base ho0) hb); have n2_ := Aside0.mk (Kd.R_elder' (by (with_reducible repeat (first | apply Kd.R_alloc | apply Kd.R_drewN | apply Kd.R_drew)); exact HO_11.out) (Kd.R_base ho0) hb); have n3_ := Aside0.mk (Kd.R_elder' (by (with_reducible repeat (first | apply Kd.R_alloc | apply Kd.R_drewN | apply Kd.R_drew)); exact HO502.out) (Kd.R_base ho0) hb); have n4_ := Aside0.mk (Kd.R_lower (Kd.R_new' (Kd.R_new' (Kd.R_new' (Kd.R_new' ho0 (Kd.R_lt (by (with_reducible repeat (first | apply Kd.R_alloc | apply Kd.R_drewN | apply Kd.R_drew)); exact HO_5.out))) (Kd.R_lt (by (with_reducible repeat (first | apply Kd.R_alloc | apply Kd.R_drewN | apply Kd.R_drew)); exact HO_7.out))) (Kd.R_lt (by (with_reducible repeat (first | apply Kd.R_alloc | apply Kd.R_drewN | apply Kd.R_drew)); exact HO_11.out))) (Kd.R_lt (by (with_reducible repeat (first | apply Kd.R_alloc | apply Kd.R_drewN | apply Kd.R_drew)); exact HO502.out))) (below_size (by repeat (first | (with_reducible first | exact HB.out | apply below_alloc | apply pw_below_drewN | apply below_drew1) | exact HB.out)))); have n5_ := Aside0.mk (below_step (by repeat (first | (with_reducible first | exact HB.out | apply below_alloc | apply pw_below_drewN | apply below_drew1) | exact HB.out)) hb); clear HO_5; clear HO_7; clear HO_11; clear HO502; clear HB; have HO_5 := n0_; have HO_7 := n1_; have HO_11 := n2_; have HO502 := n3_; have HO506 := n4_; have HB := n5_; clear n0_ n1_ n2_ n3_ n4_ n5_; (try clear hb); (try clear hb2); (try clear hk); (try clear hi); (try clear ho0)) | (go_at_call 15; (with_reducible refine (laws_qBack.calls kj11 _ _ t473 t507 _ ?side1 ?side2 A38.out).mono ?_); (case side1 => repeat (first | exact (Kd.R_reads' HO_5.out).2.2 | (with_reducible refine Kd.C_alloc ?_ _) | (with_reducible refine Kd.C_drewN ?_ _) | (with_reducible refine Kd.C_drew ?_))); (case side2 => exact (Kd.R_reads' HO_5.out).2.1); rintro e w44 ⟨v508, rfl, ho0, hb⟩; have n0_ := Aside0.mk (Kd.R_elder' (by (with_reducible repeat (first | apply Kd.R_alloc | apply Kd.R_drewN | apply Kd.R_drew)); exact HO_5.out) (Kd.R_base ho0) hb); have n1_ := Aside0.mk (Kd.R_elder' (by (with_reducible repeat (first | apply Kd.R_alloc | apply Kd.R_drewN | apply Kd.R_drew)); exact HO_7.out) (Kd.R_base ho0) hb); have n2_ := Aside0.mk (Kd.R_elder' (by (with_reducible repeat (first | apply Kd.R_alloc | apply Kd.R_drewN | apply Kd.R_drew)); exact HO_11.out) (Kd.R_base ho0) hb); have n3_ := Aside0.mk (Kd.R_elder' (by (with_reducible repeat (first | apply Kd.R_alloc | apply Kd.R_drewN | apply Kd.R_drew)); exact HO502.out) (Kd.R_base ho0) hb); have n4_ := Aside0.mk (Kd.R_elder' (by (with_reducible repeat (first | apply Kd.R_alloc | apply Kd.R_drewN | apply Kd.R_drew)); exact HO506.out) (Kd.R_base ho0) hb); have n5_ := Aside0.mk (Kd.R_lower (Kd.R_new' (Kd.R_new' (Kd.R_new' (Kd.R_new' (Kd.R_new' ho0 (Kd.R_lt (by (with_reducible repeat (first | apply Kd.R_alloc | apply Kd.R_drewN | apply Kd.R_drew)); exact HO_5.out))) (Kd.R_lt (by (with_reducible repeat (first | apply Kd.R_alloc | apply Kd.R_drewN | apply Kd.R_drew)); exact HO_7.out))) (Kd.R_lt (by (with_reducible repeat (first | apply Kd.R_alloc | apply Kd.R_drewN | apply Kd.R_drew)); exact HO_11.out))) (Kd.R_lt (by (with_reducible repeat (first | apply Kd.R_alloc | apply Kd.R_drewN | apply Kd.R_drew)); exact HO502.out))) (Kd.R_lt (by (with_reducible repeat (first | apply Kd.R_alloc | apply Kd.R_drewN | apply Kd.R_drew)); exact HO506.out))) (below_size (by repeat (first | (with_reducible first | exact HB.out | apply below_alloc | apply pw_below_drewN | apply below_drew1) | exact HB.out)))); have n6_ := Aside0.mk (below_step (by repeat (first | (with_reducible first | exact HB.out | apply below_alloc | apply pw_below_drewN | apply below_drew1) | exact HB.out)) hb); clear HO_5; clear HO_7; clear HO_11; clear HO502; clear HO506; clear HB; have HO_5 := n0_; have HO_7 := n1_; have HO_11 := n2_; have HO502 := n3_; have HO506 := n4_; have HO509 := n5_; have HB := n6_; clear n0_ n1_ n2_ n3_ n4_ n5_ n6_; (try clear hb); (try clear hb2); (try clear hk); (try clear hi); (try clear ho0); obtain ⟨Ao45, co45, eo45⟩ := Kd.R_slice HO509.out; subst eo45) | (go_at_call 6; (with_reducible refine (impl_SortedStep.calls kj11 _ _ t507 t474 t510 t511 _ ?side1 ?side2 A39.out).mono ?_); (case side1 => repeat (first | exact (Kd.R_reads' HO509.out).2.2 | (with_reducible refine Kd.C_alloc ?_ _) | (with_reducible refine Kd.C_drewN ?_ _) | (with_reducible refine Kd.C_drew ?_))); (case side2 => exact (Kd.R_reads' HO509.out).2.1); rintro e w46 ⟨v512, rfl, ho0, hb⟩; have n0_ := Aside0.mk (Kd.R_elder' (by (with_reducible repeat (first | apply Kd.R_alloc | apply Kd.R_drewN | apply Kd.R_drew)); exact HO_5.out) (Kd.R_base ho0) hb); have n1_ := Aside0.mk (Kd.R_elder' (by (with_reducible repeat (first | apply Kd.R_alloc | apply Kd.R_drewN | apply Kd.R_drew)); exact HO_7.out) (Kd.R_base ho0) hb); have n2_ := Aside0.mk (Kd.R_elder' (by (with_reducible repeat (first | apply Kd.R_alloc | apply Kd.R_drewN | apply Kd.R_drew)); exact HO_11.out) (Kd.R_base ho0) hb); have n3_ := Aside0.mk (Kd.R_elder' (by (with_reducible repeat (first | apply Kd.R_alloc | apply Kd.R_drewN | apply Kd.R_drew)); exact HO502.out) (Kd.R_base ho0) hb); have n4_ := Aside0.mk (Kd.R_elder' (by (with_reducible repeat (first | apply Kd.R_alloc | apply Kd.R_drewN | apply Kd.R_drew)); exact HO506.out) (Kd.R_base ho0) hb); have n5_ := Aside0.mk (Kd.R_elder' (by (with_reducible repeat (first | apply Kd.R_alloc | apply Kd.R_drewN | apply Kd.R_drew)); exact HO509.out) (Kd.R_base ho0) hb); have n6_ := Aside0.mk (Kd.R_lower (Kd.R_new' (Kd.R_new' (Kd.R_new' (Kd.R_new' (Kd.R_new' (Kd.R_new' ho0 (Kd.R_lt (by (with_reducible repeat (first | apply Kd.R_alloc | apply Kd.R_drewN | apply Kd.R_drew)); exact HO_5.out))) (Kd.R_lt (by (with_reducible repeat (first | apply Kd.R_alloc | apply Kd.R_drewN | apply Kd.R_drew)); exact HO_7.out))) (Kd.R_lt (by (with_reducible repeat (first | apply Kd.R_alloc | apply Kd.R_drewN | apply Kd.R_drew)); exact HO_11.out))) (Kd.R_lt (by (with_reducible repeat (first | apply Kd.R_alloc | apply Kd.R_drewN | apply Kd.R_drew)); exact HO502.out))) (Kd.R_lt (by (with_reducible repeat (first | apply Kd.R_alloc | apply Kd.R_drewN | apply Kd.R_drew)); exact HO506.out))) (Kd.R_lt (by (with_reducible repeat (first | apply Kd.R_alloc | apply Kd.R_drewN | apply Kd.R_drew)); exact HO509.out))) (below_size (by repeat (first | (with_reducible first | exact HB.out | apply below_alloc | apply pw_below_drewN | apply below_drew1) | exact HB.out)))); have n7_ := Aside0.mk (below_step (by repeat (first | (with_reducible first | exact HB.out | apply below_alloc | apply pw_below_drewN | apply below_drew1) | exact HB.out)) hb); clear HO_5; clear HO_7; clear HO_11; clear HO502; clear HO506; clear HO509; clear HB; have HO_5 := n0_; have HO_7 := n1_; have HO_11 := n2_; have HO502 := n3_; have HO506 := n4_; have HO509 := n5_; have HO513 := n6_; have HB := n7_; clear n0_ n1_ n2_ n3_ n4_ n5_ n6_ n7_; (try clear hb); (try clear hb2); (try clear hk); (try clear hi); (try clear ho0))); go_upto_region 16 with (first | (go_at_call 13; (with_reducible refine (impl_StepByGaps.calls kj11 _ _ t485 (t473.length : Int) t474 t499 t500 _ ?side1 ?side2 A36.out).mono ?_); (case side1 => repeat (first | exact (Kd.R_reads' HO_11.out).2.2 | (with_reducible refine Kd.C_alloc ?_ _) | (with_reducible refine Kd.C_drewN ?_ _) | (with_reducible refine Kd.C_drew ?_))); (case side2 => exact (Kd.R_reads' HO_11.out).2.1); rintro e w42 ⟨v501, rfl, ho0, hb⟩; have n0_ := Aside0.mk (Kd.R_elder' (by (with_reducible repeat (first | apply Kd.R_alloc | apply Kd.R_drewN | apply Kd.R_drew)); exact HO_5.out) (Kd.R_base ho0) hb); have n1_ := Aside0.mk (Kd.R_elder' (by (with_reducible repeat (first | apply Kd.R_alloc | apply Kd.R_drewN | apply Kd.R_drew)); exact HO_7.out) (Kd.R_base ho0) hb); have n2_ := Aside0.mk (Kd.R_elder' (by (with_reducible repeat (first | apply Kd.R_alloc | apply Kd.R_drewN | apply Kd.R_drew)); exact HO_11.out) (Kd.R_base ho0) hb); have n3_ := Aside0.mk (Kd.R_lower (Kd.R_new' (Kd.R_new' (Kd.R_new' ho0 (Kd.R_lt (by (with_reducible repeat (first | apply Kd.R_alloc | apply Kd.R_drewN | apply Kd.R_drew)); exact HO_5.out))) (Kd.R_lt (by (with_reducible repeat (first | apply Kd.R_alloc | apply Kd.R_drewN | apply Kd.R_drew)); exact HO_7.out))) (Kd.R_lt (by (with_reducible repeat (first | apply Kd.R_alloc | apply Kd.R_drewN | apply Kd.R_drew)); exact HO_11.out))) (below_size (by repeat (first | (with_reducible first | exact HB.out | apply below_alloc | apply pw_below_drewN | apply below_drew1) | exact HB.out)))); have n4_ := Aside0.mk (below_step (by repeat (first | (with_reducible first | exact HB.out | apply below_alloc | apply pw_below_drewN | apply below_drew1) | exact HB.out)) hb); clear HO_5; clear HO_7; clear HO_11; clear HB; have HO_5 := n0_; have HO_7 := n1_; have HO_11 := n2_; have HO502 := n3_; have HB := n4_; clear n0_ n1_ n2_ n3_ n4_; (try clear hb); (try clear hb2); (try clear hk); (try clear hi); (try clear ho0)) | (go_at_call 14; (with_reducible refine (impl_WordOf.calls kj11 t493 (t473.length : Int) t474 t503 t504 _ A37.out).mono ?_); rintro e w43 ⟨v505, rfl, ho0, hb⟩; have n0_ := Aside0.mk (Kd.R_elder' (by (with_reducible repeat (first | apply Kd.R_alloc | apply Kd.R_drewN | apply Kd.R_drew)); exact HO_5.out) (Kd.R_base ho0) hb); have n1_ := Aside0.mk (Kd.R_elder' (by (with_reducible repeat (first | apply Kd.R_alloc | apply Kd.R_drewN | apply Kd.R_drew)); exact HO_7.out) (Kd.R_base ho0) hb); have n2_ := Aside0.mk (Kd.R_elder' (by (with_reducible repeat (first | apply Kd.R_alloc | apply Kd.R_drewN | apply Kd.R_drew)); exact HO_11.out) (Kd.R_base ho0) hb); have n3_ := Aside0.mk (Kd.R_elder' (by (with_reducible repeat (first | apply Kd.R_alloc | apply Kd.R_drewN | apply Kd.R_drew)); exact HO502.out) (Kd.R_base ho0) hb); have n4_ := Aside0.mk (Kd.R_lower (Kd.R_new' (Kd.R_new' (Kd.R_new' (Kd.R_new' ho0 (Kd.R_lt (by (with_reducible repeat (first | apply Kd.R_alloc | apply Kd.R_drewN | apply Kd.R_drew)); exact HO_5.out))) (Kd.R_lt (by (with_reducible repeat (first | apply Kd.R_alloc | apply Kd.R_drewN | apply Kd.R_drew)); exact HO_7.out))) (Kd.R_lt (by (with_reducible repeat (first | apply Kd.R_alloc | apply Kd.R_drewN | apply Kd.R_drew)); exact HO_11.out))) (Kd.R_lt (by (with_reducible repeat (first | apply Kd.R_alloc | apply Kd.R_drewN | apply Kd.R_drew)); exact HO502.out))) (below_size (by repeat (first | (with_reducible first | exact HB.out | apply below_alloc | apply pw_below_drewN | apply below_drew1) | exact HB.out)))); have n5_ := Aside0.mk (below_step (by repeat (first | (with_reducible first | exact HB.out | apply below_alloc | apply pw_below_drewN | apply below_drew1) | exact HB.out)) hb); clear HO_5; clear HO_7; clear HO_11; clear HO502; clear HB; have HO_5 := n0_; have HO_7 := n1_; have HO_11 := n2_; have HO502 := n3_; have HO506 := n4_; have HB := n5_; clear n0_ n1_ n2_ n3_ n4_ n5_; (try clear hb); (try clear hb2); (try clear hk); (try clear hi); (try clear ho0)) | (go_at_call 15; (with_reducible refine (laws_qBack.calls kj11 _ _ t473 t507 _ ?side1 ?side2 A38.out).mono ?_); (case side1 => repeat (first | exact (Kd.R_reads' HO_5.out).2.2 | (with_reducible refine Kd.C_alloc ?_ _) | (with_reducible refine Kd.C_drewN ?_ _) | (with_reducible refine Kd.C_drew ?_))); (case side2 => exact (Kd.R_reads' HO_5.out).2.1); rintro e w44 ⟨v508, rfl, ho0, hb⟩; have n0_ := Aside0.mk (Kd.R_elder' (by (with_reducible repeat (first | apply Kd.R_alloc | apply Kd.R_drewN | apply Kd.R_drew)); exact HO_5.out) (Kd.R_base ho0) hb); have n1_ := Aside0.mk (Kd.R_elder' (by (with_reducible repeat (first | apply Kd.R_alloc | apply Kd.R_drewN | apply Kd.R_drew)); exact HO_7.out) (Kd.R_base ho0) hb); have n2_ := Aside0.mk (Kd.R_elder' (by (with_reducible repeat (first | apply Kd.R_alloc | apply Kd.R_drewN | apply Kd.R_drew)); exact HO_11.out) (Kd.R_base ho0) hb); have n3_ := Aside0.mk (Kd.R_elder' (by (with_reducible repeat (first | apply Kd.R_alloc | apply Kd.R_drewN | apply Kd.R_drew)); exact HO502.out) (Kd.R_base ho0) hb); have n4_ := Aside0.mk (Kd.R_elder' (by (with_reducible repeat (first | apply Kd.R_alloc | apply Kd.R_drewN | apply Kd.R_drew)); exact HO506.out) (Kd.R_base ho0) hb); have n5_ := Aside0.mk (Kd.R_lower (Kd.R_new' (Kd.R_new' (Kd.R_new' (Kd.R_new' (Kd.R_new' ho0 (Kd.R_lt (by (with_reducible repeat (first | apply Kd.R_alloc | apply Kd.R_drewN | apply Kd.R_drew)); exact HO_5.out))) (Kd.R_lt (by (with_reducible repeat (first | apply Kd.R_alloc | apply Kd.R_drewN | apply Kd.R_drew)); exact HO_7.out))) (Kd.R_lt (by (with_reducible repeat (first | apply Kd.R_alloc | apply Kd.R_drewN | apply Kd.R_drew)); exact HO_11.out))) (Kd.R_lt (by (with_reducible repeat (first | apply Kd.R_alloc | apply Kd.R_drewN | apply Kd.R_drew)); exact HO502.out))) (Kd.R_lt (by (with_reducible repeat (first | apply Kd.R_alloc | apply Kd.R_drewN | apply Kd.R_drew)); exact HO506.out))) (below_size (by repeat (first | (with_reducible first | exact HB.out | apply below_alloc | apply pw_below_drewN | apply below_drew1) | exact HB.out)))); have n6_ := Aside0.mk (below_step (by repeat (first | (with_reducible first | exact HB.out | apply below_alloc | apply pw_below_drewN | apply below_drew1) | exact HB.out)) hb); clear HO_5; clear HO_7; clear HO_11; clear HO502; clear HO506; clear HB; have HO_5 := n0_; have HO_7 := n1_; have HO_11 := n2_; have HO502 := n3_; have HO506 := n4_; have HO509 := n5_; have HB := n6_; clear n0_ n1_ n2_ n3_ n4_ n5_ n6_; (try clear hb); (try clear hb2); (try clear hk); (try clear hi); (try clear ho0); obtain ⟨Ao45, co45, eo45⟩ := Kd.R_slice HO509.out; subst eo45) | (go_at_call 6; (with_reducible refine (impl_SortedStep.calls kj11 _ _ t507 t474 t510 t511 _ ?side1 ?side2 A39.out).mono ?_); (case side1 => repeat (first | exact (Kd.R_reads' HO509.out).2.2 | (with_reducible refine Kd.C_alloc ?_ _) | (with_reducible refine Kd.C_drewN ?_ _) | (with_reducible refine Kd.C_drew ?_))); (case side2 => exact (Kd.R_reads' HO509.out).2.1); rintro e w46 ⟨v512, rfl, ho0, hb⟩; have n0_ := Aside0.mk (Kd.R_elder' (by (with_reducible repeat (first | apply Kd.R_alloc | apply Kd.R_drewN | apply Kd.R_drew)); exact HO_5.out) (Kd.R_base ho0) hb); have n1_ := Aside0.mk (Kd.R_elder' (by (with_reducible repeat (first | apply Kd.R_alloc | apply Kd.R_drewN | apply Kd.R_drew)); exact HO_7.out) (Kd.R_base ho0) hb); have n2_ := Aside0.mk (Kd.R_elder' (by (with_reducible repeat (first | apply Kd.R_alloc | apply Kd.R_drewN | apply Kd.R_drew)); exact HO_11.out) (Kd.R_base ho0) hb); have n3_ := Aside0.mk (Kd.R_elder' (by (with_reducible repeat (first | apply Kd.R_alloc | apply Kd.R_drewN | apply Kd.R_drew)); exact HO502.out) (Kd.R_base ho0) hb); have n4_ := Aside0.mk (Kd.R_elder' (by (with_reducible repeat (first | apply Kd.R_alloc | apply Kd.R_drewN | apply Kd.R_drew)); exact HO506.out) (Kd.R_base ho0) hb); have n5_ := Aside0.mk (Kd.R_elder' (by (with_reducible repeat (first | apply Kd.R_alloc | apply Kd.R_drewN | apply Kd.R_drew)); exact HO509.out) (Kd.R_base ho0) hb); have n6_ := Aside0.mk (Kd.R_lower (Kd.R_new' (Kd.R_new' (Kd.R_new' (Kd.R_new' (Kd.R_new' (Kd.R_new' ho0 (Kd.R_lt (by (with_reducible repeat (first | apply Kd.R_alloc | apply Kd.R_drewN | apply Kd.R_drew)); exact HO_5.out))) (Kd.R_lt (by (with_reducible repeat (first | apply Kd.R_alloc | apply Kd.R_drewN | apply Kd.R_drew)); exact HO_7.out))) (Kd.R_lt (by (with_reducible repeat (first | apply Kd.R_alloc | apply Kd.R_drewN | apply Kd.R_drew)); exact HO_11.out))) (Kd.R_lt (by (with_reducible repeat (first | apply Kd.R_alloc | apply Kd.R_drewN | apply Kd.R_drew)); exact HO502.out))) (Kd.R_lt (by (with_reducible repeat (first | apply Kd.R_alloc | apply Kd.R_drewN | apply Kd.R_drew)); exact HO506.out))) (Kd.R_lt (by (with_reducible repeat (first | apply Kd.R_alloc | apply Kd.R_drewN | apply Kd.R_drew)); exact HO509.out))) (below_size (by repeat (first | (with_reducible first | exact HB.out | apply below_alloc | apply pw_below_drewN | apply below_drew1) | exact HB.out)))); have n7_ := Aside0.mk (below_step (by repeat (first | (with_reducible first | exact HB.out | apply below_alloc | apply pw_below_drewN | apply below_drew1) | exact HB.out)) hb); clear HO_5; clear HO_7; clear HO_11; clear HO502; clear HO506; clear HO509; clear HB; have HO_5 := n0_; have HO_7 := n1_; have HO_11 := n2_; have HO502 := n3_; have HO506 := n4_; have HO509 := n5_; have HO513 := n6_; have HB := n7_; clear n0_ n1_ n2_ n3_ n4_ n5_ n6_ n7_; (try clear hb); (try clear hb2); (try clear hk); (try clear hi); (try clear ho0))))
       (try simp only [Act.put, List.setIfInBounds_toArray, List.set_cons_zero, List.set_cons_succ])
       go_cut [198] (fun v198 wc => ∃ (kq : Nat) (x198_39 : Bool), v198 = .bool x198_39 ∧ Aside0 (laws_FnStepsByGaps.j1 kq l0 l1 t485 x198_39 = some r) ∧ Aside0 (kq ≤ kj11) ∧ Aside0 (Kd.R (Kd.int .i64) 3 wc w.heap.size (fun _ => True) (.slice Ao41 t485.length co41) t485) ∧ Aside0 (Below w.heap.size w wc))
       case first =>
        as_aux_lemma =>
        have H := HC40.out
        clear HC40
        by_cases c47 : t500 = true
        ·subst c47
         have H1 : ((laws_qSame.f kj11 t499 t477).bind fun t514 => (if t514 = true then (if t504 = true then ((laws_qSame.f kj11 t503 t473).bind fun t515 => (if t515 = true then (if t511 = true then ((laws_qSame.f kj11 t510 t477).bind fun t516 => (if t516 = true then ((laws_qValue.f kj11 t477 t474).bind fun t517 => (if (wrap64 (t474 - 1)) = 0 then (none) else (if (Int.tmod t517 (wrap64 (t474 - 1))) = 0 then (laws_FnStepsByGaps.j1 kj11 l0 l1 t485 ((t477.length : Int) != (t473.length : Int))) else (laws_FnStepsByGaps.j1 kj11 l0 l1 t485 true)))) else (laws_FnStepsByGaps.j1 kj11 l0 l1 t485 true))) else (laws_FnStepsByGaps.j1 kj11 l0 l1 t485 true)) else (laws_FnStepsByGaps.j1 kj11 l0 l1 t485 true))) else (laws_FnStepsByGaps.j1 kj11 l0 l1 t485 true)) else (laws_FnStepsByGaps.j1 kj11 l0 l1 t485 true))) = some r := by rw [if_pos rfl] at H; exact H
         clear H
         have H := H1
         clear H1
         replace H := Option.bind_eq_some_iff.mp H
         obtain ⟨t514, A480, H⟩ := H
         replace H : (if t514 = true then (if t504 = true then ((laws_qSame.f kj11 t503 t473).bind fun t515 => (if t515 = true then (if t511 = true then ((laws_qSame.f kj11 t510 t477).bind fun t516 => (if t516 = true then ((laws_qValue.f kj11 t477 t474).bind fun t517 => (if (wrap64 (t474 - 1)) = 0 then (none) else (if (Int.tmod t517 (wrap64 (t474 - 1))) = 0 then (laws_FnStepsByGaps.j1 kj11 l0 l1 t485 ((t477.length : Int) != (t473.length : Int))) else (laws_FnStepsByGaps.j1 kj11 l0 l1 t485 true)))) else (laws_FnStepsByGaps.j1 kj11 l0 l1 t485 true))) else (laws_FnStepsByGaps.j1 kj11 l0 l1 t485 true)) else (laws_FnStepsByGaps.j1 kj11 l0 l1 t485 true))) else (laws_FnStepsByGaps.j1 kj11 l0 l1 t485 true)) else (laws_FnStepsByGaps.j1 kj11 l0 l1 t485 true)) = some r := H
         have A48 := Aside0.mk A480
         clear A480
         by_cases c49 : t514 = true
         ·subst c49
          have H1 : (if t504 = true then ((laws_qSame.f kj11 t503 t473).bind fun t515 => (if t515 = true then (if t511 = true then ((laws_qSame.f kj11 t510 t477).bind fun t516 => (if t516 = true then ((laws_qValue.f kj11 t477 t474).bind fun t517 => (if (wrap64 (t474 - 1)) = 0 then (none) else (if (Int.tmod t517 (wrap64 (t474 - 1))) = 0 then (laws_FnStepsByGaps.j1 kj11 l0 l1 t485 ((t477.length : Int) != (t473.length : Int))) else (laws_FnStepsByGaps.j1 kj11 l0 l1 t485 true)))) else (laws_FnStepsByGaps.j1 kj11 l0 l1 t485 true))) else (laws_FnStepsByGaps.j1 kj11 l0 l1 t485 true)) else (laws_FnStepsByGaps.j1 kj11 l0 l1 t485 true))) else (laws_FnStepsByGaps.j1 kj11 l0 l1 t485 true)) = some r := by rw [if_pos rfl] at H; exact H
          clear H
          have H := H1
          clear H1
          by_cases c50 : t504 = true
          ·subst c50
           have H1 : ((laws_qSame.f kj11 t503 t473).bind fun t515 => (if t515 = true then (if t511 = true then ((laws_qSame.f kj11 t510 t477).bind fun t516 => (if t516 = true then ((laws_qValue.f kj11 t477 t474).bind fun t517 => (if (wrap64 (t474 - 1)) = 0 then (none) else (if (Int.tmod t517 (wrap64 (t474 - 1))) = 0 then (laws_FnStepsByGaps.j1 kj11 l0 l1 t485 ((t477.length : Int) != (t473.length : Int))) else (laws_FnStepsByGaps.j1 kj11 l0 l1 t485 true)))) else (laws_FnStepsByGaps.j1 kj11 l0 l1 t485 true))) else (laws_FnStepsByGaps.j1 kj11 l0 l1 t485 true)) else (laws_FnStepsByGaps.j1 kj11 l0 l1 t485 true))) = some r := by rw [if_pos rfl] at H; exact H
           clear H
           have H := H1
           clear H1
           replace H := Option.bind_eq_some_iff.mp H
           obtain ⟨t515, A510, H⟩ := H
           replace H : (if t515 = true then (if t511 = true then ((laws_qSame.f kj11 t510 t477).bind fun t516 => (if t516 = true then ((laws_qValue.f kj11 t477 t474).bind fun t517 => (if (wrap64 (t474 - 1)) = 0 then (none) else (if (Int.tmod t517 (wrap64 (t474 - 1))) = 0 then (laws_FnStepsByGaps.j1 kj11 l0 l1 t485 ((t477.length : Int) != (t473.length : Int))) else (laws_FnStepsByGaps.j1 kj11 l0 l1 t485 true)))) else (laws_FnStepsByGaps.j1 kj11 l0 l1 t485 true))) else (laws_FnStepsByGaps.j1 kj11 l0 l1 t485 true)) else (laws_FnStepsByGaps.j1 kj11 l0 l1 t485 true)) = some r := H
           have A51 := Aside0.mk A510
           clear A510
           by_cases c52 : t515 = true
           ·subst c52
            have H1 : (if t511 = true then ((laws_qSame.f kj11 t510 t477).bind fun t516 => (if t516 = true then ((laws_qValue.f kj11 t477 t474).bind fun t517 => (if (wrap64 (t474 - 1)) = 0 then (none) else (if (Int.tmod t517 (wrap64 (t474 - 1))) = 0 then (laws_FnStepsByGaps.j1 kj11 l0 l1 t485 ((t477.length : Int) != (t473.length : Int))) else (laws_FnStepsByGaps.j1 kj11 l0 l1 t485 true)))) else (laws_FnStepsByGaps.j1 kj11 l0 l1 t485 true))) else (laws_FnStepsByGaps.j1 kj11 l0 l1 t485 true)) = some r := by rw [if_pos rfl] at H; exact H
            clear H
            have H := H1
            clear H1
            by_cases c53 : t511 = true
            ·subst c53
             have H1 : ((laws_qSame.f kj11 t510 t477).bind fun t516 => (if t516 = true then ((laws_qValue.f kj11 t477 t474).bind fun t517 => (if (wrap64 (t474 - 1)) = 0 then (none) else (if (Int.tmod t517 (wrap64 (t474 - 1))) = 0 then (laws_FnStepsByGaps.j1 kj11 l0 l1 t485 ((t477.length : Int) != (t473.length : Int))) else (laws_FnStepsByGaps.j1 kj11 l0 l1 t485 true)))) else (laws_FnStepsByGaps.j1 kj11 l0 l1 t485 true))) = some r := by rw [if_pos rfl] at H; exact H
             clear H
             have H := H1
             clear H1
             replace H := Option.bind_eq_some_iff.mp H
             obtain ⟨t516, A540, H⟩ := H
             replace H : (if t516 = true then ((laws_qValue.f kj11 t477 t474).bind fun t517 => (if (wrap64 (t474 - 1)) = 0 then (none) else (if (Int.tmod t517 (wrap64 (t474 - 1))) = 0 then (laws_FnStepsByGaps.j1 kj11 l0 l1 t485 ((t477.length : Int) != (t473.length : Int))) else (laws_FnStepsByGaps.j1 kj11 l0 l1 t485 true)))) else (laws_FnStepsByGaps.j1 kj11 l0 l1 t485 true)) = some r := H
             have A54 := Aside0.mk A540
             clear A540
             by_cases c55 : t516 = true
             ·subst c55
              have H1 : ((laws_qValue.f kj11 t477 t474).bind fun t517 => (if (wrap64 (t474 - 1)) = 0 then (none) else (if (Int.tmod t517 (wrap64 (t474 - 1))) = 0 then (laws_FnStepsByGaps.j1 kj11 l0 l1 t485 ((t477.length : Int) != (t473.length : Int))) else (laws_FnStepsByGaps.j1 kj11 l0 l1 t485 true)))) = some r := by rw [if_pos rfl] at H; exact H
              clear H
              have H := H1
              clear H1
              replace H := Option.bind_eq_some_iff.mp H
              obtain ⟨t517, A560, H⟩ := H
              replace H : (if (wrap64 (t474 - 1)) = 0 then (none) else (if (Int.tmod t517 (wrap64 (t474 - 1))) = 0 then (laws_FnStepsByGaps.j1 kj11 l0 l1 t485 ((t477.length : Int) != (t473.length : Int))) else (laws_FnStepsByGaps.j1 kj11 l0 l1 t485 true))) = some r := H
              have A56 := Aside0.mk A560
              clear A560
              by_cases c57 : (wrap64 (t474 - 1)) = 0
              ·rw [if_pos c57] at H
               exact absurd H (by simp)
              ·rw [if_neg c57] at H
               have c57b0 : ((wrap64 (t474 - 1)) == 0) = false := beq_eq_false_iff_ne.mpr c57
               have c57b1 : ((wrap64 (t474 - 1)) != 0) = true := bne_iff_ne.mpr c57
               (first | rw [c57b0] | (simp only [i64_w, i32_w]; rw [c57b0]) | skip)
               by_cases c58 : (Int.tmod t517 (wrap64 (t474 - 1))) = 0
               ·rw [if_pos c58] at H
                have c58b0 : ((Int.tmod t517 (wrap64 (t474 - 1))) == 0) = true := beq_iff_eq.mpr c58
                have c58b1 : ((Int.tmod t517 (wrap64 (t474 - 1))) != 0) = false := bne_eq_false_iff_eq.mpr c58
                clear c58
                as_aux_lemma =>
                 have H' := Aside0.mk H
                 clear H
                 obtain ⟨Ao59, co59, eo59⟩ := Kd.R_slice HO502.out
                 subst eo59
                 obtain ⟨Ao60, co60, eo60⟩ := Kd.R_slice HO_7.out
                 subst eo60
                 go_wp2_with (first | (go_at_call 12; (with_reducible refine (laws_qSame.calls kj11 _ _ t499 _ _ t477 true _ ?side1 ?side2 ?side3 ?side4 A48.out).mono ?_); (case side1 => repeat (first | exact (Kd.R_reads' HO502.out).2.2 | (with_reducible refine Kd.C_alloc ?_ _) | (with_reducible refine Kd.C_drewN ?_ _) | (with_reducible refine Kd.C_drew ?_))); (case side2 => exact (Kd.R_reads' HO502.out).2.1); (case side3 => repeat (first | exact (Kd.R_reads' HO_7.out).2.2 | (with_reducible refine Kd.C_alloc ?_ _) | (with_reducible refine Kd.C_drewN ?_ _) | (with_reducible refine Kd.C_drew ?_))); (case side4 => exact (Kd.R_reads' HO_7.out).2.1); rintro e w' ⟨rfl, ⟨nd, rfl⟩⟩; (try first | exact ⟨rfl, _, World.drewN_drewN _ _ _⟩ | exact ⟨rfl, _, Eq.trans (World.drewN_drewN _ _ _) (congrArg (World.drewN _) (Nat.add_assoc _ _ _))⟩); obtain ⟨Ao61, co61, eo61⟩ := Kd.R_slice HO506.out; subst eo61) | (go_at_call 12; (with_reducible refine (laws_qSame.calls kj11 _ _ t503 _ _ t473 true _ ?side1 ?side2 ?side3 ?side4 A51.out).mono ?_); (case side1 => repeat (first | exact (Kd.R_reads' HO506.out).2.2 | (with_reducible refine Kd.C_alloc ?_ _) | (with_reducible refine Kd.C_drewN ?_ _) | (with_reducible refine Kd.C_drew ?_))); (case side2 => exact (Kd.R_reads' HO506.out).2.1); (case side3 => repeat (first | exact (Kd.R_reads' HO_5.out).2.2 | (with_reducible refine Kd.C_alloc ?_ _) | (with_reducible refine Kd.C_drewN ?_ _) | (with_reducible refine Kd.C_drew ?_))); (case side4 => exact (Kd.R_reads' HO_5.out).2.1); rintro e w' ⟨rfl, ⟨nd, rfl⟩⟩; (try first | exact ⟨rfl, _, World.drewN_drewN _ _ _⟩ | exact ⟨rfl, _, Eq.trans (World.drewN_drewN _ _ _) (congrArg (World.drewN _) (Nat.add_assoc _ _ _))⟩); obtain ⟨Ao62, co62, eo62⟩ := Kd.R_slice HO513.out; subst eo62) | (go_at_call 12; (with_reducible refine (laws_qSame.calls kj11 _ _ t510 _ _ t477 true _ ?side1 ?side2 ?side3 ?side4 A54.out).mono ?_); (case side1 => repeat (first | exact (Kd.R_reads' HO513.out).2.2 | (with_reducible refine Kd.C_alloc ?_ _) | (with_reducible refine Kd.C_drewN ?_ _) | (with_reducible refine Kd.C_drew ?_))); (case side2 => exact (Kd.R_reads' HO513.out).2.1); (case side3 => repeat (first | exact (Kd.R_reads' HO_7.out).2.2 | (with_reducible refine Kd.C_alloc ?_ _) | (with_reducible refine Kd.C_drewN ?_ _) | (with_reducible refine Kd.C_drew ?_))); (case side4 => exact (Kd.R_reads' HO_7.out).2.1); rintro e w' ⟨rfl, ⟨nd, rfl⟩⟩; (try first | exact ⟨rfl, _, World.drewN_drewN _ _ _⟩ | exact ⟨rfl, _, Eq.trans (World.drewN_drewN _ _ _) (congrArg (World.drewN _) (Nat.add_assoc _ _ _))⟩)) | (go_at_call 16; (with_reducible refine (laws_qValue.calls kj11 _ _ t477 t474 t517 _ ?side1 ?side2 A56.out).mono ?_); (case side1 => repeat (first | exact (Kd.R_reads' HO_7.out).2.2 | (with_reducible refine Kd.C_alloc ?_ _) | (with_reducible refine Kd.C_drewN ?_ _) | (with_reducible refine Kd.C_drew ?_))); (case side2 => exact (Kd.R_reads' HO_7.out).2.1); rintro e w63 ⟨rfl, hb⟩; have n0_ := Aside0.mk (Kd.R_below (by (with_reducible repeat (first | apply Kd.R_alloc | apply Kd.R_drewN | apply Kd.R_drew)); exact HO_5.out) hb); have n1_ := Aside0.mk (Kd.R_below (by (with_reducible repeat (first | apply Kd.R_alloc | apply Kd.R_drewN | apply Kd.R_drew)); exact HO_7.out) hb); have n2_ := Aside0.mk (Kd.R_below (by (with_reducible repeat (first | apply Kd.R_alloc | apply Kd.R_drewN | apply Kd.R_drew)); exact HO_11.out) hb); have n3_ := Aside0.mk (Kd.R_below (by (with_reducible repeat (first | apply Kd.R_alloc | apply Kd.R_drewN | apply Kd.R_drew)); exact HO502.out) hb); have n4_ := Aside0.mk (Kd.R_below (by (with_reducible repeat (first | apply Kd.R_alloc | apply Kd.R_drewN | apply Kd.R_drew)); exact HO506.out) hb); have n5_ := Aside0.mk (Kd.R_below (by (with_reducible repeat (first | apply Kd.R_alloc | apply Kd.R_drewN | apply Kd.R_drew)); exact HO509.out) hb); have n6_ := Aside0.mk (Kd.R_below (by (with_reducible repeat (first | apply Kd.R_alloc | apply Kd.R_drewN | apply Kd.R_drew)); exact HO513.out) hb); have n7_ := Aside0.mk (below_step (by repeat (first | (with_reducible first | exact HB.out | apply below_alloc | apply pw_below_drewN | apply below_drew1) | exact HB.out)) hb); clear HO_5; clear HO_7; clear HO_11; clear HO502; clear HO506; clear HO509; clear HO513; clear HB; have HO_5 := n0_; have HO_7 := n1_; have HO_11 := n2_; have HO502 := n3_; have HO506 := n4_; have HO509 := n5_; have HO513 := n6_; have HB := n7_; clear n0_ n1_ n2_ n3_ n4_ n5_ n6_ n7_; (try clear hb); (try clear hb2); (try clear hk); (try clear hi)))
                 repeat (go_quiet (first | (go_at_call 12; (with_reducible refine (laws_qSame.calls kj11 _ _ t499 _ _ t477 true _ ?side1 ?side2 ?side3 ?side4 A48.out).mono ?_); (case side1 => repeat (first | exact (Kd.R_reads' HO502.out).2.2 | (with_reducible refine Kd.C_alloc ?_ _) | (with_reducible refine Kd.C_drewN ?_ _) | (with_reducible refine Kd.C_drew ?_))); (case side2 => exact (Kd.R_reads' HO502.out).2.1); (case side3 => repeat (first | exact (Kd.R_reads' HO_7.out).2.2 | (with_reducible refine Kd.C_alloc ?_ _) | (with_reducible refine Kd.C_drewN ?_ _) | (with_reducible refine Kd.C_drew ?_))); (case side4 => exact (Kd.R_reads' HO_7.out).2.1); rintro e w' ⟨rfl, ⟨nd, rfl⟩⟩; (try first | exact ⟨rfl, _, World.drewN_drewN _ _ _⟩ | exact ⟨rfl, _, Eq.trans (World.drewN_drewN _ _ _) (congrArg (World.drewN _) (Nat.add_assoc _ _ _))⟩); obtain ⟨Ao61, co61, eo61⟩ := Kd.R_slice HO506.out; subst eo61) | (go_at_call 12; (with_reducible refine (laws_qSame.calls kj11 _ _ t503 _ _ t473 true _ ?side1 ?side2 ?side3 ?side4 A51.out).mono ?_); (case side1 => repeat (first | exact (Kd.R_reads' HO506.out).2.2 | (with_reducible refine Kd.C_alloc ?_ _) | (with_reducible refine Kd.C_drewN ?_ _) | (with_reducible refine Kd.C_drew ?_))); (case side2 => exact (Kd.R_reads' HO506.out).2.1); (case side3 => repeat (first | exact (Kd.R_reads' HO_5.out).2.2 | (with_reducible refine Kd.C_alloc ?_ _) | (with_reducible refine Kd.C_drewN ?_ _) | (with_reducible refine Kd.C_drew ?_))); (case side4 => exact (Kd.R_reads' HO_5.out).2.1); rintro e w' ⟨rfl, ⟨nd, rfl⟩⟩; (try first | exact ⟨rfl, _, World.drewN_drewN _ _ _⟩ | exact ⟨rfl, _, Eq.trans (World.drewN_drewN _ _ _) (congrArg (World.drewN _) (Nat.add_assoc _ _ _))⟩); obtain ⟨Ao62, co62, eo62⟩ := Kd.R_slice HO513.out; subst eo62) | (go_at_call 12; (with_reducible refine (laws_qSame.calls kj11 _ _ t510 _ _ t477 true _ ?side1 ?side2 ?side3 ?side4 A54.out).mono ?_); (case side1 => repeat (first | exact (Kd.R_reads' HO513.out).2.2 | (with_reducible refine Kd.C_alloc ?_ _) | (with_reducible refine Kd.C_drewN ?_ _) | (with_reducible refine Kd.C_drew ?_))); (case side2 => exact (Kd.R_reads' HO513.out).2.1); (case side3 => repeat (first | exact (Kd.R_reads' HO_7.out).2.2 | (with_reducible refine Kd.C_alloc ?_ _) | (with_reducible refine Kd.C_drewN ?_ _) | (with_reducible refine Kd.C_drew ?_))); (case side4 => exact (Kd.R_reads' HO_7.out).2.1); rintro e w' ⟨rfl, ⟨nd, rfl⟩⟩; (try first | exact ⟨rfl, _, World.drewN_drewN _ _ _⟩ | exact ⟨rfl, _, Eq.trans (World.drewN_drewN _ _ _) (congrArg (World.drewN _) (Nat.add_assoc _ _ _))⟩)) | (go_at_call 16; (with_reducible refine (laws_qValue.calls kj11 _ _ t477 t474 t517 _ ?side1 ?side2 A56.out).mono ?_); (case side1 => repeat (first | exact (Kd.R_reads' HO_7.out).2.2 | (with_reducible refine Kd.C_alloc ?_ _) | (with_reducible refine Kd.C_drewN ?_ _) | (with_reducible refine Kd.C_drew ?_))); (case side2 => exact (Kd.R_reads' HO_7.out).2.1); rintro e w63 ⟨rfl, hb⟩; have n0_ := Aside0.mk (Kd.R_below (by (with_reducible repeat (first | apply Kd.R_alloc | apply Kd.R_drewN | apply Kd.R_drew)); exact HO_5.out) hb); have n1_ := Aside0.mk (Kd.R_below (by (with_reducible repeat (first | apply Kd.R_alloc | apply Kd.R_drewN | apply Kd.R_drew)); exact HO_7.out) hb); have n2_ := Aside0.mk (Kd.R_below (by (with_reducible repeat (first | apply Kd.R_alloc | apply Kd.R_drewN | apply Kd.R_drew)); exact HO_11.out) hb); have n3_ := Aside0.mk (Kd.R_below (by (with_reducible repeat (first | apply Kd.R_alloc | apply Kd.R_drewN | apply Kd.R_drew)); exact HO502.out) hb); have n4_ := Aside0.mk (Kd.R_below (by (with_reducible repeat (first | apply Kd.R_alloc | apply Kd.R_drewN | apply Kd.R_drew)); exact HO506.out) hb); have n5_ := Aside0.mk (Kd.R_below (by (with_reducible repeat (first | apply Kd.R_alloc | apply Kd.R_drewN | apply Kd.R_drew)); exact HO509.out) hb); have n6_ := Aside0.mk (Kd.R_below (by (with_reducible repeat (first | apply Kd.R_alloc | apply Kd.R_drewN | apply Kd.R_drew)); exact HO513.out) hb); have n7_ := Aside0.mk (below_step (by repeat (first | (with_reducible first | exact HB.out | apply below_alloc | apply pw_below_drewN | apply below_drew1) | exact HB.out)) hb); clear HO_5; clear HO_7; clear HO_11; clear HO502; clear HO506; clear HO509; clear HO513; clear HB; have HO_5 := n0_; have HO_7 := n1_; have HO_11 := n2_; have HO502 := n3_; have HO506 := n4_; have HO509 := n5_; have HO513 := n6_; have HB := n7_; clear n0_ n1_ n2_ n3_ n4_ n5_ n6_ n7_; (try clear hb); (try clear hb2); (try clear hk); (try clear hi))); try go_wp2_with (first | (go_at_call 12; (with_reducible refine (laws_qSame.calls kj11 _ _ t499 _ _ t477 true _ ?side1 ?side2 ?side3 ?side4 A48.out).mono ?_); (case side1 => repeat (first | exact (Kd.R_reads' HO502.out).2.2 | (with_reducible refine Kd.C_alloc ?_ _) | (with_reducible refine Kd.C_drewN ?_ _) | (with_reducible refine Kd.C_drew ?_))); (case side2 => exact (Kd.R_reads' HO502.out).2.1); (case side3 => repeat (first | exact (Kd.R_reads' HO_7.out).2.2 | (with_reducible refine Kd.C_alloc ?_ _) | (with_reducible refine Kd.C_drewN ?_ _) | (with_reducible refine Kd.C_drew ?_))); (case side4 => exact (Kd.R_reads' HO_7.out).2.1); rintro e w' ⟨rfl, ⟨nd, rfl⟩⟩; (try first | exact ⟨rfl, _, World.drewN_drewN _ _ _⟩ | exact ⟨rfl, _, Eq.trans (World.drewN_drewN _ _ _) (congrArg (World.drewN _) (Nat.add_assoc _ _ _))⟩); obtain ⟨Ao61, co61, eo61⟩ := Kd.R_slice HO506.out; subst eo61) | (go_at_call 12; (with_reducible refine (laws_qSame.calls kj11 _ _ t503 _ _ t473 true _ ?side1 ?side2 ?side3 ?side4 A51.out).mono ?_); (case side1 => repeat (first | exact (Kd.R_reads' HO506.out).2.2 | (with_reducible refine Kd.C_alloc ?_ _) | (with_reducible refine Kd.C_drewN ?_ _) | (with_reducible refine Kd.C_drew ?_))); (case side2 => exact (Kd.R_reads' HO506.out).2.1); (case side3 => repeat (first | exact (Kd.R_reads' HO_5.out).2.2 | (with_reducible refine Kd.C_alloc ?_ _) | (with_reducible refine Kd.C_drewN ?_ _) | (with_reducible refine Kd.C_drew ?_))); (case side4 => exact (Kd.R_reads' HO_5.out).2.1); rintro e w' ⟨rfl, ⟨nd, rfl⟩⟩; (try first | exact ⟨rfl, _, World.drewN_drewN _ _ _⟩ | exact ⟨rfl, _, Eq.trans (World.drewN_drewN _ _ _) (congrArg (World.drewN _) (Nat.add_assoc _ _ _))⟩); obtain ⟨Ao62, co62, eo62⟩ := Kd.R_slice HO513.out; subst eo62) | (go_at_call 12; (with_reducible refine (laws_qSame.calls kj11 _ _ t510 _ _ t477 true _ ?side1 ?side2 ?side3 ?side4 A54.out).mono ?_); (case side1 => repeat (first | exact (Kd.R_reads' HO513.out).2.2 | (with_reducible refine Kd.C_alloc ?_ _) | (with_reducible refine Kd.C_drewN ?_ _) | (with_reducible refine Kd.C_drew ?_))); (case side2 => exact (Kd.R_reads' HO513.out).2.1); (case side3 => repeat (first | exact (Kd.R_reads' HO_7.out).2.2 | (with_reducible refine Kd.C_alloc ?_ _) | (with_reducible refine Kd.C_drewN ?_ _) | (with_reducible refine Kd.C_drew ?_))); (case side4 => exact (Kd.R_reads' HO_7.out).2.1); rintro e w' ⟨rfl, ⟨nd, rfl⟩⟩; (try first | exact ⟨rfl, _, World.drewN_drewN _ _ _⟩ | exact ⟨rfl, _, Eq.trans (World.drewN_drewN _ _ _) (congrArg (World.drewN _) (Nat.add_assoc _ _ _))⟩)) | (go_at_call 16; (with_reducible refine (laws_qValue.calls kj11 _ _ t477 t474 t517 _ ?side1 ?side2 A56.out).mono ?_); (case side1 => repeat (first | exact (Kd.R_reads' HO_7.out).2.2 | (with_reducible refine Kd.C_alloc ?_ _) | (with_reducible refine Kd.C_drewN ?_ _) | (with_reducible refine Kd.C_drew ?_))); (case side2 => exact (Kd.R_reads' HO_7.out).2.1); rintro e w63 ⟨rfl, hb⟩; have n0_ := Aside0.mk (Kd.R_below (by (with_reducible repeat (first | apply Kd.R_alloc | apply Kd.R_drewN | apply Kd.R_drew)); exact HO_5.out) hb); have n1_ := Aside0.mk (Kd.R_below (by (with_reducible repeat (first | apply Kd.R_alloc | apply Kd.R_drewN | apply Kd.R_drew)); exact HO_7.out) hb); have n2_ := Aside0.mk (Kd.R_below (by (with_reducible repeat (first | apply Kd.R_alloc | apply Kd.R_drewN | apply Kd.R_drew)); exact HO_11.out) hb); have n3_ := Aside0.mk (Kd.R_below (by (with_reducible repeat (first | apply Kd.R_alloc | apply Kd.R_drewN | apply Kd.R_drew)); exact HO502.out) hb); have n4_ := Aside0.mk (Kd.R_below (by (with_reducible repeat (first | apply Kd.R_alloc | apply Kd.R_drewN | apply Kd.R_drew)); exact HO506.out) hb); have n5_ := Aside0.mk (Kd.R_below (by (with_reducible repeat (first | apply Kd.R_alloc | apply Kd.R_drewN | apply Kd.R_drew)); exact HO509.out) hb); have n6_ := Aside0.mk (Kd.R_below (by (with_reducible repeat (first | apply Kd.R_alloc | apply Kd.R_drewN | apply Kd.R_drew)); exact HO513.out) hb); have n7_ := Aside0.mk (below_step (by repeat (first | (with_reducible first | exact HB.out | apply below_alloc | apply pw_below_drewN | apply below_drew1) | exact HB.out)) hb); clear HO_5; clear HO_7; clear HO_11; clear HO502; clear HO506; clear HO509; clear HO513; clear HB; have HO_5 := n0_; have HO_7 := n1_; have HO_11 := n2_; have HO502 := n3_; have HO506 := n4_; have HO509 := n5_; have HO513 := n6_; have HB := n7_; clear n0_ n1_ n2_ n3_ n4_ n5_ n6_ n7_; (try clear hb); (try clear hb2); (try clear hk); (try clear hi))))
                 go_meet
                 case rel => exact ⟨_, (((t477.length : Int) != (t473.length : Int))), (by first | rfl | (simp; done) | (simp [*]; done)), H', ⟨by have := HJ11.out; first | omega | exact Nat.le_refl _⟩, ⟨by (with_reducible repeat (first | apply Kd.R_alloc | apply Kd.R_drewN | apply Kd.R_drew)); exact Kd.R_mono HO_11.out (fun _ hk => trivial)⟩, ⟨by repeat (first | (with_reducible first | exact HB.out | apply below_alloc | apply pw_below_drewN | apply below_drew1) | exact HB.out)⟩⟩
               ·rw [if_neg c58] at H
                have c58b0 : ((Int.tmod t517 (wrap64 (t474 - 1))) == 0) = false := beq_eq_false_iff_ne.mpr c58
                have c58b1 : ((Int.tmod t517 (wrap64 (t474 - 1))) != 0) = true := bne_iff_ne.mpr c58
                exact (laws_FnStepsByGaps.j1_no HR_.out _ _ _ _ H).elim
             ·replace c55 := Bool.eq_false_iff.mpr c55
              subst c55
              have H1 : (laws_FnStepsByGaps.j1 kj11 l0 l1 t485 true) = some r := by rw [if_neg (show ¬ (false = true) by decide)] at H; exact H
              clear H
              have H := H1
              clear H1
              exact (laws_FnStepsByGaps.j1_no HR_.out _ _ _ _ H).elim
            ·replace c53 := Bool.eq_false_iff.mpr c53
             subst c53
             have H1 : (laws_FnStepsByGaps.j1 kj11 l0 l1 t485 true) = some r := by rw [if_neg (show ¬ (false = true) by decide)] at H; exact H
             clear H
             have H := H1
             clear H1
             exact (laws_FnStepsByGaps.j1_no HR_.out _ _ _ _ H).elim
           ·replace c52 := Bool.eq_false_iff.mpr c52
            subst c52
            have H1 : (laws_FnStepsByGaps.j1 kj11 l0 l1 t485 true) = some r := by rw [if_neg (show ¬ (false = true) by decide)] at H; exact H
            clear H
            have H := H1
            clear H1
            exact (laws_FnStepsByGaps.j1_no HR_.out _ _ _ _ H).elim
          ·replace c50 := Bool.eq_false_iff.mpr c50
           subst c50
           have H1 : (laws_FnStepsByGaps.j1 kj11 l0 l1 t485 true) = some r := by rw [if_neg (show ¬ (false = true) by decide)] at H; exact H
           clear H
           have H := H1
           clear H1
           exact (laws_FnStepsByGaps.j1_no HR_.out _ _ _ _ H).elim
         ·replace c49 := Bool.eq_false_iff.mpr c49
          subst c49
          have H1 : (laws_FnStepsByGaps.j1 kj11 l0 l1 t485 true) = some r := by rw [if_neg (show ¬ (false = true) by decide)] at H; exact H
          clear H
          have H := H1
          clear H1
          exact (laws_FnStepsByGaps.j1_no HR_.out _ _ _ _ H).elim
        ·replace c47 := Bool.eq_false_iff.mpr c47
         subst c47
         have H1 : (laws_FnStepsByGaps.j1 kj11 l0 l1 t485 true) = some r := by rw [if_neg (show ¬ (false = true) by decide)] at H; exact H
         clear H
         have H := H1
         clear H1
         exact (laws_FnStepsByGaps.j1_no HR_.out _ _ _ _ H).elim
       case rest =>
        as_aux_lemma =>
        clear HC40
        try clear c1
        try clear c2
        try clear p2
        try clear c3
        try clear c4
        try clear c5
        try clear p6
        try clear c20
        try clear c20b0
        try clear c20b1
        try clear c20b2
        try clear c22
        try clear c23
        try clear c23b0
        try clear c23b1
        try clear c23b2
        try clear c25
        try clear c26
        try clear c26b0
        try clear c26b1
        try clear c26b2
        try clear c27
        try clear c27b0
        try clear c27b1
        try clear c28
        try clear c28b0
        try clear c28b1
        try clear c28b2
        try clear c33
        try clear c35
        try clear c47
        try clear c49
        try clear c50
        try clear c52
        try clear c53
        try clear c55
        try clear c57
        try clear c57b0
        try clear c57b1
        try clear c58
        try clear c58b0
        try clear c58b1
        try clear p2
        obtain ⟨kq, x198_39, rfl, HA, HJ39, HO_11, HB⟩ := hcut
        cases kq with
        | zero => exact absurd HA.out (by simp [laws_FnStepsByGaps.j1])
        | succ kj39 =>
         have H := HA.out
         clear HA
         simp only [laws_FnStepsByGaps.j1] at H
         by_cases c64 : x198_39 = true
         ·subst c64
          have H1 : (some false) = some r := by rw [if_pos rfl] at H; exact H
          clear H
          have H := H1
          clear H1
          exact absurd (Option.some.inj H) (by rw [HR_.out]; decide)
         ·replace c64 := Bool.eq_false_iff.mpr c64
          subst c64
          have H1 : (laws_FnStepsByGaps.l0 kj39 l0 l1 t485 1) = some r := by rw [if_neg (show ¬ (false = true) by decide)] at H; exact H
          clear H
          have H := H1
          clear H1
          have H' := Aside0.mk H
          clear H
          go_wp2
          repeat (go_quiet (fail); try go_wp2)
          go_loopg [25] kj39 (fun kq v25 w' => ∃ (x25_3 : Int), v25 = .int .i64 x25_3 ∧ Aside0 (laws_FnStepsByGaps.l0 kq l0 l1 t485 x25_3 = some r) ∧ Aside0 (kq ≤ kj39) ∧ Aside0 (Kd.R (Kd.int .i64) 3 w' w.heap.size (fun _ => True) (.slice Ao41 t485.length co41) t485) ∧ Aside0 (Below w.heap.size w w'))
          case atStart => exact ⟨(1), (by first | rfl | (simp; done) | (simp [*]; done)), H', ⟨Nat.le_refl _⟩, ⟨by (with_reducible repeat (first | apply Kd.R_alloc | apply Kd.R_drewN | apply Kd.R_drew)); exact HO_11.out⟩, ⟨by repeat (first | (with_reducible first | exact HB.out | apply below_alloc | apply pw_below_drewN | apply below_drew1) | exact HB.out)⟩⟩
          case round =>
           as_aux_lemma =>
           clear H'
           try clear c1
           try clear c2
           try clear p2
           try clear c3
           try clear c4
           try clear c5
           try clear c6
           try clear p6
           try clear c20
           try clear c20b0
           try clear c20b1
           try clear c20b2
           try clear c22
           try clear c23
           try clear c23b0
           try clear c23b1
           try clear c23b2
           try clear c25
           try clear c26
           try clear c26b0
           try clear c26b1
           try clear c26b2
           try clear c27
           try clear c27b0
           try clear c27b1
           try clear c28
           try clear c28b0
           try clear c28b1
           try clear c28b2
           try clear c33
           try clear c35
           try clear c47
           try clear c49
           try clear c50
           try clear c52
           try clear c53
           try clear c55
           try clear c57
           try clear c57b0
           try clear c57b1
           try clear c58
           try clear c58b0
           try clear c58b1
           try clear c64
           try clear p64
           try clear p2
           try clear p6
           obtain ⟨x25_3, rfl, HA, HK3, HO_11, HB⟩ := hrel
           cases gk with
           | zero => exact absurd HA.out (by simp [laws_FnStepsByGaps.l0])
           | succ k3 =>
            have H := HA.out
            clear HA
            simp only [laws_FnStepsByGaps.l0] at H
            by_cases c65 : x25_3 < (t485.length : Int)
            ·rw [if_pos c65] at H
             have c65b0 : decide (x25_3 < (t485.length : Int)) = true := decide_eq_true c65
             clear c65
             by_cases c66 : 0 ≤ x25_3
             ·rw [if_pos c66] at H
              have c66b0 : decide (0 ≤ x25_3) = true := decide_eq_true c66
              clear c66
              obtain ⟨ji67, hji67⟩ : ∃ j_ : Int, (wrap64 (x25_3 - 1)) = j_ := ⟨_, rfl⟩
              replace H : (if 0 ≤ (ji67) then (if (ji67) < (t485.length : Int) then (if (rd t485 x25_3) > (rd t485 (ji67)) then (some false) else (laws_FnStepsByGaps.l0 k3 l0 l1 t485 (wrap64 (x25_3 + 1)))) else (none)) else (none)) = some r := by first | (rw [hji67] at H; exact H) | (simp only [hji67] at H ⊢; exact H)
              have hji67w : (IntKind.i64.wrap (x25_3 - 1)) = ji67 := (i64_w _).trans hji67
              by_cases c68 : 0 ≤ (ji67)
              ·rw [if_pos c68] at H
               have c68b0 : decide (0 ≤ (ji67)) = true := decide_eq_true c68
               clear c68
               by_cases c69 : (ji67) < (t485.length : Int)
               ·rw [if_pos c69] at H
                have c69b0 : decide ((ji67) < (t485.length : Int)) = true := decide_eq_true c69
                clear c69
                by_cases c70 : (rd t485 x25_3) > (rd t485 (ji67))
                ·rw [if_pos c70] at H
                 have c70b0 : decide ((rd t485 (ji67)) < (rd t485 x25_3)) = true := decide_eq_true c70
                 clear c70
                 exact absurd (Option.some.inj H) (by rw [HR_.out]; decide)
                ·rw [if_neg c70] at H
                 have c70b0 : decide ((rd t485 (ji67)) < (rd t485 x25_3)) = false := decide_eq_false c70
                 clear c70
                 as_aux_lemma =>
                  have H' := Aside0.mk H
                  clear H
                  have p518 : 0 ≤ (x25_3 : Int) := of_decide_eq_true (by first | (with_reducible assumption) | assumption)
                  have q518 : x25_3 < (t485.length : Int) := of_decide_eq_true (by first | (with_reducible assumption) | assumption)
                  obtain ⟨ad518, e518, hx518_0⟩ := Kd.at_int (Kd.R_reads' HO_11.out).2.2 x25_3 p518 q518
                  cases e518
                  replace p518 := eq_true p518
                  replace q518 := eq_true q518
                  have p519 : 0 ≤ ((ji67) : Int) := of_decide_eq_true (by first | (with_reducible assumption) | assumption)
                  have q519 : (ji67) < (t485.length : Int) := of_decide_eq_true (by first | (with_reducible assumption) | assumption)
                  obtain ⟨ad519, e519, hx519_0⟩ := Kd.at_int (Kd.R_reads' HO_11.out).2.2 (ji67) p519 q519
                  obtain rfl : ad518 = ad519 := (by injection e519)
                  replace p519 := eq_true p519
                  replace q519 := eq_true q519
                  go_wp2
                  repeat (go_quiet (fail); try go_wp2)
                  go_roundg k3
                  case measure => have := HJ11.out; have := HJ39.out; have := HK3.out; omega
                  case rel => exact ⟨(wrap64 (x25_3 + 1)), (by first | rfl | (simp; done) | (simp [*]; done)), H', ⟨by have := HJ11.out; have := HJ39.out; have := HK3.out; omega⟩, ⟨by (with_reducible repeat (first | apply Kd.R_alloc | apply Kd.R_drewN | apply Kd.R_drew)); exact HO_11.out⟩, ⟨by repeat (first | (with_reducible first | exact HB.out | apply below_alloc | apply pw_below_drewN | apply below_drew1) | exact HB.out)⟩⟩
               ·rw [if_neg c69] at H
                exact absurd H (by simp)
              ·rw [if_neg c68] at H
               exact absurd H (by simp)
             ·rw [if_neg c66] at H
              exact absurd H (by simp)
            ·rw [if_neg c65] at H
             have c65b0 : decide (x25_3 < (t485.length : Int)) = false := decide_eq_false c65
             clear c65
             as_aux_lemma =>
              have H' := Aside0.mk H
              clear H
              go_wp2
              repeat (go_quiet (fail); try go_wp2)
              go_meet
              case rel => exact ⟨_, H', ⟨by have := HJ11.out; have := HJ39.out; have := HK3.out; first | omega | exact Nat.le_refl _⟩, ⟨by repeat (first | (with_reducible first | exact HB.out | apply below_alloc | apply pw_below_drewN | apply below_drew1) | exact HB.out)⟩⟩
      ·replace c35 := Bool.eq_false_iff.mpr c35
       subst c35
       have H1 : (laws_FnStepsByGaps.j3 kj11 l0 l1) = some r := by rw [if_neg (show ¬ (false = true) by decide)] at H; exact H
       clear H
       have H := H1
       clear H1
       as_aux_lemma =>
        have H' := Aside0.mk H
        clear H
        go_wp2
        repeat (go_quiet (fail); try go_wp2)
        go_meet
        case rel => exact ⟨_, H', ⟨by have := HJ11.out; first | omega | exact Nat.le_refl _⟩, ⟨by repeat (first | (with_reducible first | exact HB.out | apply below_alloc | apply pw_below_drewN | apply below_drew1) | exact HB.out)⟩⟩
     case rest =>
      as_aux_lemma =>
      clear HC34
      try clear c1
      try clear c2
      try clear p2
      try clear c3
      try clear c4
      try clear c5
      try clear p5
      try clear q5
      try clear hx5
      try clear c6
      try clear p6
      try clear c7
      try clear c20
      try clear c20b0
      try clear c20b1
      try clear c20b2
      try clear c22
      try clear c23
      try clear c23b0
      try clear c23b1
      try clear c23b2
      try clear c25
      try clear c26
      try clear c26b0
      try clear c26b1
      try clear c26b2
      try clear c27
      try clear c27b0
      try clear c27b1
      try clear c28
      try clear c28b0
      try clear c28b1
      try clear c28b2
      try clear c33
      try clear c35
      try clear c47
      try clear c49
      try clear c50
      try clear p51
      try clear q51
      try clear hx51
      try clear c52
      try clear c53
      try clear c55
      try clear c57
      try clear c57b0
      try clear c57b1
      try clear c58
      try clear c58b0
      try clear c58b1
      try clear c64
      try clear p64
      try clear c65
      try clear c65b0
      try clear c66
      try clear c66b0
      try clear c68
      try clear c68b0
      try clear c69
      try clear c69b0
      try clear c70
      try clear c70b0
      try clear hx518_0
      try clear hx519_0
      try clear p2
      try clear p518
      try clear p519
      try clear p6
      try clear p64
      try clear q518
      try clear q519
      obtain ⟨kq, HA, HJ33, HB⟩ := hcut
      cases kq with
      | zero => exact absurd HA.out (by simp [laws_FnStepsByGaps.j3])
      | succ kj33 =>
       have H := HA.out
       clear HA
       simp only [laws_FnStepsByGaps.j3] at H
       replace H := Option.bind_eq_some_iff.mp H
       obtain ⟨⟨t520, t521, t522⟩, A710, H⟩ := H
       replace H : ((impl_StepByGaps.f kj33 t520 t521 t522).bind fun bt525 => ((spec_StepByGaps.f kj33 t520 t521 t522).bind fun bt529 => ((spec_DrawWordOf.f l1).bind fun bt533 => ((impl_WordOf.f kj33 bt533.1 bt533.2.1 bt533.2.2).bind fun bt536 => ((spec_WordOf.f kj33 bt533.1 bt533.2.1 bt533.2.2).bind fun bt540 => (if (bt525.2 != bt529.2) = true then (laws_FnStepsByGaps.j4 kj33 l0 bt533.1 bt533.2.2 bt536.1 bt536.2 true) else ((laws_qSame.f kj33 bt525.1 bt529.1).bind fun t544 => (if t544 = true then (if (bt536.2 != bt540.2) = true then (laws_FnStepsByGaps.j4 kj33 l0 bt533.1 bt533.2.2 bt536.1 bt536.2 true) else ((laws_qSame.f kj33 bt536.1 bt540.1).bind fun t545 => (laws_FnStepsByGaps.j4 kj33 l0 bt533.1 bt533.2.2 bt536.1 bt536.2 (!t545)))) else (laws_FnStepsByGaps.j4 kj33 l0 bt533.1 bt533.2.2 bt536.1 bt536.2 true))))))))) = some r := H
       have A71 := Aside0.mk A710
       clear A710
       replace H := Option.bind_eq_some_iff.mp H
       obtain ⟨⟨t525, t526⟩, A720, H⟩ := H
       replace H : ((spec_StepByGaps.f kj33 t520 t521 t522).bind fun bt529 => ((spec_DrawWordOf.f l1).bind fun bt533 => ((impl_WordOf.f kj33 bt533.1 bt533.2.1 bt533.2.2).bind fun bt536 => ((spec_WordOf.f kj33 bt533.1 bt533.2.1 bt533.2.2).bind fun bt540 => (if (t526 != bt529.2) = true then (laws_FnStepsByGaps.j4 kj33 l0 bt533.1 bt533.2.2 bt536.1 bt536.2 true) else ((laws_qSame.f kj33 t525 bt529.1).bind fun t544 => (if t544 = true then (if (bt536.2 != bt540.2) = true then (laws_FnStepsByGaps.j4 kj33 l0 bt533.1 bt533.2.2 bt536.1 bt536.2 true) else ((laws_qSame.f kj33 bt536.1 bt540.1).bind fun t545 => (laws_FnStepsByGaps.j4 kj33 l0 bt533.1 bt533.2.2 bt536.1 bt536.2 (!t545)))) else (laws_FnStepsByGaps.j4 kj33 l0 bt533.1 bt533.2.2 bt536.1 bt536.2 true)))))))) = some r := H
       have A72 := Aside0.mk A720
       clear A720
       replace H := Option.bind_eq_some_iff.mp H
       obtain ⟨⟨t529, t530⟩, A730, H⟩ := H
       replace H : ((spec_DrawWordOf.f l1).bind fun bt533 => ((impl_WordOf.f kj33 bt533.1 bt533.2.1 bt533.2.2).bind fun bt536 => ((spec_WordOf.f kj33 bt533.1 bt533.2.1 bt533.2.2).bind fun bt540 => (if (t526 != t530) = true then (laws_FnStepsByGaps.j4 kj33 l0 bt533.1 bt533.2.2 bt536.1 bt536.2 true) else ((laws_qSame.f kj33 t525 t529).bind fun t544 => (if t544 = true then (if (bt536.2 != bt540.2) = true then (laws_FnStepsByGaps.j4 kj33 l0 bt533.1 bt533.2.2 bt536.1 bt536.2 true) else ((laws_qSame.f kj33 bt536.1 bt540.1).bind fun t545 => (laws_FnStepsByGaps.j4 kj33 l0 bt533.1 bt533.2.2 bt536.1 bt536.2 (!t545)))) else (laws_FnStepsByGaps.j4 kj33 l0 bt533.1 bt533.2.2 bt536.1 bt536.2 true))))))) = some r := H
       have A73 := Aside0.mk A730
       clear A730
       replace H := Option.bind_eq_some_iff.mp H
       obtain ⟨⟨t533, t534, t535⟩, A740, H⟩ := H
       replace H : ((impl_WordOf.f kj33 t533 t534 t535).bind fun bt536 => ((spec_WordOf.f kj33 t533 t534 t535).bind fun bt540 => (if (t526 != t530) = true then (laws_FnStepsByGaps.j4 kj33 l0 t533 t535 bt536.1 bt536.2 true) else ((laws_qSame.f kj33 t525 t529).bind fun t544 => (if t544 = true then (if (bt536.2 != bt540.2) = true then (laws_FnStepsByGaps.j4 kj33 l0 t533 t535 bt536.1 bt536.2 true) else ((laws_qSame.f kj33 bt536.1 bt540.1).bind fun t545 => (laws_FnStepsByGaps.j4 kj33 l0 t533 t535 bt536.1 bt536.2 (!t545)))) else (laws_FnStepsByGaps.j4 kj33 l0 t533 t535 bt536.1 bt536.2 true)))))) = some r := H
       have A74 := Aside0.mk A740
       clear A740
       replace H := Option.bind_eq_some_iff.mp H
       obtain ⟨⟨t536, t537⟩, A750, H⟩ := H
       replace H : ((spec_WordOf.f kj33 t533 t534 t535).bind fun bt540 => (if (t526 != t530) = true then (laws_FnStepsByGaps.j4 kj33 l0 t533 t535 t536 t537 true) else ((laws_qSame.f kj33 t525 t529).bind fun t544 => (if t544 = true then (if (t537 != bt540.2) = true then (laws_FnStepsByGaps.j4 kj33 l0 t533 t535 t536 t537 true) else ((laws_qSame.f kj33 t536 bt540.1).bind fun t545 => (laws_FnStepsByGaps.j4 kj33 l0 t533 t535 t536 t537 (!t545)))) else (laws_FnStepsByGaps.j4 kj33 l0 t533 t535 t536 t537 true))))) = some r := H
       have A75 := Aside0.mk A750
       clear A750
       replace H := Option.bind_eq_some_iff.mp H
       obtain ⟨⟨t540, t541⟩, A760, H⟩ := H
       replace H : (if (t526 != t530) = true then (laws_FnStepsByGaps.j4 kj33 l0 t533 t535 t536 t537 true) else ((laws_qSame.f kj33 t525 t529).bind fun t544 => (if t544 = true then (if (t537 != t541) = true then (laws_FnStepsByGaps.j4 kj33 l0 t533 t535 t536 t537 true) else ((laws_qSame.f kj33 t536 t540).bind fun t545 => (laws_FnStepsByGaps.j4 kj33 l0 t533 t535 t536 t537 (!t545)))) else (laws_FnStepsByGaps.j4 kj33 l0 t533 t535 t536 t537 true)))) = some r := H
       have A76 := Aside0.mk A760
       clear A760
       have HC77 := Aside0.mk H
       clear H
       go_upto_region 29 with (first | (go_at_call 17; (with_reducible refine (spec_DrawStepByGaps.calls kj33 _ _ l1 t520 t521 t522 _ ?side1 ?side2 A71.out).mono ?_); (case side1 => repeat (first | exact (Kd.C_below HR1.out HB.out) | (with_reducible refine Kd.C_alloc ?_ _) | (with_reducible refine Kd.C_drewN ?_ _) | (with_reducible refine Kd.C_drew ?_))); (case side2 => exact HC1.out); rintro e w78 ⟨v523, rfl, ho0, hb⟩; have n0_ := Aside0.mk (Kd.R_lower ho0 (below_size (by repeat (first | (with_reducible first | exact HB.out | apply below_alloc | apply pw_below_drewN | apply below_drew1) | exact HB.out)))); have n1_ := Aside0.mk (below_step (by repeat (first | (with_reducible first | exact HB.out | apply below_alloc | apply pw_below_drewN | apply below_drew1) | exact HB.out)) hb); clear HB; have HO524 := n0_; have HB := n1_; clear n0_ n1_; (try clear hb); (try clear hb2); (try clear hk); (try clear hi); (try clear ho0); obtain ⟨Ao79, co79, eo79⟩ := Kd.R_slice HO524.out; subst eo79) | (go_at_call 13; (with_reducible refine (impl_StepByGaps.calls kj33 _ _ t520 t521 t522 t525 t526 _ ?side1 ?side2 A72.out).mono ?_); (case side1 => repeat (first | exact (Kd.R_reads' HO524.out).2.2 | (with_reducible refine Kd.C_alloc ?_ _) | (with_reducible refine Kd.C_drewN ?_ _) | (with_reducible refine Kd.C_drew ?_))); (case side2 => exact (Kd.R_reads' HO524.out).2.1); rintro e w80 ⟨v527, rfl, ho0, hb⟩; have n0_ := Aside0.mk (Kd.R_elder' (by (with_reducible repeat (first | apply Kd.R_alloc | apply Kd.R_drewN | apply Kd.R_drew)); exact HO524.out) (Kd.R_base ho0) hb); have n1_ := Aside0.mk (Kd.R_lower (Kd.R_new' ho0 (Kd.R_lt (by (with_reducible repeat (first | apply Kd.R_alloc | apply Kd.R_drewN | apply Kd.R_drew)); exact HO524.out))) (below_size (by repeat (first | (with_reducible first | exact HB.out | apply below_alloc | apply pw_below_drewN | apply below_drew1) | exact HB.out)))); have n2_ := Aside0.mk (below_step (by repeat (first | (with_reducible first | exact HB.out | apply below_alloc | apply pw_below_drewN | apply below_drew1) | exact HB.out)) hb); clear HO524; clear HB; have HO524 := n0_; have HO528 := n1_; have HB := n2_; clear n0_ n1_ n2_; (try clear hb); (try clear hb2); (try clear hk); (try clear hi); (try clear ho0)) | (go_at_call 18; (with_reducible refine (spec_StepByGaps.calls kj33 _ _ t520 t521 t522 t529 t530 _ ?side1 ?side2 A73.out).mono ?_); (case side1 => repeat (first | exact (Kd.R_reads' HO524.out).2.2 | (with_reducible refine Kd.C_alloc ?_ _) | (with_reducible refine Kd.C_drewN ?_ _) | (with_reducible refine Kd.C_drew ?_))); (case side2 => exact (Kd.R_reads' HO524.out).2.1); rintro e w81 ⟨v531, rfl, ho0, hb⟩; have n0_ := Aside0.mk (Kd.R_elder' (by (with_reducible repeat (first | apply Kd.R_alloc | apply Kd.R_drewN | apply Kd.R_drew)); exact HO524.out) (Kd.R_base ho0) hb); have n1_ := Aside0.mk (Kd.R_elder' (by (with_reducible repeat (first | apply Kd.R_alloc | apply Kd.R_drewN | apply Kd.R_drew)); exact HO528.out) (Kd.R_base ho0) hb); have n2_ := Aside0.mk (Kd.R_lower (Kd.R_new' (Kd.R_new' ho0 (Kd.R_lt (by (with_reducible repeat (first | apply Kd.R_alloc | apply Kd.R_drewN | apply Kd.R_drew)); exact HO524.out))) (Kd.R_lt (by (with_reducible repeat (first | apply Kd.R_alloc | apply Kd.R_drewN | apply Kd.R_drew)); exact HO528.out))) (below_size (by repeat (first | (with_reducible first | exact HB.out | apply below_alloc | apply pw_below_drewN | apply below_drew1) | exact HB.out)))); have n3_ := Aside0.mk (below_step (by repeat (first | (with_reducible first | exact HB.out | apply below_alloc | apply pw_below_drewN | apply below_drew1) | exact HB.out)) hb); clear HO524; clear HO528; clear HB; have HO524 := n0_; have HO528 := n1_; have HO532 := n2_; have HB := n3_; clear n0_ n1_ n2_ n3_; (try clear hb); (try clear hb2); (try clear hk); (try clear hi); (try clear ho0)) | (go_at_call 19; (with_reducible refine (spec_DrawWordOf.calls _ _ l1 t533 t534 t535 _ ?side1 ?side2 A74.out).mono ?_); (case side1 => repeat (first | exact (Kd.C_below HR1.out HB.out) | (with_reducible refine Kd.C_alloc ?_ _) | (with_reducible refine Kd.C_drewN ?_ _) | (with_reducible refine Kd.C_drew ?_))); (case side2 => exact HC1.out); rintro e w82 ⟨rfl, hb⟩; have n0_ := Aside0.mk (Kd.R_below (by (with_reducible repeat (first | apply Kd.R_alloc | apply Kd.R_drewN | apply Kd.R_drew)); exact HO524.out) hb); have n1_ := Aside0.mk (Kd.R_below (by (with_reducible repeat (first | apply Kd.R_alloc | apply Kd.R_drewN | apply Kd.R_drew)); exact HO528.out) hb); have n2_ := Aside0.mk (Kd.R_below (by (with_reducible repeat (first | apply Kd.R_alloc | apply Kd.R_drewN | apply Kd.R_drew)); exact HO532.out) hb); have n3_ := Aside0.mk (below_step (by repeat (first | (with_reducible first | exact HB.out | apply below_alloc | apply pw_below_drewN | apply below_drew1) | exact HB.out)) hb); clear HO524; clear HO528; clear HO532; clear HB; have HO524 := n0_; have HO528 := n1_; have HO532 := n2_; have HB := n3_; clear n0_ n1_ n2_ n3_; (try clear hb); (try clear hb2); (try clear hk); (try clear hi)) | (go_at_call 14; (with_reducible refine (impl_WordOf.calls kj33 t533 t534 t535 t536 t537 _ A75.out).mono ?_); rintro e w83 ⟨v538, rfl, ho0, hb⟩; have n0_ := Aside0.mk (Kd.R_elder' (by (with_reducible repeat (first | apply Kd.R_alloc | apply Kd.R_drewN | apply Kd.R_drew)); exact HO524.out) (Kd.R_base ho0) hb); have n1_ := Aside0.mk (Kd.R_elder' (by (with_reducible repeat (first | apply Kd.R_alloc | apply Kd.R_drewN | apply Kd.R_drew)); exact HO528.out) (Kd.R_base ho0) hb); have n2_ := Aside0.mk (Kd.R_elder' (by (with_reducible repeat (first | apply Kd.R_alloc | apply Kd.R_drewN | apply Kd.R_drew)); exact HO532.out) (Kd.R_base ho0) hb); have n3_ := Aside0.mk (Kd.R_lower (Kd.R_new' (Kd.R_new' (Kd.R_new' ho0 (Kd.R_lt (by (with_reducible repeat (first | apply Kd.R_alloc | apply Kd.R_drewN | apply Kd.R_drew)); exact HO524.out))) (Kd.R_lt (by (with_reducible repeat (first | apply Kd.R_alloc | apply Kd.R_drewN | apply Kd.R_drew)); exact HO528.out))) (Kd.R_lt (by (with_reducible repeat (first | apply Kd.R_alloc | apply Kd.R_drewN | apply Kd.R_drew)); exact HO532.out))) (below_size (by repeat (first | (with_reducible first | exact HB.out | apply below_alloc | apply pw_below_drewN | apply below_drew1) | exact HB.out)))); have n4_ := Aside0.mk (below_step (by repeat (first | (with_reducible first | exact HB.out | apply below_alloc | apply pw_below_drewN | apply below_drew1) | exact HB.out)) hb); clear HO524; clear HO528; clear HO532; clear HB; have HO524 := n0_; have HO528 := n1_; have HO532 := n2_; have HO539 := n3_; have HB := n4_; clear n0_ n1_ n2_ n3_ n4_; (try clear hb); (try clear hb2); (try clear hk); (try clear hi); (try clear ho0)) | (go_at_call 20; (with_reducible refine (spec_WordOf.calls kj33 t533 t534 t535 t540 t541 _ A76.out).mono ?_); rintro e w84 ⟨v542, rfl, ho0, hb⟩; have n0_ := Aside0.mk (Kd.R_elder' (by (with_reducible repeat (first | apply Kd.R_alloc | apply Kd.R_drewN | apply Kd.R_drew)); exact HO524.out) (Kd.R_base ho0) hb); have n1_ := Aside0.mk (Kd.R_elder' (by (with_reducible repeat (first | apply Kd.R_alloc | apply Kd.R_drewN | apply Kd.R_drew)); exact HO528.out) (Kd.R_base ho0) hb); have n2_ := Aside0.mk (Kd.R_elder' (by (with_reducible repeat (first | apply Kd.R_alloc | apply Kd.R_drewN | apply Kd.R_drew)); exact HO532.out) (Kd.R_base ho0) hb); have n3_ := Aside0.mk (Kd.R_elder' (by (with_reducible repeat (first | apply Kd.R_alloc | apply Kd.R_drewN | apply Kd.R_drew)); exact HO539.out) (Kd.R_base ho0) hb); have n4_ := Aside0.mk (Kd.R_lower (Kd.R_new' (Kd.R_new' (Kd.R_new' (Kd.R_new' ho0 (Kd.R_lt (by (with_reducible repeat (first | apply Kd.R_alloc | apply Kd.R_drewN | apply Kd.R_drew)); exact HO524.out))) (Kd.R_lt (by (with_reducible repeat (first | apply Kd.R_alloc | apply Kd.R_drewN | apply Kd.R_drew)); exact HO528.out))) (Kd.R_lt (by (with_reducible repeat (first | apply Kd.R_alloc | apply Kd.R_drewN | apply Kd.R_drew)); exact HO532.out))) (Kd.R_lt (by (with_reducible repeat (first | apply Kd.R_alloc | apply Kd.R_drewN | apply Kd.R_drew)); exact HO539.out))) (below_size (by repeat (first | (with_reducible first | exact HB.out | apply below_alloc | apply pw_below_drewN | apply below_drew1) | exact HB.out)))); have n5_ := Aside0.mk (below_step (by repeat (first | (with_reducible first | exact HB.out | apply below_alloc | apply pw_below_drewN | apply below_drew1) | exact HB.out)) hb); clear HO524; clear HO528; clear HO532; clear HO539; clear HB; have HO524 := n0_; have HO528 := n1_; have HO532 := n2_; have HO539 := n3_; have HO543 := n4_; have HB := n5_; clear n0_ n1_ n2_ n3_ n4_ n5_; (try clear hb); (try clear hb2); (try clear hk); (try clear hi); (try clear ho0)))
       repeat (go_quiet (first | (go_at_call 17; (with_reducible refine (spec_DrawStepByGaps.calls kj33 _ _ l1 t520 t521 t522 _ ?side1 ?side2 A71.out).mono ?_); (case side1 => repeat (first | exact (Kd.C_below HR1.out HB.out) | (with_reducible refine Kd.C_alloc ?_ _) | (with_reducible refine Kd.C_drewN ?_ _) | (with_reducible refine Kd.C_drew ?_))); (case side2 => exact HC1.out); rintro e w78 ⟨v523, rfl, ho0, hb⟩; have n0_ := Aside0.mk (Kd.R_lower ho0 (below_size (by repeat (first | (with_reducible first | exact HB.out | apply below_alloc | apply pw_below_drewN | apply below_drew1) | exact HB.out)))); have n1_ := Aside0.mk (below_step (by repeat (first | (with_reducible first | exact HB.out | apply below_alloc | apply pw_below_drewN | apply below_drew1) | exact HB.out)) hb); clear HB; have HO524 := n0_; have HB := n1_; clear n0_ n1_; (try clear hb); (try clear hb2); (try clear hk); (try clear hi); (try clear ho0); obtain ⟨Ao79, co79, eo79⟩ := Kd.R_slice HO524.out; subst eo79) | (go_at_call 13; (with_reducible refine (impl_StepByGaps.calls kj33 _ _ t520 t521 t522 t525 t526 _ ?side1 ?side2 A72.out).mono ?_); (case side1 => repeat (first | exact (Kd.R_reads' HO524.out).2.2 | (with_reducible refine Kd.C_alloc ?_ _) | (with_reducible refine Kd.C_drewN ?_ _) | (with_reducible refine Kd.C_drew ?_))); (case side2 => exact (Kd.R_reads' HO524.out).2.1); rintro e w80 ⟨v527, rfl, ho0, hb⟩; have n0_ := Aside0.mk (Kd.R_elder' (by (with_reducible repeat (first | apply Kd.R_alloc | apply Kd.R_drewN | apply Kd.R_drew)); exact HO524.out) (Kd.R_base ho0) hb); have n1_ := Aside0.mk (Kd.R_lower (Kd.R_new' ho0 (Kd.R_lt (by (with_reducible repeat (first | apply Kd.R_alloc | apply Kd.R_drewN | apply Kd.R_drew)); exact HO524.out))) (below_size (by repeat (first | (with_reducible first | exact HB.out | apply below_alloc | apply pw_below_drewN | apply below_drew1) | exact HB.out)))); have n2_ := Aside0.mk (below_step (by repeat (first | (with_reducible first | exact HB.out | apply below_alloc | apply pw_below_drewN | apply below_drew1) | exact HB.out)) hb); clear HO524; clear HB; have HO524 := n0_; have HO528 := n1_; have HB := n2_; clear n0_ n1_ n2_; (try clear hb); (try clear hb2); (try clear hk); (try clear hi); (try clear ho0)) | (go_at_call 18; (with_reducible refine (spec_StepByGaps.calls kj33 _ _ t520 t521 t522 t529 t530 _ ?side1 ?side2 A73.out).mono ?_); (case side1 => repeat (first | exact (Kd.R_reads' HO524.out).2.2 | (with_reducible refine Kd.C_alloc ?_ _) | (with_reducible refine Kd.C_drewN ?_ _) | (with_reducible refine Kd.C_drew ?_))); (case side2 => exact (Kd.R_reads' HO524.out).2.1); rintro e w81 ⟨v531, rfl, ho0, hb⟩; have n0_ := Aside0.mk (Kd.R_elder' (by (with_reducible repeat (first | apply Kd.R_alloc | apply Kd.R_drewN | apply Kd.R_drew)); exact HO524.out) (Kd.R_base ho0) hb); have n1_ := Aside0.mk (Kd.R_elder' (by (with_reducible repeat (first | apply Kd.R_alloc | apply Kd.R_drewN | apply Kd.R_drew)); exact HO528.out) (Kd.R_base ho0) hb); have n2_ := Aside0.mk (Kd.R_lower (Kd.R_new' (Kd.R_new' ho0 (Kd.R_lt (by (with_reducible repeat (first | apply Kd.R_alloc | apply Kd.R_drewN | apply Kd.R_drew)); exact HO524.out))) (Kd.R_lt (by (with_reducible repeat (first | apply Kd.R_alloc | apply Kd.R_drewN | apply Kd.R_drew)); exact HO528.out))) (below_size (by repeat (first | (with_reducible first | exact HB.out | apply below_alloc | apply pw_below_drewN | apply below_drew1) | exact HB.out)))); have n3_ := Aside0.mk (below_step (by repeat (first | (with_reducible first | exact HB.out | apply below_alloc | apply pw_below_drewN | apply below_drew1) | exact HB.out)) hb); clear HO524; clear HO528; clear HB; have HO524 := n0_; have HO528 := n1_; have HO532 := n2_; have HB := n3_; clear n0_ n1_ n2_ n3_; (try clear hb); (try clear hb2); (try clear hk); (try clear hi); (try clear ho0)) | (go_at_call 19; (with_reducible refine (spec_DrawWordOf.calls _ _ l1 t533 t534 t535 _ ?side1 ?side2 A74.out).mono ?_); (case side1 => repeat (first | exact (Kd.C_below HR1.out HB.out) | (with_reducible refine Kd.C_alloc ?_ _) | (with_reducible refine Kd.C_drewN ?_ _) | (with_reducible refine Kd.C_drew ?_))); (case side2 => exact HC1.out); rintro e w82 ⟨rfl, hb⟩; have n0_ := Aside0.mk (Kd.R_below (by (with_reducible repeat (first | apply Kd.R_alloc | apply Kd.R_drewN | apply Kd.R_drew)); exact HO524.out) hb); have n1_ := Aside0.mk (Kd.R_below (by (with_reducible repeat (first | apply Kd.R_alloc | apply Kd.R_drewN | apply Kd.R_drew)); exact HO528.out) hb); have n2_ := Aside0.mk (Kd.R_below (by (with_reducible repeat (first | apply Kd.R_alloc | apply Kd.R_drewN | apply Kd.R_drew)); exact HO532.out) hb); have n3_ := Aside0.mk (below_step (by repeat (first | (with_reducible first | exact HB.out | apply below_alloc | apply pw_below_drewN | apply below_drew1) | exact HB.out)) hb); clear HO524; clear HO528; clear HO532; clear HB; have HO524 := n0_; have HO528 := n1_; have HO532 := n2_; have HB := n3_; clear n0_ n1_ n2_ n3_; (try clear hb); (try clear hb2); (try clear hk); (try clear hi)) | (go_at_call 14; (with_reducible refine (impl_WordOf.calls kj33 t533 t534 t535 t536 t537 _ A75.out).mono ?_); rintro e w83 ⟨v538, rfl, ho0, hb⟩; have n0_ := Aside0.mk (Kd.R_elder' (by (with_reducible repeat (first | apply Kd.R_alloc | apply Kd.R_drewN | apply Kd.R_drew)); exact HO524.out) (Kd.R_base ho0) hb); have n1_ := Aside0.mk (Kd.R_elder' (by (with_reducible repeat (first | apply Kd.R_alloc | apply Kd.R_drewN | apply Kd.R_drew)); exact HO528.out) (Kd.R_base ho0) hb); have n2_ := Aside0.mk (Kd.R_elder' (by (with_reducible repeat (first | apply Kd.R_alloc | apply Kd.R_drewN | apply Kd.R_drew)); exact HO532.out) (Kd.R_base ho0) hb); have n3_ := Aside0.mk (Kd.R_lower (Kd.R_new' (Kd.R_new' (Kd.R_new' ho0 (Kd.R_lt (by (with_reducible repeat (first | apply Kd.R_alloc | apply Kd.R_drewN | apply Kd.R_drew)); exact HO524.out))) (Kd.R_lt (by (with_reducible repeat (first | apply Kd.R_alloc | apply Kd.R_drewN | apply Kd.R_drew)); exact HO528.out))) (Kd.R_lt (by (with_reducible repeat (first | apply Kd.R_alloc | apply Kd.R_drewN | apply Kd.R_drew)); exact HO532.out))) (below_size (by repeat (first | (with_reducible first | exact HB.out | apply below_alloc | apply pw_below_drewN | apply below_drew1) | exact HB.out)))); have n4_ := Aside0.mk (below_step (by repeat (first | (with_reducible first | exact HB.out | apply below_alloc | apply pw_below_drewN | apply below_drew1) | exact HB.out)) hb); clear HO524; clear HO528; clear HO532; clear HB; have HO524 := n0_; have HO528 := n1_; have HO532 := n2_; have HO539 := n3_; have HB := n4_; clear n0_ n1_ n2_ n3_ n4_; (try clear hb); (try clear hb2); (try clear hk); (try clear hi); (try clear ho0)) | (go_at_call 20; (with_reducible refine (spec_WordOf.calls kj33 t533 t534 t535 t540 t541 _ A76.out).mono ?_); rintro e w84 ⟨v542, rfl, ho0, hb⟩; have n0_ := Aside0.mk (Kd.R_elder' (by (with_reducible repeat (first | apply Kd.R_alloc | apply Kd.R_drewN | apply Kd.R_drew)); exact HO524.out) (Kd.R_base ho0) hb); have n1_ := Aside0.mk (Kd.R_elder' (by (with_reducible repeat (first | apply Kd.R_alloc | apply Kd.R_drewN | apply Kd.R_drew)); exact HO528.out) (Kd.R_base ho0) hb); have n2_ := Aside0.mk (Kd.R_elder' (by (with_reducible repeat (first | apply Kd.R_alloc | apply Kd.R_drewN | apply Kd.R_drew)); exact HO532.out) (Kd.R_base ho0) hb); have n3_ := Aside0.mk (Kd.R_elder' (by (with_reducible repeat (first | apply Kd.R_alloc | apply Kd.R_drewN | apply Kd.R_drew)); exact HO539.out) (Kd.R_base ho0) hb); have n4_ := Aside0.mk (Kd.R_lower (Kd.R_new' (Kd.R_new' (Kd.R_new' (Kd.R_new' ho0 (Kd.R_lt (by (with_reducible repeat (first | apply Kd.R_alloc | apply Kd.R_drewN | apply Kd.R_drew)); exact HO524.out))) (Kd.R_lt (by (with_reducible repeat (first | apply Kd.R_alloc | apply Kd.R_drewN | apply Kd.R_drew)); exact HO528.out))) (Kd.R_lt (by (with_reducible repeat (first | apply Kd.R_alloc | apply Kd.R_drewN | apply Kd.R_drew)); exact HO532.out))) (Kd.R_lt (by (with_reducible repeat (first | apply Kd.R_alloc | apply Kd.R_drewN | apply Kd.R_drew)); exact HO539.out))) (below_size (by repeat (first | (with_reducible first | exact HB.out | apply below_alloc | apply pw_below_drewN | apply below_drew1) | exact HB.out)))); have n5_ := Aside0.mk (below_step (by repeat (first | (with_reducible first | exact HB.out | apply below_alloc | apply pw_below_drewN | apply below_drew1) | exact HB.out)) hb); clear HO524; clear HO528; clear HO532; clear HO539; clear HB; have HO524 := n0_; have HO528 := n1_; have HO532 := n2_; have HO539 := n3_; have HO543 := n4_; have HB := n5_; clear n0_ n1_ n2_ n3_ n4_ n5_; (try clear hb); (try clear hb2); (try clear hk); (try clear hi); (try clear ho0))); go_upto_region 29 with (first | (go_at_call 17; (with_reducible refine (spec_DrawStepByGaps.calls kj33 _ _ l1 t520 t521 t522 _ ?side1 ?side2 A71.out).mono ?_); (case side1 => repeat (first | exact (Kd.C_below HR1.out HB.out) | (with_reducible refine Kd.C_alloc ?_ _) | (with_reducible refine Kd.C_drewN ?_ _) | (with_reducible refine Kd.C_drew ?_))); (case side2 => exact HC1.out); rintro e w78 ⟨v523, rfl, ho0, hb⟩; have n0_ := Aside0.mk (Kd.R_lower ho0 (below_size (by repeat (first | (with_reducible first | exact HB.out | apply below_alloc | apply pw_below_drewN | apply below_drew1) | exact HB.out)))); have n1_ := Aside0.mk (below_step (by repeat (first | (with_reducible first | exact HB.out | apply below_alloc | apply pw_below_drewN | apply below_drew1) | exact HB.out)) hb); clear HB; have HO524 := n0_; have HB := n1_; clear n0_ n1_; (try clear hb); (try clear hb2); (try clear hk); (try clear hi); (try clear ho0); obtain ⟨Ao79, co79, eo79⟩ := Kd.R_slice HO524.out; subst eo79) | (go_at_call 13; (with_reducible refine (impl_StepByGaps.calls kj33 _ _ t520 t521 t522 t525 t526 _ ?side1 ?side2 A72.out).mono ?_); (case side1 => repeat (first | exact (Kd.R_reads' HO524.out).2.2 | (with_reducible refine Kd.C_alloc ?_ _) | (with_reducible refine Kd.C_drewN ?_ _) | (with_reducible refine Kd.C_drew ?_))); (case side2 => exact (Kd.R_reads' HO524.out).2.1); rintro e w80 ⟨v527, rfl, ho0, hb⟩; have n0_ := Aside0.mk (Kd.R_elder' (by (with_reducible repeat (first | apply Kd.R_alloc | apply Kd.R_drewN | apply Kd.R_drew)); exact HO524.out) (Kd.R_base ho0) hb); have n1_ := Aside0.mk (Kd.R_lower (Kd.R_new' ho0 (Kd.R_lt (by (with_reducible repeat (first | apply Kd.R_alloc | apply Kd.R_drewN | apply Kd.R_drew)); exact HO524.out))) (below_size (by repeat (first | (with_reducible first | exact HB.out | apply below_alloc | apply pw_below_drewN | apply below_drew1) | exact HB.out)))); have n2_ := Aside0.mk (below_step (by repeat (first | (with_reducible first | exact HB.out | apply below_alloc | apply pw_below_drewN | apply below_drew1) | exact HB.out)) hb); clear HO524; clear HB; have HO524 := n0_; have HO528 := n1_; have HB := n2_; clear n0_ n1_ n2_; (try clear hb); (try clear hb2); (try clear hk); (try clear hi); (try clear ho0)) | (go_at_call 18; (with_reducible refine (spec_StepByGaps.calls kj33 _ _ t520 t521 t522 t529 t530 _ ?side1 ?side2 A73.out).mono ?_); (case side1 => repeat (first | exact (Kd.R_reads' HO524.out).2.2 | (with_reducible refine Kd.C_alloc ?_ _) | (with_reducible refine Kd.C_drewN ?_ _) | (with_reducible refine Kd.C_drew ?_))); (case side2 => exact (Kd.R_reads' HO524.out).2.1); rintro e w81 ⟨v531, rfl, ho0, hb⟩; have n0_ := Aside0.mk (Kd.R_elder' (by (with_reducible repeat (first | apply Kd.R_alloc | apply Kd.R_drewN | apply Kd.R_drew)); exact HO524.out) (Kd.R_base ho0) hb); have n1_ := Aside0.mk (Kd.R_elder' (by (with_reducible repeat (first | apply Kd.R_alloc | apply Kd.R_drewN | apply Kd.R_drew)); exact HO528.out) (Kd.R_base ho0) hb); have n2_ := Aside0.mk (Kd.R_lower (Kd.R_new' (Kd.R_new' ho0 (Kd.R_lt (by (with_reducible repeat (first | apply Kd.R_alloc | apply Kd.R_drewN | apply Kd.R_drew)); exact HO524.out))) (Kd.R_lt (by (with_reducible repeat (first | apply Kd.R_alloc | apply Kd.R_drewN | apply Kd.R_drew)); exact HO528.out))) (below_size (by repeat (first | (with_reducible first | exact HB.out | apply below_alloc | apply pw_below_drewN | apply below_drew1) | exact HB.out)))); have n3_ := Aside0.mk (below_step (by repeat (first | (with_reducible first | exact HB.out | apply below_alloc | apply pw_below_drewN | apply below_drew1) | exact HB.out)) hb); clear HO524; clear HO528; clear HB; have HO524 := n0_; have HO528 := n1_; have HO532 := n2_; have HB := n3_; clear n0_ n1_ n2_ n3_; (try clear hb); (try clear hb2); (try clear hk); (try clear hi); (try clear ho0)) | (go_at_call 19; (with_reducible refine (spec_DrawWordOf.calls _ _ l1 t533 t534 t535 _ ?side1 ?side2 A74.out).mono ?_); (case side1 => repeat (first | exact (Kd.C_below HR1.out HB.out) | (with_reducible refine Kd.C_alloc ?_ _) | (with_reducible refine Kd.C_drewN ?_ _) | (with_reducible refine Kd.C_drew ?_))); (case side2 => exact HC1.out); rintro e w82 ⟨rfl, hb⟩; have n0_ := Aside0.mk (Kd.R_below (by (with_reducible repeat (first | apply Kd.R_alloc | apply Kd.R_drewN | apply Kd.R_drew)); exact HO524.out) hb); have n1_ := Aside0.mk (Kd.R_below (by (with_reducible repeat (first | apply Kd.R_alloc | apply Kd.R_drewN | apply Kd.R_drew)); exact HO528.out) hb); have n2_ := Aside0.mk (Kd.R_below (by (with_reducible repeat (first | apply Kd.R_alloc | apply Kd.R_drewN | apply Kd.R_drew)); exact HO532.out) hb); have n3_ := Aside0.mk (below_step (by repeat (first | (with_reducible first | exact HB.out | apply below_alloc | apply pw_below_drewN | apply below_drew1) | exact HB.out)) hb); clear HO524; clear HO528; clear HO532; clear HB; have HO524 := n0_; have HO528 := n1_; have HO532 := n2_; have HB := n3_; clear n0_ n1_ n2_ n3_; (try clear hb); (try clear hb2); (try clear hk); (try clear hi)) | (go_at_call 14; (with_reducible refine (impl_WordOf.calls kj33 t533 t534 t535 t536 t537 _ A75.out).mono ?_); rintro e w83 ⟨v538, rfl, ho0, hb⟩; have n0_ := Aside0.mk (Kd.R_elder' (by (with_reducible repeat (first | apply Kd.R_alloc | apply Kd.R_drewN | apply Kd.R_drew)); exact HO524.out) (Kd.R_base ho0) hb); have n1_ := Aside0.mk (Kd.R_elder' (by (with_reducible repeat (first | apply Kd.R_alloc | apply Kd.R_drewN | apply Kd.R_drew)); exact HO528.out) (Kd.R_base ho0) hb); have n2_ := Aside0.mk (Kd.R_elder' (by (with_reducible repeat (first | apply Kd.R_alloc | apply Kd.R_drewN | apply Kd.R_drew)); exact HO532.out) (Kd.R_base ho0) hb); have n3_ := Aside0.mk (Kd.R_lower (Kd.R_new' (Kd.R_new' (Kd.R_new' ho0 (Kd.R_lt (by (with_reducible repeat (first | apply Kd.R_alloc | apply Kd.R_drewN | apply Kd.R_drew)); exact HO524.out))) (Kd.R_lt (by (with_reducible repeat (first | apply Kd.R_alloc | apply Kd.R_drewN | apply Kd.R_drew)); exact HO528.out))) (Kd.R_lt (by (with_reducible repeat (first | apply Kd.R_alloc | apply Kd.R_drewN | apply Kd.R_drew)); exact HO532.out))) (below_size (by repeat (first | (with_reducible first | exact HB.out | apply below_alloc | apply pw_below_drewN | apply below_drew1) | exact HB.out)))); have n4_ := Aside0.mk (below_step (by repeat (first | (with_reducible first | exact HB.out | apply below_alloc | apply pw_below_drewN | apply below_drew1) | exact HB.out)) hb); clear HO524; clear HO528; clear HO532; clear HB; have HO524 := n0_; have HO528 := n1_; have HO532 := n2_; have HO539 := n3_; have HB := n4_; clear n0_ n1_ n2_ n3_ n4_; (try clear hb); (try clear hb2); (try clear hk); (try clear hi); (try clear ho0)) | (go_at_call 20; (with_reducible refine (spec_WordOf.calls kj33 t533 t534 t535 t540 t541 _ A76.out).mono ?_); rintro e w84 ⟨v542, rfl, ho0, hb⟩; have n0_ := Aside0.mk (Kd.R_elder' (by (with_reducible repeat (first | apply Kd.R_alloc | apply Kd.R_drewN | apply Kd.R_drew)); exact HO524.out) (Kd.R_base ho0) hb); have n1_ := Aside0.mk (Kd.R_elder' (by (with_reducible repeat (first | apply Kd.R_alloc | apply Kd.R_drewN | apply Kd.R_drew)); exact HO528.out) (Kd.R_base ho0) hb); have n2_ := Aside0.mk (Kd.R_elder' (by (with_reducible repeat (first | apply Kd.R_alloc | apply Kd.R_drewN | apply Kd.R_drew)); exact HO532.out) (Kd.R_base ho0) hb); have n3_ := Aside0.mk (Kd.R_elder' (by (with_reducible repeat (first | apply Kd.R_alloc | apply Kd.R_drewN | apply Kd.R_drew)); exact HO539.out) (Kd.R_base ho0) hb); have n4_ := Aside0.mk (Kd.R_lower (Kd.R_new' (Kd.R_new' (Kd.R_new' (Kd.R_new' ho0 (Kd.R_lt (by (with_reducible repeat (first | apply Kd.R_alloc | apply Kd.R_drewN | apply Kd.R_drew)); exact HO524.out))) (Kd.R_lt (by (with_reducible repeat (first | apply Kd.R_alloc | apply Kd.R_drewN | apply Kd.R_drew)); exact HO528.out))) (Kd.R_lt (by (with_reducible repeat (first | apply Kd.R_alloc | apply Kd.R_drewN | apply Kd.R_drew)); exact HO532.out))) (Kd.R_lt (by (with_reducible repeat (first | apply Kd.R_alloc | apply Kd.R_drewN | apply Kd.R_drew)); exact HO539.out))) (below_size (by repeat (first | (with_reducible first | exact HB.out | apply below_alloc | apply pw_below_drewN | apply below_drew1) | exact HB.out)))); have n5_ := Aside0.mk (below_step (by repeat (first | (with_reducible first | exact HB.out | apply below_alloc | apply pw_below_drewN | apply below_drew1) | exact HB.out)) hb); clear HO524; clear HO528; clear HO532; clear HO539; clear HB; have HO524 := n0_; have HO528 := n1_; have HO532 := n2_; have HO539 := n3_; have HO543 := n4_; have HB := n5_; clear n0_ n1_ n2_ n3_ n4_ n5_; (try clear hb); (try clear hb2); (try clear hk); (try clear hi); (try clear ho0))))
       (try simp only [Act.put, List.setIfInBounds_toArray, List.set_cons_zero, List.set_cons_succ])
       go_cut [274] (fun v274 wc => ∃ (kq : Nat) (x274_76 : Bool), v274 = .bool x274_76 ∧ Aside0 (laws_FnStepsByGaps.j4 kq l0 t533 t535 t536 t537 x274_76 = some r) ∧ Aside0 (kq ≤ kj33) ∧ Aside0 (Kd.R (Kd.int .i64) 3 wc w.heap.size (fun _ => True) v538 t536) ∧ Aside0 (Below w.heap.size w wc))
       case first =>
        as_aux_lemma =>
        have H := HC77.out
        clear HC77
        by_cases c85 : (t526 != t530) = true
        ·rw [if_pos c85] at H
         have c85b0 : (t526 != t530) = true := c85
         (try (have c85b1 : decide (t526 = t530) = false := by simpa using c85))
         (try (have c85b2 : (t526 == t530) = false := by simpa using c85))
         (try (have c85b3 : ¬ (t526 = t530) := by simpa using c85))
         clear c85
         (first | rw [c85b0] | (simp only [i64_w, i32_w]; rw [c85b0]) | skip)
         exact (laws_FnStepsByGaps.j4_no HR_.out _ _ _ _ _ _ H).elim
        ·rw [if_neg c85] at H
         have c85b0 : (t526 != t530) = false := by simpa using c85
         (try (have c85b1 : decide (t526 = t530) = true := by simpa using c85))
         (try (have c85b2 : (t526 == t530) = true := by simpa using c85))
         clear c85
         (first | rw [c85b0] | (simp only [i64_w, i32_w]; rw [c85b0]) | skip)
         replace H := Option.bind_eq_some_iff.mp H
         obtain ⟨t544, A860, H⟩ := H
         replace H : (if t544 = true then (if (t537 != t541) = true then (laws_FnStepsByGaps.j4 kj33 l0 t533 t535 t536 t537 true) else ((laws_qSame.f kj33 t536 t540).bind fun t545 => (laws_FnStepsByGaps.j4 kj33 l0 t533 t535 t536 t537 (!t545)))) else (laws_FnStepsByGaps.j4 kj33 l0 t533 t535 t536 t537 true)) = some r := H
         have A86 := Aside0.mk A860
         clear A860
         by_cases c87 : t544 = true
         ·subst c87
          have H1 : (if (t537 != t541) = true then (laws_FnStepsByGaps.j4 kj33 l0 t533 t535 t536 t537 true) else ((laws_qSame.f kj33 t536 t540).bind fun t545 => (laws_FnStepsByGaps.j4 kj33 l0 t533 t535 t536 t537 (!t545)))) = some r := by rw [if_pos rfl] at H; exact H
          clear H
          have H := H1
          clear H1
          by_cases c88 : (t537 != t541) = true
          ·rw [if_pos c88] at H
           have c88b0 : (t537 != t541) = true := c88
           (try (have c88b1 : decide (t537 = t541) = false := by simpa using c88))
           (try (have c88b2 : (t537 == t541) = false := by simpa using c88))
           (try (have c88b3 : ¬ (t537 = t541) := by simpa using c88))
           clear c88
           exact (laws_FnStepsByGaps.j4_no HR_.out _ _ _ _ _ _ H).elim
          ·rw [if_neg c88] at H
           have c88b0 : (t537 != t541) = false := by simpa using c88
           (try (have c88b1 : decide (t537 = t541) = true := by simpa using c88))
           (try (have c88b2 : (t537 == t541) = true := by simpa using c88))
           clear c88
           replace H := Option.bind_eq_some_iff.mp H
           obtain ⟨t545, A890, H⟩ := H
           replace H : (laws_FnStepsByGaps.j4 kj33 l0 t533 t535 t536 t537 (!t545)) = some r := H
           have A89 := Aside0.mk A890
           clear A890
           as_aux_lemma =>
            have H' := Aside0.mk H
            clear H
            obtain ⟨Ao90, co90, eo90⟩ := Kd.R_slice HO528.out
            subst eo90
            obtain ⟨Ao91, co91, eo91⟩ := Kd.R_slice HO532.out
            subst eo91
            go_wp2_with (first | (go_at_call 12; (with_reducible refine (laws_qSame.calls kj33 _ _ t525 _ _ t529 true _ ?side1 ?side2 ?side3 ?side4 A86.out).mono ?_); (case side1 => repeat (first | exact (Kd.R_reads' HO528.out).2.2 | (with_reducible refine Kd.C_alloc ?_ _) | (with_reducible refine Kd.C_drewN ?_ _) | (with_reducible refine Kd.C_drew ?_))); (case side2 => exact (Kd.R_reads' HO528.out).2.1); (case side3 => repeat (first | exact (Kd.R_reads' HO532.out).2.2 | (with_reducible refine Kd.C_alloc ?_ _) | (with_reducible refine Kd.C_drewN ?_ _) | (with_reducible refine Kd.C_drew ?_))); (case side4 => exact (Kd.R_reads' HO532.out).2.1); rintro e w' ⟨rfl, ⟨nd, rfl⟩⟩; (try first | exact ⟨rfl, _, World.drewN_drewN _ _ _⟩ | exact ⟨rfl, _, Eq.trans (World.drewN_drewN _ _ _) (congrArg (World.drewN _) (Nat.add_assoc _ _ _))⟩); obtain ⟨Ao92, co92, eo92⟩ := Kd.R_slice HO539.out; subst eo92; obtain ⟨Ao93, co93, eo93⟩ := Kd.R_slice HO543.out; subst eo93) | (go_at_call 12; (with_reducible refine (laws_qSame.calls kj33 _ _ t536 _ _ t540 t545 _ ?side1 ?side2 ?side3 ?side4 A89.out).mono ?_); (case side1 => repeat (first | exact (Kd.R_reads' HO539.out).2.2 | (with_reducible refine Kd.C_alloc ?_ _) | (with_reducible refine Kd.C_drewN ?_ _) | (with_reducible refine Kd.C_drew ?_))); (case side2 => exact (Kd.R_reads' HO539.out).2.1); (case side3 => repeat (first | exact (Kd.R_reads' HO543.out).2.2 | (with_reducible refine Kd.C_alloc ?_ _) | (with_reducible refine Kd.C_drewN ?_ _) | (with_reducible refine Kd.C_drew ?_))); (case side4 => exact (Kd.R_reads' HO543.out).2.1); rintro e w' ⟨rfl, ⟨nd, rfl⟩⟩; (try first | exact ⟨rfl, _, World.drewN_drewN _ _ _⟩ | exact ⟨rfl, _, Eq.trans (World.drewN_drewN _ _ _) (congrArg (World.drewN _) (Nat.add_assoc _ _ _))⟩)))
            repeat (go_quiet (first | (go_at_call 12; (with_reducible refine (laws_qSame.calls kj33 _ _ t525 _ _ t529 true _ ?side1 ?side2 ?side3 ?side4 A86.out).mono ?_); (case side1 => repeat (first | exact (Kd.R_reads' HO528.out).2.2 | (with_reducible refine Kd.C_alloc ?_ _) | (with_reducible refine Kd.C_drewN ?_ _) | (with_reducible refine Kd.C_drew ?_))); (case side2 => exact (Kd.R_reads' HO528.out).2.1); (case side3 => repeat (first | exact (Kd.R_reads' HO532.out).2.2 | (with_reducible refine Kd.C_alloc ?_ _) | (with_reducible refine Kd.C_drewN ?_ _) | (with_reducible refine Kd.C_drew ?_))); (case side4 => exact (Kd.R_reads' HO532.out).2.1); rintro e w' ⟨rfl, ⟨nd, rfl⟩⟩; (try first | exact ⟨rfl, _, World.drewN_drewN _ _ _⟩ | exact ⟨rfl, _, Eq.trans (World.drewN_drewN _ _ _) (congrArg (World.drewN _) (Nat.add_assoc _ _ _))⟩); obtain ⟨Ao92, co92, eo92⟩ := Kd.R_slice HO539.out; subst eo92; obtain ⟨Ao93, co93, eo93⟩ := Kd.R_slice HO543.out; subst eo93) | (go_at_call 12; (with_reducible refine (laws_qSame.calls kj33 _ _ t536 _ _ t540 t545 _ ?side1 ?side2 ?side3 ?side4 A89.out).mono ?_); (case side1 => repeat (first | exact (Kd.R_reads' HO539.out).2.2 | (with_reducible refine Kd.C_alloc ?_ _) | (with_reducible refine Kd.C_drewN ?_ _) | (with_reducible refine Kd.C_drew ?_))); (case side2 => exact (Kd.R_reads' HO539.out).2.1); (case side3 => repeat (first | exact (Kd.R_reads' HO543.out).2.2 | (with_reducible refine Kd.C_alloc ?_ _) | (with_reducible refine Kd.C_drewN ?_ _) | (with_reducible refine Kd.C_drew ?_))); (case side4 => exact (Kd.R_reads' HO543.out).2.1); rintro e w' ⟨rfl, ⟨nd, rfl⟩⟩; (try first | exact ⟨rfl, _, World.drewN_drewN _ _ _⟩ | exact ⟨rfl, _, Eq.trans (World.drewN_drewN _ _ _) (congrArg (World.drewN _) (Nat.add_assoc _ _ _))⟩))); try go_wp2_with (first | (go_at_call 12; (with_reducible refine (laws_qSame.calls kj33 _ _ t525 _ _ t529 true _ ?side1 ?side2 ?side3 ?side4 A86.out).mono ?_); (case side1 => repeat (first | exact (Kd.R_reads' HO528.out).2.2 | (with_reducible refine Kd.C_alloc ?_ _) | (with_reducible refine Kd.C_drewN ?_ _) | (with_reducible refine Kd.C_drew ?_))); (case side2 => exact (Kd.R_reads' HO528.out).2.1); (case side3 => repeat (first | exact (Kd.R_reads' HO532.out).2.2 | (with_reducible refine Kd.C_alloc ?_ _) | (with_reducible refine Kd.C_drewN ?_ _) | (with_reducible refine Kd.C_drew ?_))); (case side4 => exact (Kd.R_reads' HO532.out).2.1); rintro e w' ⟨rfl, ⟨nd, rfl⟩⟩; (try first | exact ⟨rfl, _, World.drewN_drewN _ _ _⟩ | exact ⟨rfl, _, Eq.trans (World.drewN_drewN _ _ _) (congrArg (World.drewN _) (Nat.add_assoc _ _ _))⟩); obtain ⟨Ao92, co92, eo92⟩ := Kd.R_slice HO539.out; subst eo92; obtain ⟨Ao93, co93, eo93⟩ := Kd.R_slice HO543.out; subst eo93) | (go_at_call 12; (with_reducible refine (laws_qSame.calls kj33 _ _ t536 _ _ t540 t545 _ ?side1 ?side2 ?side3 ?side4 A89.out).mono ?_); (case side1 => repeat (first | exact (Kd.R_reads' HO539.out).2.2 | (with_reducible refine Kd.C_alloc ?_ _) | (with_reducible refine Kd.C_drewN ?_ _) | (with_reducible refine Kd.C_drew ?_))); (case side2 => exact (Kd.R_reads' HO539.out).2.1); (case side3 => repeat (first | exact (Kd.R_reads' HO543.out).2.2 | (with_reducible refine Kd.C_alloc ?_ _) | (with_reducible refine Kd.C_drewN ?_ _) | (with_reducible refine Kd.C_drew ?_))); (case side4 => exact (Kd.R_reads' HO543.out).2.1); rintro e w' ⟨rfl, ⟨nd, rfl⟩⟩; (try first | exact ⟨rfl, _, World.drewN_drewN _ _ _⟩ | exact ⟨rfl, _, Eq.trans (World.drewN_drewN _ _ _) (congrArg (World.drewN _) (Nat.add_assoc _ _ _))⟩))))
            go_meet
            case rel => exact ⟨_, (!t545), (by first | rfl | (simp; done) | (simp [*]; done)), H', ⟨by have := HJ11.out; have := HJ33.out; first | omega | exact Nat.le_refl _⟩, ⟨by (with_reducible repeat (first | apply Kd.R_alloc | apply Kd.R_drewN | apply Kd.R_drew)); exact Kd.R_mono HO539.out (fun _ hk => trivial)⟩, ⟨by repeat (first | (with_reducible first | exact HB.out | apply below_alloc | apply pw_below_drewN | apply below_drew1) | exact HB.out)⟩⟩
         ·replace c87 := Bool.eq_false_iff.mpr c87
          subst c87
          have H1 : (laws_FnStepsByGaps.j4 kj33 l0 t533 t535 t536 t537 true) = some r := by rw [if_neg (show ¬ (false = true) by decide)] at H; exact H
          clear H
          have H := H1
          clear H1
          exact (laws_FnStepsByGaps.j4_no HR_.out _ _ _ _ _ _ H).elim
       case rest =>
        as_aux_lemma =>
        clear HC77
        try clear c1
        try clear c2
        try clear p2
        try clear c3
        try clear c4
        try clear c5
        try clear p5
        try clear q5
        try clear hx5
        try clear c6
        try clear p6
        try clear c7
        try clear c8
        try clear c20
        try clear c20b0
        try clear c20b1
        try clear c20b2
        try clear c22
        try clear c23
        try clear c23b0
        try clear c23b1
        try clear c23b2
        try clear c25
        try clear c26
        try clear c26b0
        try clear c26b1
        try clear c26b2
        try clear c27
        try clear c27b0
        try clear c27b1
        try clear c28
        try clear c28b0
        try clear c28b1
        try clear c28b2
        try clear c33
        try clear c35
        try clear c47
        try clear c49
        try clear c50
        try clear p51
        try clear q51
        try clear hx51
        try clear c52
        try clear c53
        try clear c55
        try clear c57
        try clear c57b0
        try clear c57b1
        try clear c58
        try clear c58b0
        try clear c58b1
        try clear c64
        try clear p64
        try clear c65
        try clear c65b0
        try clear c66
        try clear c66b0
        try clear c68
        try clear c68b0
        try clear c69
        try clear c69b0
        try clear c70
        try clear c70b0
        try clear c85
        try clear c85b0
        try clear c85b1
        try clear c85b2
        try clear c87
        try clear c88
        try clear c88b0
        try clear c88b1
        try clear c88b2
        try clear hx518_0
        try clear hx519_0
        try clear p2
        try clear p5
        try clear p51
        try clear p518
        try clear p519
        try clear p6
        try clear p64
        try clear q5
        try clear q51
        try clear q518
        try clear q519
        obtain ⟨kq, x274_76, rfl, HA, HJ76, HO_36, HB⟩ := hcut
        cases kq with
        | zero => exact absurd HA.out (by simp [laws_FnStepsByGaps.j4])
        | succ kj76 =>
         have H := HA.out
         clear HA
         simp only [laws_FnStepsByGaps.j4] at H
         by_cases c94 : x274_76 = true
         ·subst c94
          have H1 : (some false) = some r := by rw [if_pos rfl] at H; exact H
          clear H
          have H := H1
          clear H1
          exact absurd (Option.some.inj H) (by rw [HR_.out]; decide)
         ·replace c94 := Bool.eq_false_iff.mpr c94
          subst c94
          have H1 : (if t537 = true then ((laws_qValue.f kj76 t536 t535).bind fun t546 => (laws_FnStepsByGaps.j5 kj76 l0 (t546 != t533))) else (laws_FnStepsByGaps.j5 kj76 l0 false)) = some r := by rw [if_neg (show ¬ (false = true) by decide)] at H; exact H
          clear H
          have H := H1
          clear H1
          have HC95 := Aside0.mk H
          clear H
          go_upto_region 31 with (fail)
          repeat (go_quiet (fail); go_upto_region 31 with (fail))
          go_cut [282] (fun v282 wc => ∃ (kq : Nat) (x282_94 : Bool), v282 = .bool x282_94 ∧ Aside0 (laws_FnStepsByGaps.j5 kq l0 x282_94 = some r) ∧ Aside0 (kq ≤ kj76) ∧ Aside0 (Below w.heap.size w wc))
          case first =>
           as_aux_lemma =>
           have H := HC95.out
           clear HC95
           by_cases c96 : t537 = true
           ·subst c96
            have H1 : ((laws_qValue.f kj76 t536 t535).bind fun t546 => (laws_FnStepsByGaps.j5 kj76 l0 (t546 != t533))) = some r := by rw [if_pos rfl] at H; exact H
            clear H
            have H := H1
            clear H1
            replace H := Option.bind_eq_some_iff.mp H
            obtain ⟨t546, A970, H⟩ := H
            replace H : (laws_FnStepsByGaps.j5 kj76 l0 (t546 != t533)) = some r := H
            have A97 := Aside0.mk A970
            clear A970
            as_aux_lemma =>
             have H' := Aside0.mk H
             clear H
             obtain ⟨Ao98, co98, eo98⟩ := Kd.R_slice HO_36.out
             subst eo98
             go_wp2_with (first | (go_at_call 16; (with_reducible refine (laws_qValue.calls kj76 _ _ t536 t535 t546 _ ?side1 ?side2 A97.out).mono ?_); (case side1 => repeat (first | exact (Kd.R_reads' HO_36.out).2.2 | (with_reducible refine Kd.C_alloc ?_ _) | (with_reducible refine Kd.C_drewN ?_ _) | (with_reducible refine Kd.C_drew ?_))); (case side2 => exact (Kd.R_reads' HO_36.out).2.1); rintro e w99 ⟨rfl, hb⟩; have n0_ := Aside0.mk (Kd.R_below (by (with_reducible repeat (first | apply Kd.R_alloc | apply Kd.R_drewN | apply Kd.R_drew)); exact HO_36.out) hb); have n1_ := Aside0.mk (below_step (by repeat (first | (with_reducible first | exact HB.out | apply below_alloc | apply pw_below_drewN | apply below_drew1) | exact HB.out)) hb); clear HO_36; clear HB; have HO_36 := n0_; have HB := n1_; clear n0_ n1_; (try clear hb); (try clear hb2); (try clear hk); (try clear hi)))
             repeat (go_quiet (first | (go_at_call 16; (with_reducible refine (laws_qValue.calls kj76 _ _ t536 t535 t546 _ ?side1 ?side2 A97.out).mono ?_); (case side1 => repeat (first | exact (Kd.R_reads' HO_36.out).2.2 | (with_reducible refine Kd.C_alloc ?_ _) | (with_reducible refine Kd.C_drewN ?_ _) | (with_reducible refine Kd.C_drew ?_))); (case side2 => exact (Kd.R_reads' HO_36.out).2.1); rintro e w99 ⟨rfl, hb⟩; have n0_ := Aside0.mk (Kd.R_below (by (with_reducible repeat (first | apply Kd.R_alloc | apply Kd.R_drewN | apply Kd.R_drew)); exact HO_36.out) hb); have n1_ := Aside0.mk (below_step (by repeat (first | (with_reducible first | exact HB.out | apply below_alloc | apply pw_below_drewN | apply below_drew1) | exact HB.out)) hb); clear HO_36; clear HB; have HO_36 := n0_; have HB := n1_; clear n0_ n1_; (try clear hb); (try clear hb2); (try clear hk); (try clear hi))); try go_wp2_with (first | (go_at_call 16; (with_reducible refine (laws_qValue.calls kj76 _ _ t536 t535 t546 _ ?side1 ?side2 A97.out).mono ?_); (case side1 => repeat (first | exact (Kd.R_reads' HO_36.out).2.2 | (with_reducible refine Kd.C_alloc ?_ _) | (with_reducible refine Kd.C_drewN ?_ _) | (with_reducible refine Kd.C_drew ?_))); (case side2 => exact (Kd.R_reads' HO_36.out).2.1); rintro e w99 ⟨rfl, hb⟩; have n0_ := Aside0.mk (Kd.R_below (by (with_reducible repeat (first | apply Kd.R_alloc | apply Kd.R_drewN | apply Kd.R_drew)); exact HO_36.out) hb); have n1_ := Aside0.mk (below_step (by repeat (first | (with_reducible first | exact HB.out | apply below_alloc | apply pw_below_drewN | apply below_drew1) | exact HB.out)) hb); clear HO_36; clear HB; have HO_36 := n0_; have HB := n1_; clear n0_ n1_; (try clear hb); (try clear hb2); (try clear hk); (try clear hi))))
             go_meet
             case rel => exact ⟨_, ((t546 != t533)), (by first | rfl | (simp; done) | (simp [*]; done)), H', ⟨by have := HJ11.out; have := HJ33.out; have := HJ76.out; first | omega | exact Nat.le_refl _⟩, ⟨by repeat (first | (with_reducible first | exact HB.out | apply below_alloc | apply pw_below_drewN | apply below_drew1) | exact HB.out)⟩⟩
           ·replace c96 := Bool.eq_false_iff.mpr c96
            subst c96
            have H1 : (laws_FnStepsByGaps.j5 kj76 l0 false) = some r := by rw [if_neg (show ¬ (false = true) by decide)] at H; exact H
            clear H
            have H := H1
            clear H1
            as_aux_lemma =>
             have H' := Aside0.mk H
             clear H
             go_wp2
             repeat (go_quiet (fail); try go_wp2)
             go_meet
             case rel => exact ⟨_, (false), (by first | rfl | (simp; done) | (simp [*]; done)), H', ⟨by have := HJ11.out; have := HJ33.out; have := HJ76.out; first | omega | exact Nat.le_refl _⟩, ⟨by repeat (first | (with_reducible first | exact HB.out | apply below_alloc | apply pw_below_drewN | apply below_drew1) | exact HB.out)⟩⟩
          case rest =>
           as_aux_lemma =>
           clear HC95
           try clear c1
           try clear c2
           try clear p2
           try clear c3
           try clear c4
           try clear c5
           try clear p5
           try clear q5
           try clear hx5
           try clear c6
           try clear p6
           try clear c7
           try clear c8
           try clear c9
           try clear c20
           try clear c20b0
           try clear c20b1
           try clear c20b2
           try clear c22
           try clear c23
           try clear c23b0
           try clear c23b1
           try clear c23b2
           try clear c25
           try clear c26
           try clear c26b0
           try clear c26b1
           try clear c26b2
           try clear c27
           try clear c27b0
           try clear c27b1
           try clear c28
           try clear c28b0
           try clear c28b1
           try clear c28b2
           try clear c33
           try clear c35
           try clear c47
           try clear c49
           try clear c50
           try clear p51
           try clear q51
           try clear hx51
           try clear c52
           try clear c53
           try clear c55
           try clear c57
           try clear c57b0
           try clear c57b1
           try clear c58
           try clear c58b0
           try clear c58b1
           try clear c64
           try clear p64
           try clear c65
           try clear c65b0
           try clear c66
           try clear c66b0
           try clear c68
           try clear c68b0
           try clear c69
           try clear c69b0
           try clear c70
           try clear c70b0
           try clear c85
           try clear c85b0
           try clear c85b1
           try clear c85b2
           try clear c87
           try clear c88
           try clear c88b0
           try clear c88b1
           try clear c88b2
           try clear c94
           try clear c96
           try clear hx518_0
           try clear hx519_0
           try clear p2
           try clear p5
           try clear p51
           try clear p518
           try clear p519
           try clear p6
           try clear p64
           try clear q5
           try clear q51
           try clear q518
           try clear q519
           obtain ⟨kq, x282_94, rfl, HA, HJ94, HB⟩ := hcut
           cases kq with
           | zero => exact absurd HA.out (by simp [laws_FnStepsByGaps.j5])
           | succ kj94 =>
            have H := HA.out
            clear HA
            simp only [laws_FnStepsByGaps.j5] at H
            by_cases c100 : x282_94 = true
            ·subst c100
             have H1 : (some false) = some r := by rw [if_pos rfl] at H; exact H
             clear H
             have H := H1
             clear H1
             exact absurd (Option.some.inj H) (by rw [HR_.out]; decide)
            ·replace c100 := Bool.eq_false_iff.mpr c100
             subst c100
             have H1 : ((spec_DrawAllGaps.f l0).bind fun bt547 => ((impl_AllGaps.f kj94 bt547.1 bt547.2).bind fun bt549 => ((spec_AllGaps.f kj94 bt547.1 bt547.2).bind fun bt553 => (if (bt549.2 != bt553.2) = true then (laws_FnStepsByGaps.j6 kj94 bt549.1 true) else ((laws_qSameRows.f kj94 bt549.1 bt553.1).bind fun t557 => (laws_FnStepsByGaps.j6 kj94 bt549.1 (!t557))))))) = some r := by rw [if_neg (show ¬ (false = true) by decide)] at H; exact H
             clear H
             have H := H1
             clear H1
             replace H := Option.bind_eq_some_iff.mp H
             obtain ⟨⟨t547, t548⟩, A1010, H⟩ := H
             replace H : ((impl_AllGaps.f kj94 t547 t548).bind fun bt549 => ((spec_AllGaps.f kj94 t547 t548).bind fun bt553 => (if (bt549.2 != bt553.2) = true then (laws_FnStepsByGaps.j6 kj94 bt549.1 true) else ((laws_qSameRows.f kj94 bt549.1 bt553.1).bind fun t557 => (laws_FnStepsByGaps.j6 kj94 bt549.1 (!t557)))))) = some r := H
             have A101 := Aside0.mk A1010
             clear A1010
             replace H := Option.bind_eq_some_iff.mp H
             obtain ⟨⟨t549, t552⟩, A1020, H⟩ := H
             replace H : ((spec_AllGaps.f kj94 t547 t548).bind fun bt553 => (if (t552 != bt553.2) = true then (laws_FnStepsByGaps.j6 kj94 t549 true) else ((laws_qSameRows.f kj94 t549 bt553.1).bind fun t557 => (laws_FnStepsByGaps.j6 kj94 t549 (!t557))))) = some r := H
             have A102 := Aside0.mk A1020
             clear A1020
             replace H := Option.bind_eq_some_iff.mp H
             obtain ⟨⟨t553, t556⟩, A1030, H⟩ := H
             replace H : (if (t552 != t556) = true then (laws_FnStepsByGaps.j6 kj94 t549 true) else ((laws_qSameRows.f kj94 t549 t553).bind fun t557 => (laws_FnStepsByGaps.j6 kj94 t549 (!t557)))) = some r := H
             have A103 := Aside0.mk A1030
             clear A1030
             have HC104 := Aside0.mk H
             clear H
             go_upto_region 36 with (first | (go_at_call 21; (with_reducible refine (spec_DrawAllGaps.calls _ _ l0 t547 t548 _ ?side1 ?side2 A101.out).mono ?_); (case side1 => repeat (first | exact (Kd.C_below HR0.out HB.out) | (with_reducible refine Kd.C_alloc ?_ _) | (with_reducible refine Kd.C_drewN ?_ _) | (with_reducible refine Kd.C_drew ?_))); (case side2 => exact HC0.out); rintro e w105 ⟨rfl, hb⟩; have n0_ := Aside0.mk (below_step (by repeat (first | (with_reducible first | exact HB.out | apply below_alloc | apply pw_below_drewN | apply below_drew1) | exact HB.out)) hb); clear HB; have HB := n0_; clear n0_; (try clear hb); (try clear hb2); (try clear hk); (try clear hi)) | (go_at_call 22; (with_reducible refine (impl_AllGaps.calls kj94 t547 t548 t549 t552 _ A102.out).mono ?_); rintro e w106 ⟨v550, rfl, ho0, hb⟩; have n0_ := Aside0.mk (Kd.N_lower (Kd.N_mono (ok' := fun k_ => True) ho0 (fun k_ hk_ => trivial)) (below_size (by repeat (first | (with_reducible first | exact HB.out | apply below_alloc | apply pw_below_drewN | apply below_drew1) | exact HB.out)))); have n1_ := Aside0.mk (below_step (by repeat (first | (with_reducible first | exact HB.out | apply below_alloc | apply pw_below_drewN | apply below_drew1) | exact HB.out)) hb); clear HB; have HO551 := n0_; have HB := n1_; clear n0_ n1_; (try clear hb); (try clear hb2); (try clear hk); (try clear hi); (try clear ho0)) | (go_at_call 23; (with_reducible refine (spec_AllGaps.calls kj94 t547 t548 t553 t556 _ A103.out).mono ?_); rintro e w107 ⟨v554, rfl, ho0, hb⟩; have n0_ := Aside0.mk (Kd.N_elder' (by (with_reducible repeat (first | apply Kd.N_alloc | apply Kd.N_drewN | apply Kd.N_drew)); exact HO551.out) (Kd.N_base ho0) hb); have n1_ := Aside0.mk (Kd.N_lower (Kd.N_mono (ok' := fun k_ => some k_ ≠ (v550 : Value).ownBlock) ho0 (fun k_ hk_ => (Kd.fresh' (Kd.N_lt (by (with_reducible repeat (first | apply Kd.N_alloc | apply Kd.N_drewN | apply Kd.N_drew)); exact HO551.out)) k_ hk_))) (below_size (by repeat (first | (with_reducible first | exact HB.out | apply below_alloc | apply pw_below_drewN | apply below_drew1) | exact HB.out)))); have n2_ := Aside0.mk (below_step (by repeat (first | (with_reducible first | exact HB.out | apply below_alloc | apply pw_below_drewN | apply below_drew1) | exact HB.out)) hb); clear HO551; clear HB; have HO551 := n0_; have HO555 := n1_; have HB := n2_; clear n0_ n1_ n2_; (try clear hb); (try clear hb2); (try clear hk); (try clear hi); (try clear ho0)))
             repeat (go_quiet (first | (go_at_call 21; (with_reducible refine (spec_DrawAllGaps.calls _ _ l0 t547 t548 _ ?side1 ?side2 A101.out).mono ?_); (case side1 => repeat (first | exact (Kd.C_below HR0.out HB.out) | (with_reducible refine Kd.C_alloc ?_ _) | (with_reducible refine Kd.C_drewN ?_ _) | (with_reducible refine Kd.C_drew ?_))); (case side2 => exact HC0.out); rintro e w105 ⟨rfl, hb⟩; have n0_ := Aside0.mk (below_step (by repeat (first | (with_reducible first | exact HB.out | apply below_alloc | apply pw_below_drewN | apply below_drew1) | exact HB.out)) hb); clear HB; have HB := n0_; clear n0_; (try clear hb); (try clear hb2); (try clear hk); (try clear hi)) | (go_at_call 22; (with_reducible refine (impl_AllGaps.calls kj94 t547 t548 t549 t552 _ A102.out).mono ?_); rintro e w106 ⟨v550, rfl, ho0, hb⟩; have n0_ := Aside0.mk (Kd.N_lower (Kd.N_mono (ok' := fun k_ => True) ho0 (fun k_ hk_ => trivial)) (below_size (by repeat (first | (with_reducible first | exact HB.out | apply below_alloc | apply pw_below_drewN | apply below_drew1) | exact HB.out)))); have n1_ := Aside0.mk (below_step (by repeat (first | (with_reducible first | exact HB.out | apply below_alloc | apply pw_below_drewN | apply below_drew1) | exact HB.out)) hb); clear HB; have HO551 := n0_; have HB := n1_; clear n0_ n1_; (try clear hb); (try clear hb2); (try clear hk); (try clear hi); (try clear ho0)) | (go_at_call 23; (with_reducible refine (spec_AllGaps.calls kj94 t547 t548 t553 t556 _ A103.out).mono ?_); rintro e w107 ⟨v554, rfl, ho0, hb⟩; have n0_ := Aside0.mk (Kd.N_elder' (by (with_reducible repeat (first | apply Kd.N_alloc | apply Kd.N_drewN | apply Kd.N_drew)); exact HO551.out) (Kd.N_base ho0) hb); have n1_ := Aside0.mk (Kd.N_lower (Kd.N_mono (ok' := fun k_ => some k_ ≠ (v550 : Value).ownBlock) ho0 (fun k_ hk_ => (Kd.fresh' (Kd.N_lt (by (with_reducible repeat (first | apply Kd.N_alloc | apply Kd.N_drewN | apply Kd.N_drew)); exact HO551.out)) k_ hk_))) (below_size (by repeat (first | (with_reducible first | exact HB.out | apply below_alloc | apply pw_below_drewN | apply below_drew1) | exact HB.out)))); have n2_ := Aside0.mk (below_step (by repeat (first | (with_reducible first | exact HB.out | apply below_alloc | apply pw_below_drewN | apply below_drew1) | exact HB.out)) hb); clear HO551; clear HB; have HO551 := n0_; have HO555 := n1_; have HB := n2_; clear n0_ n1_ n2_; (try clear hb); (try clear hb2); (try clear hk); (try clear hi); (try clear ho0))); go_upto_region 36 with (first | (go_at_call 21; (with_reducible refine (spec_DrawAllGaps.calls _ _ l0 t547 t548 _ ?side1 ?side2 A101.out).mono ?_); (case side1 => repeat (first | exact (Kd.C_below HR0.out HB.out) | (with_reducible refine Kd.C_alloc ?_ _) | (with_reducible refine Kd.C_drewN ?_ _) | (with_reducible refine Kd.C_drew ?_))); (case side2 => exact HC0.out); rintro e w105 ⟨rfl, hb⟩; have n0_ := Aside0.mk (below_step (by repeat (first | (with_reducible first | exact HB.out | apply below_alloc | apply pw_below_drewN | apply below_drew1) | exact HB.out)) hb); clear HB; have HB := n0_; clear n0_; (try clear hb); (try clear hb2); (try clear hk); (try clear hi)) | (go_at_call 22; (with_reducible refine (impl_AllGaps.calls kj94 t547 t548 t549 t552 _ A102.out).mono ?_); rintro e w106 ⟨v550, rfl, ho0, hb⟩; have n0_ := Aside0.mk (Kd.N_lower (Kd.N_mono (ok' := fun k_ => True) ho0 (fun k_ hk_ => trivial)) (below_size (by repeat (first | (with_reducible first | exact HB.out | apply below_alloc | apply pw_below_drewN | apply below_drew1) | exact HB.out)))); have n1_ := Aside0.mk (below_step (by repeat (first | (with_reducible first | exact HB.out | apply below_alloc | apply pw_below_drewN | apply below_drew1) | exact HB.out)) hb); clear HB; have HO551 := n0_; have HB := n1_; clear n0_ n1_; (try clear hb); (try clear hb2); (try clear hk); (try clear hi); (try clear ho0)) | (go_at_call 23; (with_reducible refine (spec_AllGaps.calls kj94 t547 t548 t553 t556 _ A103.out).mono ?_); rintro e w107 ⟨v554, rfl, ho0, hb⟩; have n0_ := Aside0.mk (Kd.N_elder' (by (with_reducible repeat (first | apply Kd.N_alloc | apply Kd.N_drewN | apply Kd.N_drew)); exact HO551.out) (Kd.N_base ho0) hb); have n1_ := Aside0.mk (Kd.N_lower (Kd.N_mono (ok' := fun k_ => some k_ ≠ (v550 : Value).ownBlock) ho0 (fun k_ hk_ => (Kd.fresh' (Kd.N_lt (by (with_reducible repeat (first | apply Kd.N_alloc | apply Kd.N_drewN | apply Kd.N_drew)); exact HO551.out)) k_ hk_))) (below_size (by repeat (first | (with_reducible first | exact HB.out | apply below_alloc | apply pw_below_drewN | apply below_drew1) | exact HB.out)))); have n2_ := Aside0.mk (below_step (by repeat (first | (with_reducible first | exact HB.out | apply below_alloc | apply pw_below_drewN | apply below_drew1) | exact HB.out)) hb); clear HO551; clear HB; have HO551 := n0_; have HO555 := n1_; have HB := n2_; clear n0_ n1_ n2_; (try clear hb); (try clear hb2); (try clear hk); (try clear hi); (try clear ho0))))
             (try simp only [Act.put, List.setIfInBounds_toArray, List.set_cons_zero, List.set_cons_succ])
             go_cut [308] (fun v308 wc => ∃ (kq : Nat) (x308_103 : Bool), v308 = .bool x308_103 ∧ Aside0 (laws_FnStepsByGaps.j6 kq t549 x308_103 = some r) ∧ Aside0 (kq ≤ kj94) ∧ Aside0 (Kd.N (Kd.slice 3 (Kd.int .i64)) 24 wc w.heap.size (fun _ => True) v550 t549) ∧ Aside0 (Below w.heap.size w wc))
             case first =>
              as_aux_lemma =>
              have H := HC104.out
              clear HC104
              by_cases c108 : (t552 != t556) = true
              ·rw [if_pos c108] at H
               have c108b0 : (t552 != t556) = true := c108
               (try (have c108b1 : decide (t552 = t556) = false := by simpa using c108))
               (try (have c108b2 : (t552 == t556) = false := by simpa using c108))
               (try (have c108b3 : ¬ (t552 = t556) := by simpa using c108))
               clear c108
               (first | rw [c108b0] | (simp only [i64_w, i32_w]; rw [c108b0]) | skip)
               exact (laws_FnStepsByGaps.j6_no HR_.out _ _ H).elim
              ·rw [if_neg c108] at H
               have c108b0 : (t552 != t556) = false := by simpa using c108
               (try (have c108b1 : decide (t552 = t556) = true := by simpa using c108))
               (try (have c108b2 : (t552 == t556) = true := by simpa using c108))
               clear c108
               (first | rw [c108b0] | (simp only [i64_w, i32_w]; rw [c108b0]) | skip)
               replace H := Option.bind_eq_some_iff.mp H
               obtain ⟨t557, A1090, H⟩ := H
               replace H : (laws_FnStepsByGaps.j6 kj94 t549 (!t557)) = some r := H
               have A109 := Aside0.mk A1090
               clear A1090
               as_aux_lemma =>
                have H' := Aside0.mk H
                clear H
                obtain ⟨Ao110, co110, eo110⟩ := Kd.N_slice HO551.out
                subst eo110
                obtain ⟨Ao111, co111, eo111⟩ := Kd.N_slice HO555.out
                subst eo111
                go_wp2_with (first | (go_at_call 24; (with_reducible refine (laws_qSameRows.calls kj94 _ _ t549 _ _ t553 t557 _ ?side1 ?side2 ?side3 ?side4 A109.out).mono ?_); (case side1 => repeat (first | exact (Kd.N_reads' HO551.out).2.2 | (with_reducible refine Kd.C_alloc ?_ _) | (with_reducible refine Kd.C_drewN ?_ _) | (with_reducible refine Kd.C_drew ?_))); (case side2 => exact (Kd.N_reads' HO551.out).2.1); (case side3 => repeat (first | exact (Kd.N_reads' HO555.out).2.2 | (with_reducible refine Kd.C_alloc ?_ _) | (with_reducible refine Kd.C_drewN ?_ _) | (with_reducible refine Kd.C_drew ?_))); (case side4 => exact (Kd.N_reads' HO555.out).2.1); rintro e w' ⟨rfl, ⟨nd, rfl⟩⟩; (try first | exact ⟨rfl, _, World.drewN_drewN _ _ _⟩ | exact ⟨rfl, _, Eq.trans (World.drewN_drewN _ _ _) (congrArg (World.drewN _) (Nat.add_assoc _ _ _))⟩)))
                repeat (go_quiet (first | (go_at_call 24; (with_reducible refine (laws_qSameRows.calls kj94 _ _ t549 _ _ t553 t557 _ ?side1 ?side2 ?side3 ?side4 A109.out).mono ?_); (case side1 => repeat (first | exact (Kd.N_reads' HO551.out).2.2 | (with_reducible refine Kd.C_alloc ?_ _) | (with_reducible refine Kd.C_drewN ?_ _) | (with_reducible refine Kd.C_drew ?_))); (case side2 => exact (Kd.N_reads' HO551.out).2.1); (case side3 => repeat (first | exact (Kd.N_reads' HO555.out).2.2 | (with_reducible refine Kd.C_alloc ?_ _) | (with_reducible refine Kd.C_drewN ?_ _) | (with_reducible refine Kd.C_drew ?_))); (case side4 => exact (Kd.N_reads' HO555.out).2.1); rintro e w' ⟨rfl, ⟨nd, rfl⟩⟩; (try first | exact ⟨rfl, _, World.drewN_drewN _ _ _⟩ | exact ⟨rfl, _, Eq.trans (World.drewN_drewN _ _ _) (congrArg (World.drewN _) (Nat.add_assoc _ _ _))⟩))); try go_wp2_with (first | (go_at_call 24; (with_reducible refine (laws_qSameRows.calls kj94 _ _ t549 _ _ t553 t557 _ ?side1 ?side2 ?side3 ?side4 A109.out).mono ?_); (case side1 => repeat (first | exact (Kd.N_reads' HO551.out).2.2 | (with_reducible refine Kd.C_alloc ?_ _) | (with_reducible refine Kd.C_drewN ?_ _) | (with_reducible refine Kd.C_drew ?_))); (case side2 => exact (Kd.N_reads' HO551.out).2.1); (case side3 => repeat (first | exact (Kd.N_reads' HO555.out).2.2 | (with_reducible refine Kd.C_alloc ?_ _) | (with_reducible refine Kd.C_drewN ?_ _) | (with_reducible refine Kd.C_drew ?_))); (case side4 => exact (Kd.N_reads' HO555.out).2.1); rintro e w' ⟨rfl, ⟨nd, rfl⟩⟩; (try first | exact ⟨rfl, _, World.drewN_drewN _ _ _⟩ | exact ⟨rfl, _, Eq.trans (World.drewN_drewN _ _ _) (congrArg (World.drewN _) (Nat.add_assoc _ _ _))⟩))))
                go_meet
                case rel => exact ⟨_, (!t557), (by first | rfl | (simp; done) | (simp [*]; done)), H', ⟨by have := HJ11.out; have := HJ33.out; have := HJ76.out; have := HJ94.out; first | omega | exact Nat.le_refl _⟩, ⟨by (with_reducible repeat (first | apply Kd.N_alloc | apply Kd.N_drewN | apply Kd.N_drew)); exact Kd.N_mono HO551.out (fun _ hk => trivial)⟩, ⟨by repeat (first | (with_reducible first | exact HB.out | apply below_alloc | apply pw_below_drewN | apply below_drew1) | exact HB.out)⟩⟩
             case rest =>
              as_aux_lemma =>
              clear HC104
              try clear c1
              try clear c2
              try clear p2
              try clear c3
              try clear c4
              try clear c5
              try clear p5
              try clear q5
              try clear hx5
              try clear c6
              try clear p6
              try clear c7
              try clear c8
              try clear c9
              try clear c10
              try clear c20
              try clear c20b0
              try clear c20b1
              try clear c20b2
              try clear c22
              try clear c23
              try clear c23b0
              try clear c23b1
              try clear c23b2
              try clear c25
              try clear c26
              try clear c26b0
              try clear c26b1
              try clear c26b2
              try clear c27
              try clear c27b0
              try clear c27b1
              try clear c28
              try clear c28b0
              try clear c28b1
              try clear c28b2
              try clear c33
              try clear c35
              try clear c47
              try clear c49
              try clear c50
              try clear p51
              try clear q51
              try clear hx51
              try clear c52
              try clear c53
              try clear c55
              try clear c57
              try clear c57b0
              try clear c57b1
              try clear c58
              try clear c58b0
              try clear c58b1
              try clear c64
              try clear p64
              try clear c65
              try clear c65b0
              try clear c66
              try clear c66b0
              try clear c68
              try clear c68b0
              try clear c69
              try clear c69b0
              try clear c70
              try clear c70b0
              try clear c85
              try clear c85b0
              try clear c85b1
              try clear c85b2
              try clear c87
              try clear c88
              try clear c88b0
              try clear c88b1
              try clear c88b2
              try clear c94
              try clear c96
              try clear c100
              try clear c108
              try clear c108b0
              try clear c108b1
              try clear c108b2
              try clear hx518_0
              try clear hx519_0
              try clear p2
              try clear p5
              try clear p51
              try clear p518
              try clear p519
              try clear p6
              try clear p64
              try clear q5
              try clear q51
              try clear q518
              try clear q519
              obtain ⟨kq, x308_103, rfl, HA, HJ103, HO_42, HB⟩ := hcut
              cases kq with
              | zero => exact absurd HA.out (by simp [laws_FnStepsByGaps.j6])
              | succ kj103 =>
               have H := HA.out
               clear HA
               simp only [laws_FnStepsByGaps.j6] at H
               by_cases c112 : x308_103 = true
               ·subst c112
                have H1 : (some false) = some r := by rw [if_pos rfl] at H; exact H
                clear H
                have H := H1
                clear H1
                exact absurd (Option.some.inj H) (by rw [HR_.out]; decide)
               ·replace c112 := Bool.eq_false_iff.mpr c112
                subst c112
                have H1 : (laws_FnStepsByGaps.l1 kj103 t549 1) = some r := by rw [if_neg (show ¬ (false = true) by decide)] at H; exact H
                clear H
                have H := H1
                clear H1
                have H' := Aside0.mk H
                clear H
                go_wp2
                repeat (go_quiet (fail); try go_wp2)
                go_loopg [46] kj103 (fun kq v46 w' => ∃ (x46_6 : Int), v46 = .int .i64 x46_6 ∧ Aside0 (laws_FnStepsByGaps.l1 kq t549 x46_6 = some r) ∧ Aside0 (kq ≤ kj103) ∧ Aside0 (Kd.N (Kd.slice 3 (Kd.int .i64)) 24 w' w.heap.size (fun _ => True) v550 t549) ∧ Aside0 (Below w.heap.size w w'))
                case atStart => exact ⟨(1), (by first | rfl | (simp; done) | (simp [*]; done)), H', ⟨Nat.le_refl _⟩, ⟨by (with_reducible repeat (first | apply Kd.N_alloc | apply Kd.N_drewN | apply Kd.N_drew)); exact HO_42.out⟩, ⟨by repeat (first | (with_reducible first | exact HB.out | apply below_alloc | apply pw_below_drewN | apply below_drew1) | exact HB.out)⟩⟩
                case round =>
                 as_aux_lemma =>
                 clear H'
                 try clear c1
                 try clear c2
                 try clear p2
                 try clear c3
                 try clear c4
                 try clear c5
                 try clear p5
                 try clear q5
                 try clear hx5
                 try clear c6
                 try clear p6
                 try clear c7
                 try clear c8
                 try clear c9
                 try clear c10
                 try clear c11
                 try clear c20
                 try clear c20b0
                 try clear c20b1
                 try clear c20b2
                 try clear c22
                 try clear c23
                 try clear c23b0
                 try clear c23b1
                 try clear c23b2
                 try clear c25
                 try clear c26
                 try clear c26b0
                 try clear c26b1
                 try clear c26b2
                 try clear c27
                 try clear c27b0
                 try clear c27b1
                 try clear c28
                 try clear c28b0
                 try clear c28b1
                 try clear c28b2
                 try clear c33
                 try clear c35
                 try clear c47
                 try clear c49
                 try clear c50
                 try clear p51
                 try clear q51
                 try clear hx51
                 try clear c52
                 try clear c53
                 try clear c55
                 try clear c57
                 try clear c57b0
                 try clear c57b1
                 try clear c58
                 try clear c58b0
                 try clear c58b1
                 try clear c64
                 try clear p64
                 try clear c65
                 try clear c65b0
                 try clear c66
                 try clear c66b0
                 try clear c68
                 try clear c68b0
                 try clear c69
                 try clear c69b0
                 try clear c70
                 try clear c70b0
                 try clear c85
                 try clear c85b0
                 try clear c85b1
                 try clear c85b2
                 try clear c87
                 try clear c88
                 try clear c88b0
                 try clear c88b1
                 try clear c88b2
                 try clear c94
                 try clear c96
                 try clear c100
                 try clear c108
                 try clear c108b0
                 try clear c108b1
                 try clear c108b2
                 try clear c112
                 try clear hx518_0
                 try clear hx519_0
                 try clear p2
                 try clear p5
                 try clear p51
                 try clear p518
                 try clear p519
                 try clear p6
                 try clear p64
                 try clear q5
                 try clear q51
                 try clear q518
                 try clear q519
                 obtain ⟨x46_6, rfl, HA, HK6, HO_42, HB⟩ := hrel
                 cases gk with
                 | zero => exact absurd HA.out (by simp [laws_FnStepsByGaps.l1])
                 | succ k6 =>
                  have H := HA.out
                  clear HA
                  simp only [laws_FnStepsByGaps.l1] at H
                  by_cases c113 : x46_6 < (t549.length : Int)
                  ·rw [if_pos c113] at H
                   have c113b0 : decide (x46_6 < (t549.length : Int)) = true := decide_eq_true c113
                   clear c113
                   obtain ⟨ji114, hji114⟩ : ∃ j_ : Int, (wrap64 (x46_6 - 1)) = j_ := ⟨_, rfl⟩
                   replace H : (if 0 ≤ (ji114) then (if (ji114) < (t549.length : Int) then (if 0 ≤ x46_6 then ((laws_qLess.f k6 (rd_L2 t549 (ji114)) (rd_L2 t549 x46_6)).bind fun t560 => (if t560 = true then (laws_FnStepsByGaps.l1 k6 t549 (wrap64 (x46_6 + 1))) else (some false))) else (none)) else (none)) else (none)) = some r := by first | (rw [hji114] at H; exact H) | (simp only [hji114] at H ⊢; exact H)
                   have hji114w : (IntKind.i64.wrap (x46_6 - 1)) = ji114 := (i64_w _).trans hji114
                   by_cases c115 : 0 ≤ (ji114)
                   ·rw [if_pos c115] at H
                    have c115b0 : decide (0 ≤ (ji114)) = true := decide_eq_true c115
                    clear c115
                    by_cases c116 : (ji114) < (t549.length : Int)
                    ·rw [if_pos c116] at H
                     have c116b0 : decide ((ji114) < (t549.length : Int)) = true := decide_eq_true c116
                     clear c116
                     by_cases c117 : 0 ≤ x46_6
                     ·rw [if_pos c117] at H
                      have c117b0 : decide (0 ≤ x46_6) = true := decide_eq_true c117
                      clear c117
                      replace H := Option.bind_eq_some_iff.mp H
                      obtain ⟨t560, A1180, H⟩ := H
                      replace H : (if t560 = true then (laws_FnStepsByGaps.l1 k6 t549 (wrap64 (x46_6 + 1))) else (some false)) = some r := H
                      have A118 := Aside0.mk A1180
                      clear A1180
                      by_cases c119 : t560 = true
                      ·subst c119
                       have H1 : (laws_FnStepsByGaps.l1 k6 t549 (wrap64 (x46_6 + 1))) = some r := by rw [if_pos rfl] at H; exact H
                       clear H
                       have H := H1
                       clear H1
                       as_aux_lemma =>
                        have H' := Aside0.mk H
                        clear H
                        obtain ⟨Ao120, co120, eo120⟩ := Kd.N_slice HO_42.out
                        subst eo120
                        have p558 : 0 ≤ ((ji114) : Int) := of_decide_eq_true (by first | (with_reducible assumption) | assumption)
                        have q558 : (ji114) < (t549.length : Int) := of_decide_eq_true (by first | (with_reducible assumption) | assumption)
                        obtain ⟨ad558, A558_0, c558_0, e558, hx558_0, hl558_0, hi558_0⟩ := at_L2 (Kd.N_reads' HO_42.out).2.2 (ji114) p558 q558
                        cases e558
                        obtain ⟨ce558, hce558, hMe558, hcc558⟩ := Kd.N_get HO_42.out [] (ji114) p558 (by first | exact q558 | exact of_decide_eq_true (by first | (with_reducible assumption) | assumption) | (have e_ := (Kd.N_reads' HO_42.out).1; omega))
                        obtain ⟨ua558_0, uc558_0, rfl, ul558_0, ge558_0⟩ := Kd.FK_slice_open hMe558
                        have hv558_0 := hcc558 0 _ rfl
                        rw [Nat.add_zero, show ((Kd.slice 3 (Kd.int .i64))).sz = 1 from rfl, Nat.mul_one] at hv558_0
                        replace hv558_0 := Option.some.inj (hv558_0.symm.trans hx558_0)
                        injection hv558_0 with hva_ hvn_ hvc_
                        rw [hva_] at ge558_0
                        rw [hvc_] at ul558_0
                        have HL558_0 := Aside0.mk (show Kd.V (Kd.int .i64) 3 _ w.heap.size _ _ (rd_L2 t549 (ji114)) from Kd.V_mk ul558_0 ge558_0)
                        clear hva_ hvn_ hvc_ ge558_0 ul558_0
                        clear hcc558 hce558
                        have HR558_0 := Aside0.mk hi558_0
                        have HC558_0 := Aside0.mk hl558_0
                        clear hi558_0 hl558_0
                        replace p558 := eq_true p558
                        replace q558 := eq_true q558
                        have p559 : 0 ≤ (x46_6 : Int) := of_decide_eq_true (by first | (with_reducible assumption) | assumption)
                        have q559 : x46_6 < (t549.length : Int) := of_decide_eq_true (by first | (with_reducible assumption) | assumption)
                        obtain ⟨ad559, A559_0, c559_0, e559, hx559_0, hl559_0, hi559_0⟩ := at_L2 (Kd.N_reads' HO_42.out).2.2 x46_6 p559 q559
                        obtain rfl : ad558 = ad559 := (by injection e559)
                        obtain ⟨ce559, hce559, hMe559, hcc559⟩ := Kd.N_get HO_42.out [] x46_6 p559 (by first | exact q559 | exact of_decide_eq_true (by first | (with_reducible assumption) | assumption) | (have e_ := (Kd.N_reads' HO_42.out).1; omega))
                        obtain ⟨ua559_0, uc559_0, rfl, ul559_0, ge559_0⟩ := Kd.FK_slice_open hMe559
                        have hv559_0 := hcc559 0 _ rfl
                        rw [Nat.add_zero, show ((Kd.slice 3 (Kd.int .i64))).sz = 1 from rfl, Nat.mul_one] at hv559_0
                        replace hv559_0 := Option.some.inj (hv559_0.symm.trans hx559_0)
                        injection hv559_0 with hva_ hvn_ hvc_
                        rw [hva_] at ge559_0
                        rw [hvc_] at ul559_0
                        have HL559_0 := Aside0.mk (show Kd.V (Kd.int .i64) 3 _ w.heap.size _ _ (rd_L2 t549 x46_6) from Kd.V_mk ul559_0 ge559_0)
                        clear hva_ hvn_ hvc_ ge559_0 ul559_0
                        clear hcc559 hce559
                        have HR559_0 := Aside0.mk hi559_0
                        have HC559_0 := Aside0.mk hl559_0
                        clear hi559_0 hl559_0
                        replace p559 := eq_true p559
                        replace q559 := eq_true q559
                        go_wp2_with (first | (go_at_call 25; (with_reducible refine (laws_qLess.calls k6 _ _ (rd_L2 t549 (ji114)) _ _ (rd_L2 t549 x46_6) true _ ?side1 ?side2 ?side3 ?side4 A118.out).mono ?_); (case side1 => repeat (first | exact (by repeat (first | (with_reducible exact HR558_0.out) | (with_reducible refine Kd.C_alloc ?_ _) | (with_reducible refine Kd.C_drewN ?_ _) | (with_reducible refine Kd.C_drew ?_) | exact HR558_0.out)) | (with_reducible refine Kd.C_alloc ?_ _) | (with_reducible refine Kd.C_drewN ?_ _) | (with_reducible refine Kd.C_drew ?_))); (case side2 => exact HC558_0.out); (case side3 => repeat (first | exact (by repeat (first | (with_reducible exact HR559_0.out) | (with_reducible refine Kd.C_alloc ?_ _) | (with_reducible refine Kd.C_drewN ?_ _) | (with_reducible refine Kd.C_drew ?_) | exact HR559_0.out)) | (with_reducible refine Kd.C_alloc ?_ _) | (with_reducible refine Kd.C_drewN ?_ _) | (with_reducible refine Kd.C_drew ?_))); (case side4 => exact HC559_0.out); rintro e w' ⟨rfl, ⟨nd, rfl⟩⟩; (try first | exact ⟨rfl, _, World.drewN_drewN _ _ _⟩ | exact ⟨rfl, _, Eq.trans (World.drewN_drewN _ _ _) (congrArg (World.drewN _) (Nat.add_assoc _ _ _))⟩)))
                        repeat (go_quiet (first | (go_at_call 25; (with_reducible refine (laws_qLess.calls k6 _ _ (rd_L2 t549 (ji114)) _ _ (rd_L2 t549 x46_6) true _ ?side1 ?side2 ?side3 ?side4 A118.out).mono ?_); (case side1 => repeat (first | exact (by repeat (first | (with_reducible exact HR558_0.out) | (with_reducible refine Kd.C_alloc ?_ _) | (with_reducible refine Kd.C_drewN ?_ _) | (with_reducible refine Kd.C_drew ?_) | exact HR558_0.out)) | (with_reducible refine Kd.C_alloc ?_ _) | (with_reducible refine Kd.C_drewN ?_ _) | (with_reducible refine Kd.C_drew ?_))); (case side2 => exact HC558_0.out); (case side3 => repeat (first | exact (by repeat (first | (with_reducible exact HR559_0.out) | (with_reducible refine Kd.C_alloc ?_ _) | (with_reducible refine Kd.C_drewN ?_ _) | (with_reducible refine Kd.C_drew ?_) | exact HR559_0.out)) | (with_reducible refine Kd.C_alloc ?_ _) | (with_reducible refine Kd.C_drewN ?_ _) | (with_reducible refine Kd.C_drew ?_))); (case side4 => exact HC559_0.out); rintro e w' ⟨rfl, ⟨nd, rfl⟩⟩; (try first | exact ⟨rfl, _, World.drewN_drewN _ _ _⟩ | exact ⟨rfl, _, Eq.trans (World.drewN_drewN _ _ _) (congrArg (World.drewN _) (Nat.add_assoc _ _ _))⟩))); try go_wp2_with (first | (go_at_call 25; (with_reducible refine (laws_qLess.calls k6 _ _ (rd_L2 t549 (ji114)) _ _ (rd_L2 t549 x46_6) true _ ?side1 ?side2 ?side3 ?side4 A118.out).mono ?_); (case side1 => repeat (first | exact (by repeat (first | (with_reducible exact HR558_0.out) | (with_reducible refine Kd.C_alloc ?_ _) | (with_reducible refine Kd.C_drewN ?_ _) | (with_reducible refine Kd.C_drew ?_) | exact HR558_0.out)) | (with_reducible refine Kd.C_alloc ?_ _) | (with_reducible refine Kd.C_drewN ?_ _) | (with_reducible refine Kd.C_drew ?_))); (case side2 => exact HC558_0.out); (case side3 => repeat (first | exact (by repeat (first | (with_reducible exact HR559_0.out) | (with_reducible refine Kd.C_alloc ?_ _) | (with_reducible refine Kd.C_drewN ?_ _) | (with_reducible refine Kd.C_drew ?_) | exact HR559_0.out)) | (with_reducible refine Kd.C_alloc ?_ _) | (with_reducible refine Kd.C_drewN ?_ _) | (with_reducible refine Kd.C_drew ?_))); (case side4 => exact HC559_0.out); rintro e w' ⟨rfl, ⟨nd, rfl⟩⟩; (try first | exact ⟨rfl, _, World.drewN_drewN _ _ _⟩ | exact ⟨rfl, _, Eq.trans (World.drewN_drewN _ _ _) (congrArg (World.drewN _) (Nat.add_assoc _ _ _))⟩))))
                        go_roundg k6
                        case measure => have := HJ11.out; have := HJ33.out; have := HJ76.out; have := HJ94.out; have := HJ103.out; have := HK6.out; omega
                        case rel => exact ⟨(wrap64 (x46_6 + 1)), (by first | rfl | (simp; done) | (simp [*]; done)), H', ⟨by have := HJ11.out; have := HJ33.out; have := HJ76.out; have := HJ94.out; have := HJ103.out; have := HK6.out; omega⟩, ⟨by (with_reducible repeat (first | apply Kd.N_alloc | apply Kd.N_drewN | apply Kd.N_drew)); exact HO_42.out⟩, ⟨by repeat (first | (with_reducible first | exact HB.out | apply below_alloc | apply pw_below_drewN | apply below_drew1) | exact HB.out)⟩⟩
                      ·replace c119 := Bool.eq_false_iff.mpr c119
                       subst c119
                       have H1 : (some false) = some r := by rw [if_neg (show ¬ (false = true) by decide)] at H; exact H
                       clear H
                       have H := H1
                       clear H1
                       exact absurd (Option.some.inj H) (by rw [HR_.out]; decide)
                     ·rw [if_neg c117] at H
                      exact absurd H (by simp)
                    ·rw [if_neg c116] at H
                     exact absurd H (by simp)
                   ·rw [if_neg c115] at H
                    exact absurd H (by simp)
                  ·rw [if_neg c113] at H
                   have c113b0 : decide (x46_6 < (t549.length : Int)) = false := decide_eq_false c113
                   clear c113
                   as_aux_lemma =>
                    obtain rfl := Option.some.inj H
                    obtain ⟨Ao121, co121, eo121⟩ := Kd.N_slice HO_42.out
                    subst eo121
                    go_wp2
                    repeat (go_quiet (fail); try go_wp2)
                    go_ret
                    exact ⟨by first | rfl | (simp [errW_none, errW_some] <;> rfl) | (simp [*, errW_none, errW_some] <;> rfl), by repeat (first | (with_reducible first | exact HB.out | apply below_alloc | apply pw_below_drewN | apply below_drew1) | exact HB.out)⟩

/-- THE ONE PURE STATEMENT of laws_FnStepsByGaps: yours. -/
def laws_FnStepsByGaps.Pure : Prop := ∀ (l0 : List Int) (l1 : List Int), l0.length ≤ maxLen → l0.length * 1 ≤ 140737488351232 → (∀ x ∈ l0, (Lit.int .u8 x).wf = true) → l1.length ≤ maxLen → l1.length * 1 ≤ 140737488351232 → (∀ x ∈ l1, (Lit.int .u8 x).wf = true) → ∃ k, laws_FnStepsByGaps.f k l0 l1 = some true
theorem laws_FnStepsByGaps.walk (P : laws_FnStepsByGaps.Pure) (a0 : Option Addr) (len0 cap0 : Nat) (z0 : List Int) (a1 : Option Addr) (len1 cap1 : Nat) (z1 : List Int) (w : World) (w0 : (a0 = none ∧ len0 = 0 ∧ cap0 = 0 ∧ z0 = []) ∨ ∃ x, a0 = some x ∧ len0 ≤ cap0 ∧ cap0 ≤ maxLen ∧ z0.length = cap0 ∧ (∀ i, i < z0.length → w.cell? (x.add i) = some (.int .u8 (z0.getD i 0))) ∧ ∀ n ∈ z0, (Lit.int .u8 n).wf = true) (y0 : len0 * 1 ≤ 140737488351232) (w1 : (a1 = none ∧ len1 = 0 ∧ cap1 = 0 ∧ z1 = []) ∨ ∃ x, a1 = some x ∧ len1 ≤ cap1 ∧ cap1 ≤ maxLen ∧ z1.length = cap1 ∧ (∀ i, i < z1.length → w.cell? (x.add i) = some (.int .u8 (z1.getD i 0))) ∧ ∀ n ∈ z1, (Lit.int .u8 n).wf = true) (y1 : len1 * 1 ≤ 140737488351232) :
  Calls Tryz.prog 3 #[.slice a0 len0 cap0, .slice a1 len1 cap1] w fun e w' => e = .returned (.bool true) ∧ Below w.heap.size w w' := by
 obtain ⟨l0, rfl, hr0, hm0, hw0, hc0⟩ := ReadsInt.ofRowC w0
 obtain ⟨l1, rfl, hr1, hm1, hw1, hc1⟩ := ReadsInt.ofRowC w1
 obtain ⟨k, h⟩ := P l0 l1 hm0 y0 hw0 hm1 y1 hw1
 refine (laws_FnStepsByGaps.calls k _ _ l0 _ _ l1 true w (Kd.C_of_reads (d := (0 : Int)) (h1 := fun _ => rfl) hr0) hc0 (Kd.C_of_reads (d := (0 : Int)) (h1 := fun _ => rfl) hr1) hc1 h rfl).mono ?_
 rintro e w' ⟨rfl, hd⟩
 exact ⟨rfl, hd⟩

end Go.Proofs.YtkkhldjhhjpobaaGreat.PFnStepsByGaps
