-- out of the kit's print, turned by wip/own_print.py
import Derived.Test.YtpgplcckgabdjaaPFnDigitsRearrangedx0
import Derived.Test.YtpgplcckgabdjaaPFnDigitsRearrangedx1
import Derived.Test.YtpgplcckgabdjaaPFnDigitsRearrangedx2
import Derived.Test.YtpgplcckgabdjaaPFnDigitsRearrangedx3
import Derived.Test.YtpgplcckgabdjaaPFnDigitsRearrangedx4
import Derived.Test.YtpgplcckgabdjaaPFnDigitsRearrangedx5
import Derived.Test.YtpgplcckgabdjaaPFnDigitsRearrangedx6
import Derived.Test.YtpgplcckgabdjaaPFnDigitsRearrangedx7
import Derived.Test.YtpgplcckgabdjaaPFnDigitsRearrangedx9
namespace Go.Proofs.Ytpgplcckgabdjaa.PFnDigitsRearranged
open Go.RowKit Go.Proofs.YtpgplcckgabdjaaW.PrintWords Go.Proofs.YtpgplcckgabdjaaW.PrintLast Go.Proofs.YtpgplcckgabdjaaW.PrintMore
attribute [local go_sem] max2_int min2_int max_two min_two max_three min_three max_four min_four   -- for this text's walks alone
set_option linter.unusedVariables false
set_option linter.unusedSimpArgs false

/-! ### laws_FnDigitsRearranged: function 3 -/
mutual
def laws_FnDigitsRearranged.j0 : Nat → List Int → Int → Int → Int → Bool → Bool → Bool → Option (Bool)
 | 0, _, _, _, _, _, _, _ => none
 | k + 1, x1, x5, x6, x7, x8, x9, x84 => if x84 = true then (some false) else (if x9 = true then ((impl_SortedDown.f k x5 x7).bind fun bt483 => ((impl_SortedDown.f k x6 x7).bind fun bt485 => ((impl_DigitCounts.f k x5 x7).bind fun bt487 => ((impl_LeastWith.f k bt487.1 x7).bind fun bt491 => ((impl_SameDigits.f k x5 bt491.1 x7).bind fun bt493 => (if bt483.2 = true then (if bt485.2 = true then (if (x8 != (bt483.1 == bt485.1)) = true then (laws_FnDigitsRearranged.j1 k x1 x5 x6 x7 x8 bt491.1 true) else (if bt487.2 = true then (if bt491.2 = true then (if bt491.1 > x5 then (laws_FnDigitsRearranged.j1 k x1 x5 x6 x7 x8 bt491.1 true) else (if bt493.2 = true then (if bt493.1 = true then (laws_FnDigitsRearranged.j1 k x1 x5 x6 x7 x8 bt491.1 (decide (bt483.1 < x5))) else (laws_FnDigitsRearranged.j1 k x1 x5 x6 x7 x8 bt491.1 true)) else (laws_FnDigitsRearranged.j1 k x1 x5 x6 x7 x8 bt491.1 true))) else (laws_FnDigitsRearranged.j1 k x1 x5 x6 x7 x8 bt491.1 true)) else (laws_FnDigitsRearranged.j1 k x1 x5 x6 x7 x8 bt491.1 true))) else (if bt487.2 = true then (if bt491.2 = true then (if bt491.1 > x5 then (laws_FnDigitsRearranged.j1 k x1 x5 x6 x7 x8 bt491.1 true) else (if bt493.2 = true then (if bt493.1 = true then (laws_FnDigitsRearranged.j1 k x1 x5 x6 x7 x8 bt491.1 (decide (bt483.1 < x5))) else (laws_FnDigitsRearranged.j1 k x1 x5 x6 x7 x8 bt491.1 true)) else (laws_FnDigitsRearranged.j1 k x1 x5 x6 x7 x8 bt491.1 true))) else (laws_FnDigitsRearranged.j1 k x1 x5 x6 x7 x8 bt491.1 true)) else (laws_FnDigitsRearranged.j1 k x1 x5 x6 x7 x8 bt491.1 true))) else (if bt487.2 = true then (if bt491.2 = true then (if bt491.1 > x5 then (laws_FnDigitsRearranged.j1 k x1 x5 x6 x7 x8 bt491.1 true) else (if bt493.2 = true then (if bt493.1 = true then (laws_FnDigitsRearranged.j1 k x1 x5 x6 x7 x8 bt491.1 false) else (laws_FnDigitsRearranged.j1 k x1 x5 x6 x7 x8 bt491.1 true)) else (laws_FnDigitsRearranged.j1 k x1 x5 x6 x7 x8 bt491.1 true))) else (laws_FnDigitsRearranged.j1 k x1 x5 x6 x7 x8 bt491.1 true)) else (laws_FnDigitsRearranged.j1 k x1 x5 x6 x7 x8 bt491.1 true)))))))) else (laws_FnDigitsRearranged.j5 k x1))
def laws_FnDigitsRearranged.j5 : Nat → List Int → Option (Bool)
 | 0, _ => none
 | k + 1, x1 => (spec_DrawSortedUp.f k x1).bind fun bt503 => ((impl_SortedUp.f k bt503.1 bt503.2).bind fun bt505 => ((spec_SortedUp.f k bt503.1 bt503.2).bind fun bt507 => ((impl_SortedDown.f k bt503.1 bt503.2).bind fun bt509 => ((spec_SortedDown.f k bt503.1 bt503.2).bind fun bt511 => ((impl_CountRearranged.f k bt503.1 bt503.2).bind fun bt513 => ((spec_CountRearranged.f k bt503.1 bt503.2).bind fun bt515 => ((spec_DrawLeastWith.f k x1).bind fun bt517 => ((impl_LeastWith.f k bt517.1 bt517.2).bind fun bt521 => ((spec_LeastWith.f k bt517.1 bt517.2).bind fun bt523 => (if (bt505.2 != bt507.2) = true then (laws_FnDigitsRearranged.j6 k bt517.1 bt517.2 bt521.1 bt521.2 true) else (if bt505.1 = bt507.1 then (if (bt509.2 != bt511.2) = true then (laws_FnDigitsRearranged.j6 k bt517.1 bt517.2 bt521.1 bt521.2 true) else (if bt509.1 = bt511.1 then (if (bt513.2 != bt515.2) = true then (laws_FnDigitsRearranged.j6 k bt517.1 bt517.2 bt521.1 bt521.2 true) else (if bt513.1 = bt515.1 then (if (bt521.2 != bt523.2) = true then (laws_FnDigitsRearranged.j6 k bt517.1 bt517.2 bt521.1 bt521.2 true) else (if bt521.1 = bt523.1 then (if bt505.2 = true then (if bt505.1 > bt503.1 then (laws_FnDigitsRearranged.j6 k bt517.1 bt517.2 bt521.1 bt521.2 true) else (if bt513.2 = true then (laws_FnDigitsRearranged.j6 k bt517.1 bt517.2 bt521.1 bt521.2 (decide (bt513.1 < 1))) else (laws_FnDigitsRearranged.j6 k bt517.1 bt517.2 bt521.1 bt521.2 false))) else (if bt513.2 = true then (laws_FnDigitsRearranged.j6 k bt517.1 bt517.2 bt521.1 bt521.2 (decide (bt513.1 < 1))) else (laws_FnDigitsRearranged.j6 k bt517.1 bt517.2 bt521.1 bt521.2 false))) else (laws_FnDigitsRearranged.j6 k bt517.1 bt517.2 bt521.1 bt521.2 true))) else (laws_FnDigitsRearranged.j6 k bt517.1 bt517.2 bt521.1 bt521.2 true))) else (laws_FnDigitsRearranged.j6 k bt517.1 bt517.2 bt521.1 bt521.2 true))) else (laws_FnDigitsRearranged.j6 k bt517.1 bt517.2 bt521.1 bt521.2 true))))))))))))
def laws_FnDigitsRearranged.j6 : Nat → List Int → Int → Int → Bool → Bool → Option (Bool)
 | 0, _, _, _, _, _ => none
 | k + 1, x46, x47, x48, x49, x332 => if x332 = true then (some false) else (if x49 = true then ((impl_DigitCounts.f k x48 x47).bind fun bt525 => (if bt525.2 = true then ((laws_rSame.f k bt525.1 x46).bind fun t529 => (some t529)) else (some false))) else (some true))
def laws_FnDigitsRearranged.j1 : Nat → List Int → Int → Int → Int → Bool → Int → Bool → Option (Bool)
 | 0, _, _, _, _, _, _, _ => none
 | k + 1, x1, x5, x6, x7, x8, x18, x156 => if x156 = true then (some false) else (if x8 = true then ((impl_CountRearranged.f k x5 x7).bind fun bt495 => ((impl_CountRearranged.f k x6 x7).bind fun bt497 => (if bt495.2 = true then (if bt497.2 = true then (if bt495.1 = bt497.1 then (if x18 > x6 then (some false) else (laws_FnDigitsRearranged.j2 k x1 x5 x7)) else (some false)) else (some false)) else (some false)))) else (laws_FnDigitsRearranged.j2 k x1 x5 x7))
def laws_FnDigitsRearranged.j2 : Nat → List Int → Int → Int → Option (Bool)
 | 0, _, _, _ => none
 | k + 1, x1, x5, x7 => if x5 < 1000 then (laws_FnDigitsRearranged.j3 k x1 x5 x7 (x7 == 10)) else (laws_FnDigitsRearranged.j3 k x1 x5 x7 false)
def laws_FnDigitsRearranged.j3 : Nat → List Int → Int → Int → Bool → Option (Bool)
 | 0, _, _, _, _ => none
 | k + 1, x1, x5, x7, x191 => if x191 = true then ((impl_CountRearranged.f k x5 x7).bind fun bt499 => (laws_FnDigitsRearranged.l0 k x1 x5 x7 bt499.1 bt499.2 0 0)) else (laws_FnDigitsRearranged.j5 k x1)
def laws_FnDigitsRearranged.l0 : Nat → List Int → Int → Int → Int → Bool → Int → Int → Option (Bool)
 | 0, _, _, _, _, _, _, _ => none
 | k + 1, x1, x5, x7, x26, x27, x28, x29 => if x29 < 1000 then ((impl_SameDigits.f k x5 x29 x7).bind fun bt501 => (if bt501.2 = true then (if bt501.1 = true then (laws_FnDigitsRearranged.l0 k x1 x5 x7 x26 x27 (wrap64 (x28 + 1)) (wrap64 (x29 + 1))) else (laws_FnDigitsRearranged.l0 k x1 x5 x7 x26 x27 x28 (wrap64 (x29 + 1)))) else (laws_FnDigitsRearranged.l0 k x1 x5 x7 x26 x27 x28 (wrap64 (x29 + 1))))) else (if x27 = true then (if x28 = x26 then (laws_FnDigitsRearranged.j5 k x1) else (some false)) else (some false))
end
def laws_FnDigitsRearranged.f (k : Nat) (l0 : List Int) (l1 : List Int) : Option (Bool) := (laws_big.f l0 l1).bind fun t475 => (if t475 = true then (some true) else ((spec_DrawSameDigits.f k l0).bind fun bt476 => ((impl_SameDigits.f k bt476.1 bt476.2.1 bt476.2.2).bind fun bt479 => ((spec_SameDigits.f k bt476.1 bt476.2.1 bt476.2.2).bind fun bt481 => (if (bt479.2 != bt481.2) = true then (laws_FnDigitsRearranged.j0 k l1 bt476.1 bt476.2.1 bt476.2.2 bt479.1 bt479.2 true) else (laws_FnDigitsRearranged.j0 k l1 bt476.1 bt476.2.1 bt476.2.2 bt479.1 bt479.2 (bt479.1 != bt481.1)))))))
theorem laws_FnDigitsRearranged.mono_l : ∀ k, (∀ y0 y1 y2 y3 y4 y5 y6, LeO (laws_FnDigitsRearranged.j0 k y0 y1 y2 y3 y4 y5 y6) (laws_FnDigitsRearranged.j0 (k + 1) y0 y1 y2 y3 y4 y5 y6)) ∧ (∀ y0, LeO (laws_FnDigitsRearranged.j5 k y0) (laws_FnDigitsRearranged.j5 (k + 1) y0)) ∧ (∀ y0 y1 y2 y3 y4, LeO (laws_FnDigitsRearranged.j6 k y0 y1 y2 y3 y4) (laws_FnDigitsRearranged.j6 (k + 1) y0 y1 y2 y3 y4)) ∧ (∀ y0 y1 y2 y3 y4 y5 y6, LeO (laws_FnDigitsRearranged.j1 k y0 y1 y2 y3 y4 y5 y6) (laws_FnDigitsRearranged.j1 (k + 1) y0 y1 y2 y3 y4 y5 y6)) ∧ (∀ y0 y1 y2, LeO (laws_FnDigitsRearranged.j2 k y0 y1 y2) (laws_FnDigitsRearranged.j2 (k + 1) y0 y1 y2)) ∧ (∀ y0 y1 y2 y3, LeO (laws_FnDigitsRearranged.j3 k y0 y1 y2 y3) (laws_FnDigitsRearranged.j3 (k + 1) y0 y1 y2 y3)) ∧ (∀ y0 y1 y2 y3 y4 y5 y6, LeO (laws_FnDigitsRearranged.l0 k y0 y1 y2 y3 y4 y5 y6) (laws_FnDigitsRearranged.l0 (k + 1) y0 y1 y2 y3 y4 y5 y6))
 | 0 => ⟨fun _ _ _ _ _ _ _ r h => by simp [laws_FnDigitsRearranged.j0] at h, fun _ r h => by simp [laws_FnDigitsRearranged.j5] at h, fun _ _ _ _ _ r h => by simp [laws_FnDigitsRearranged.j6] at h, fun _ _ _ _ _ _ _ r h => by simp [laws_FnDigitsRearranged.j1] at h, fun _ _ _ r h => by simp [laws_FnDigitsRearranged.j2] at h, fun _ _ _ _ r h => by simp [laws_FnDigitsRearranged.j3] at h, fun _ _ _ _ _ _ _ r h => by simp [laws_FnDigitsRearranged.l0] at h⟩
 | k + 1 => by
  obtain ⟨ih0, ih1, ih2, ih3, ih4, ih5, ih6⟩ := laws_FnDigitsRearranged.mono_l k
  refine ⟨?_, ?_, ?_, ?_, ?_, ?_, ?_⟩
  ·intro y0 y1 y2 y3 y4 y5 y6
   unfold laws_FnDigitsRearranged.j0
   repeat' first
   | (with_reducible exact ih0 _ _ _ _ _ _ _)
   | (with_reducible exact ih1 _)
   | (with_reducible exact ih2 _ _ _ _ _)
   | (with_reducible exact ih3 _ _ _ _ _ _ _)
   | (with_reducible exact ih4 _ _ _)
   | (with_reducible exact ih5 _ _ _ _)
   | (with_reducible exact ih6 _ _ _ _ _ _ _)
   | (with_reducible exact impl_CountRearranged.mono _ _ _)
   | (with_reducible exact impl_DigitCounts.mono _ _ _)
   | (with_reducible exact impl_LeastWith.mono _ _ _)
   | (with_reducible exact impl_SameDigits.mono _ _ _ _)
   | (with_reducible exact impl_SortedDown.mono _ _ _)
   | (with_reducible exact impl_SortedUp.mono _ _ _)
   | (with_reducible exact laws_rSame.mono _ _ _)
   | (with_reducible exact spec_CountRearranged.mono _ _ _)
   | (with_reducible exact spec_DrawLeastWith.mono _ _)
   | (with_reducible exact spec_DrawSameDigits.mono _ _)
   | (with_reducible exact spec_DrawSortedUp.mono _ _)
   | (with_reducible exact spec_LeastWith.mono _ _ _)
   | (with_reducible exact spec_SameDigits.mono _ _ _ _)
   | (with_reducible exact spec_SortedDown.mono _ _ _)
   | (with_reducible exact spec_SortedUp.mono _ _ _)
   | (with_reducible exact LeO.refl _)
   | (with_reducible exact LeO.none _)
   | (with_reducible refine LeO.ite ?_ ?_)
   | (with_reducible refine LeO.bind ?_ (fun _ => ?_))
   | exact ih0 _ _ _ _ _ _ _
   | exact ih1 _
   | exact ih2 _ _ _ _ _
   | exact ih3 _ _ _ _ _ _ _
   | exact ih4 _ _ _
   | exact ih5 _ _ _ _
   | exact ih6 _ _ _ _ _ _ _
   | exact impl_CountRearranged.mono _ _ _
   | exact impl_DigitCounts.mono _ _ _
   | exact impl_LeastWith.mono _ _ _
   | exact impl_SameDigits.mono _ _ _ _
   | exact impl_SortedDown.mono _ _ _
   | exact impl_SortedUp.mono _ _ _
   | exact laws_rSame.mono _ _ _
   | exact spec_CountRearranged.mono _ _ _
   | exact spec_DrawLeastWith.mono _ _
   | exact spec_DrawSameDigits.mono _ _
   | exact spec_DrawSortedUp.mono _ _
   | exact spec_LeastWith.mono _ _ _
   | exact spec_SameDigits.mono _ _ _ _
   | exact spec_SortedDown.mono _ _ _
   | exact spec_SortedUp.mono _ _ _
   | exact LeO.none _
   | refine LeO.ite ?_ ?_
   | refine LeO.bind ?_ (fun _ => ?_)
  ·intro y0
   unfold laws_FnDigitsRearranged.j5
   repeat' first
   | (with_reducible exact ih0 _ _ _ _ _ _ _)
   | (with_reducible exact ih1 _)
   | (with_reducible exact ih2 _ _ _ _ _)
   | (with_reducible exact ih3 _ _ _ _ _ _ _)
   | (with_reducible exact ih4 _ _ _)
   | (with_reducible exact ih5 _ _ _ _)
   | (with_reducible exact ih6 _ _ _ _ _ _ _)
   | (with_reducible exact impl_CountRearranged.mono _ _ _)
   | (with_reducible exact impl_DigitCounts.mono _ _ _)
   | (with_reducible exact impl_LeastWith.mono _ _ _)
   | (with_reducible exact impl_SameDigits.mono _ _ _ _)
   | (with_reducible exact impl_SortedDown.mono _ _ _)
   | (with_reducible exact impl_SortedUp.mono _ _ _)
   | (with_reducible exact laws_rSame.mono _ _ _)
   | (with_reducible exact spec_CountRearranged.mono _ _ _)
   | (with_reducible exact spec_DrawLeastWith.mono _ _)
   | (with_reducible exact spec_DrawSameDigits.mono _ _)
   | (with_reducible exact spec_DrawSortedUp.mono _ _)
   | (with_reducible exact spec_LeastWith.mono _ _ _)
   | (with_reducible exact spec_SameDigits.mono _ _ _ _)
   | (with_reducible exact spec_SortedDown.mono _ _ _)
   | (with_reducible exact spec_SortedUp.mono _ _ _)
   | (with_reducible exact LeO.refl _)
   | (with_reducible exact LeO.none _)
   | (with_reducible refine LeO.ite ?_ ?_)
   | (with_reducible refine LeO.bind ?_ (fun _ => ?_))
   | exact ih0 _ _ _ _ _ _ _
   | exact ih1 _
   | exact ih2 _ _ _ _ _
   | exact ih3 _ _ _ _ _ _ _
   | exact ih4 _ _ _
   | exact ih5 _ _ _ _
   | exact ih6 _ _ _ _ _ _ _
   | exact impl_CountRearranged.mono _ _ _
   | exact impl_DigitCounts.mono _ _ _
   | exact impl_LeastWith.mono _ _ _
   | exact impl_SameDigits.mono _ _ _ _
   | exact impl_SortedDown.mono _ _ _
   | exact impl_SortedUp.mono _ _ _
   | exact laws_rSame.mono _ _ _
   | exact spec_CountRearranged.mono _ _ _
   | exact spec_DrawLeastWith.mono _ _
   | exact spec_DrawSameDigits.mono _ _
   | exact spec_DrawSortedUp.mono _ _
   | exact spec_LeastWith.mono _ _ _
   | exact spec_SameDigits.mono _ _ _ _
   | exact spec_SortedDown.mono _ _ _
   | exact spec_SortedUp.mono _ _ _
   | exact LeO.none _
   | refine LeO.ite ?_ ?_
   | refine LeO.bind ?_ (fun _ => ?_)
  ·intro y0 y1 y2 y3 y4
   unfold laws_FnDigitsRearranged.j6
   repeat' first
   | (with_reducible exact ih0 _ _ _ _ _ _ _)
   | (with_reducible exact ih1 _)
   | (with_reducible exact ih2 _ _ _ _ _)
   | (with_reducible exact ih3 _ _ _ _ _ _ _)
   | (with_reducible exact ih4 _ _ _)
   | (with_reducible exact ih5 _ _ _ _)
   | (with_reducible exact ih6 _ _ _ _ _ _ _)
   | (with_reducible exact impl_CountRearranged.mono _ _ _)
   | (with_reducible exact impl_DigitCounts.mono _ _ _)
   | (with_reducible exact impl_LeastWith.mono _ _ _)
   | (with_reducible exact impl_SameDigits.mono _ _ _ _)
   | (with_reducible exact impl_SortedDown.mono _ _ _)
   | (with_reducible exact impl_SortedUp.mono _ _ _)
   | (with_reducible exact laws_rSame.mono _ _ _)
   | (with_reducible exact spec_CountRearranged.mono _ _ _)
   | (with_reducible exact spec_DrawLeastWith.mono _ _)
   | (with_reducible exact spec_DrawSameDigits.mono _ _)
   | (with_reducible exact spec_DrawSortedUp.mono _ _)
   | (with_reducible exact spec_LeastWith.mono _ _ _)
   | (with_reducible exact spec_SameDigits.mono _ _ _ _)
   | (with_reducible exact spec_SortedDown.mono _ _ _)
   | (with_reducible exact spec_SortedUp.mono _ _ _)
   | (with_reducible exact LeO.refl _)
   | (with_reducible exact LeO.none _)
   | (with_reducible refine LeO.ite ?_ ?_)
   | (with_reducible refine LeO.bind ?_ (fun _ => ?_))
   | exact ih0 _ _ _ _ _ _ _
   | exact ih1 _
   | exact ih2 _ _ _ _ _
   | exact ih3 _ _ _ _ _ _ _
   | exact ih4 _ _ _
   | exact ih5 _ _ _ _
   | exact ih6 _ _ _ _ _ _ _
   | exact impl_CountRearranged.mono _ _ _
   | exact impl_DigitCounts.mono _ _ _
   | exact impl_LeastWith.mono _ _ _
   | exact impl_SameDigits.mono _ _ _ _
   | exact impl_SortedDown.mono _ _ _
   | exact impl_SortedUp.mono _ _ _
   | exact laws_rSame.mono _ _ _
   | exact spec_CountRearranged.mono _ _ _
   | exact spec_DrawLeastWith.mono _ _
   | exact spec_DrawSameDigits.mono _ _
   | exact spec_DrawSortedUp.mono _ _
   | exact spec_LeastWith.mono _ _ _
   | exact spec_SameDigits.mono _ _ _ _
   | exact spec_SortedDown.mono _ _ _
   | exact spec_SortedUp.mono _ _ _
   | exact LeO.none _
   | refine LeO.ite ?_ ?_
   | refine LeO.bind ?_ (fun _ => ?_)
  ·intro y0 y1 y2 y3 y4 y5 y6
   unfold laws_FnDigitsRearranged.j1
   repeat' first
   | (with_reducible exact ih0 _ _ _ _ _ _ _)
   | (with_reducible exact ih1 _)
   | (with_reducible exact ih2 _ _ _ _ _)
   | (with_reducible exact ih3 _ _ _ _ _ _ _)
   | (with_reducible exact ih4 _ _ _)
   | (with_reducible exact ih5 _ _ _ _)
   | (with_reducible exact ih6 _ _ _ _ _ _ _)
   | (with_reducible exact impl_CountRearranged.mono _ _ _)
   | (with_reducible exact impl_DigitCounts.mono _ _ _)
   | (with_reducible exact impl_LeastWith.mono _ _ _)
   | (with_reducible exact impl_SameDigits.mono _ _ _ _)
   | (with_reducible exact impl_SortedDown.mono _ _ _)
   | (with_reducible exact impl_SortedUp.mono _ _ _)
   | (with_reducible exact laws_rSame.mono _ _ _)
   | (with_reducible exact spec_CountRearranged.mono _ _ _)
   | (with_reducible exact spec_DrawLeastWith.mono _ _)
   | (with_reducible exact spec_DrawSameDigits.mono _ _)
   | (with_reducible exact spec_DrawSortedUp.mono _ _)
   | (with_reducible exact spec_LeastWith.mono _ _ _)
   | (with_reducible exact spec_SameDigits.mono _ _ _ _)
   | (with_reducible exact spec_SortedDown.mono _ _ _)
   | (with_reducible exact spec_SortedUp.mono _ _ _)
   | (with_reducible exact LeO.refl _)
   | (with_reducible exact LeO.none _)
   | (with_reducible refine LeO.ite ?_ ?_)
   | (with_reducible refine LeO.bind ?_ (fun _ => ?_))
   | exact ih0 _ _ _ _ _ _ _
   | exact ih1 _
   | exact ih2 _ _ _ _ _
   | exact ih3 _ _ _ _ _ _ _
   | exact ih4 _ _ _
   | exact ih5 _ _ _ _
   | exact ih6 _ _ _ _ _ _ _
   | exact impl_CountRearranged.mono _ _ _
   | exact impl_DigitCounts.mono _ _ _
   | exact impl_LeastWith.mono _ _ _
   | exact impl_SameDigits.mono _ _ _ _
   | exact impl_SortedDown.mono _ _ _
   | exact impl_SortedUp.mono _ _ _
   | exact laws_rSame.mono _ _ _
   | exact spec_CountRearranged.mono _ _ _
   | exact spec_DrawLeastWith.mono _ _
   | exact spec_DrawSameDigits.mono _ _
   | exact spec_DrawSortedUp.mono _ _
   | exact spec_LeastWith.mono _ _ _
   | exact spec_SameDigits.mono _ _ _ _
   | exact spec_SortedDown.mono _ _ _
   | exact spec_SortedUp.mono _ _ _
   | exact LeO.none _
   | refine LeO.ite ?_ ?_
   | refine LeO.bind ?_ (fun _ => ?_)
  ·intro y0 y1 y2
   unfold laws_FnDigitsRearranged.j2
   repeat' first
   | (with_reducible exact ih0 _ _ _ _ _ _ _)
   | (with_reducible exact ih1 _)
   | (with_reducible exact ih2 _ _ _ _ _)
   | (with_reducible exact ih3 _ _ _ _ _ _ _)
   | (with_reducible exact ih4 _ _ _)
   | (with_reducible exact ih5 _ _ _ _)
   | (with_reducible exact ih6 _ _ _ _ _ _ _)
   | (with_reducible exact impl_CountRearranged.mono _ _ _)
   | (with_reducible exact impl_DigitCounts.mono _ _ _)
   | (with_reducible exact impl_LeastWith.mono _ _ _)
   | (with_reducible exact impl_SameDigits.mono _ _ _ _)
   | (with_reducible exact impl_SortedDown.mono _ _ _)
   | (with_reducible exact impl_SortedUp.mono _ _ _)
   | (with_reducible exact laws_rSame.mono _ _ _)
   | (with_reducible exact spec_CountRearranged.mono _ _ _)
   | (with_reducible exact spec_DrawLeastWith.mono _ _)
   | (with_reducible exact spec_DrawSameDigits.mono _ _)
   | (with_reducible exact spec_DrawSortedUp.mono _ _)
   | (with_reducible exact spec_LeastWith.mono _ _ _)
   | (with_reducible exact spec_SameDigits.mono _ _ _ _)
   | (with_reducible exact spec_SortedDown.mono _ _ _)
   | (with_reducible exact spec_SortedUp.mono _ _ _)
   | (with_reducible exact LeO.refl _)
   | (with_reducible exact LeO.none _)
   | (with_reducible refine LeO.ite ?_ ?_)
   | (with_reducible refine LeO.bind ?_ (fun _ => ?_))
   | exact ih0 _ _ _ _ _ _ _
   | exact ih1 _
   | exact ih2 _ _ _ _ _
   | exact ih3 _ _ _ _ _ _ _
   | exact ih4 _ _ _
   | exact ih5 _ _ _ _
   | exact ih6 _ _ _ _ _ _ _
   | exact impl_CountRearranged.mono _ _ _
   | exact impl_DigitCounts.mono _ _ _
   | exact impl_LeastWith.mono _ _ _
   | exact impl_SameDigits.mono _ _ _ _
   | exact impl_SortedDown.mono _ _ _
   | exact impl_SortedUp.mono _ _ _
   | exact laws_rSame.mono _ _ _
   | exact spec_CountRearranged.mono _ _ _
   | exact spec_DrawLeastWith.mono _ _
   | exact spec_DrawSameDigits.mono _ _
   | exact spec_DrawSortedUp.mono _ _
   | exact spec_LeastWith.mono _ _ _
   | exact spec_SameDigits.mono _ _ _ _
   | exact spec_SortedDown.mono _ _ _
   | exact spec_SortedUp.mono _ _ _
   | exact LeO.none _
   | refine LeO.ite ?_ ?_
   | refine LeO.bind ?_ (fun _ => ?_)
  ·intro y0 y1 y2 y3
   unfold laws_FnDigitsRearranged.j3
   repeat' first
   | (with_reducible exact ih0 _ _ _ _ _ _ _)
   | (with_reducible exact ih1 _)
   | (with_reducible exact ih2 _ _ _ _ _)
   | (with_reducible exact ih3 _ _ _ _ _ _ _)
   | (with_reducible exact ih4 _ _ _)
   | (with_reducible exact ih5 _ _ _ _)
   | (with_reducible exact ih6 _ _ _ _ _ _ _)
   | (with_reducible exact impl_CountRearranged.mono _ _ _)
   | (with_reducible exact impl_DigitCounts.mono _ _ _)
   | (with_reducible exact impl_LeastWith.mono _ _ _)
   | (with_reducible exact impl_SameDigits.mono _ _ _ _)
   | (with_reducible exact impl_SortedDown.mono _ _ _)
   | (with_reducible exact impl_SortedUp.mono _ _ _)
   | (with_reducible exact laws_rSame.mono _ _ _)
   | (with_reducible exact spec_CountRearranged.mono _ _ _)
   | (with_reducible exact spec_DrawLeastWith.mono _ _)
   | (with_reducible exact spec_DrawSameDigits.mono _ _)
   | (with_reducible exact spec_DrawSortedUp.mono _ _)
   | (with_reducible exact spec_LeastWith.mono _ _ _)
   | (with_reducible exact spec_SameDigits.mono _ _ _ _)
   | (with_reducible exact spec_SortedDown.mono _ _ _)
   | (with_reducible exact spec_SortedUp.mono _ _ _)
   | (with_reducible exact LeO.refl _)
   | (with_reducible exact LeO.none _)
   | (with_reducible refine LeO.ite ?_ ?_)
   | (with_reducible refine LeO.bind ?_ (fun _ => ?_))
   | exact ih0 _ _ _ _ _ _ _
   | exact ih1 _
   | exact ih2 _ _ _ _ _
   | exact ih3 _ _ _ _ _ _ _
   | exact ih4 _ _ _
   | exact ih5 _ _ _ _
   | exact ih6 _ _ _ _ _ _ _
   | exact impl_CountRearranged.mono _ _ _
   | exact impl_DigitCounts.mono _ _ _
   | exact impl_LeastWith.mono _ _ _
   | exact impl_SameDigits.mono _ _ _ _
   | exact impl_SortedDown.mono _ _ _
   | exact impl_SortedUp.mono _ _ _
   | exact laws_rSame.mono _ _ _
   | exact spec_CountRearranged.mono _ _ _
   | exact spec_DrawLeastWith.mono _ _
   | exact spec_DrawSameDigits.mono _ _
   | exact spec_DrawSortedUp.mono _ _
   | exact spec_LeastWith.mono _ _ _
   | exact spec_SameDigits.mono _ _ _ _
   | exact spec_SortedDown.mono _ _ _
   | exact spec_SortedUp.mono _ _ _
   | exact LeO.none _
   | refine LeO.ite ?_ ?_
   | refine LeO.bind ?_ (fun _ => ?_)
  ·intro y0 y1 y2 y3 y4 y5 y6
   unfold laws_FnDigitsRearranged.l0
   repeat' first
   | (with_reducible exact ih0 _ _ _ _ _ _ _)
   | (with_reducible exact ih1 _)
   | (with_reducible exact ih2 _ _ _ _ _)
   | (with_reducible exact ih3 _ _ _ _ _ _ _)
   | (with_reducible exact ih4 _ _ _)
   | (with_reducible exact ih5 _ _ _ _)
   | (with_reducible exact ih6 _ _ _ _ _ _ _)
   | (with_reducible exact impl_CountRearranged.mono _ _ _)
   | (with_reducible exact impl_DigitCounts.mono _ _ _)
   | (with_reducible exact impl_LeastWith.mono _ _ _)
   | (with_reducible exact impl_SameDigits.mono _ _ _ _)
   | (with_reducible exact impl_SortedDown.mono _ _ _)
   | (with_reducible exact impl_SortedUp.mono _ _ _)
   | (with_reducible exact laws_rSame.mono _ _ _)
   | (with_reducible exact spec_CountRearranged.mono _ _ _)
   | (with_reducible exact spec_DrawLeastWith.mono _ _)
   | (with_reducible exact spec_DrawSameDigits.mono _ _)
   | (with_reducible exact spec_DrawSortedUp.mono _ _)
   | (with_reducible exact spec_LeastWith.mono _ _ _)
   | (with_reducible exact spec_SameDigits.mono _ _ _ _)
   | (with_reducible exact spec_SortedDown.mono _ _ _)
   | (with_reducible exact spec_SortedUp.mono _ _ _)
   | (with_reducible exact LeO.refl _)
   | (with_reducible exact LeO.none _)
   | (with_reducible refine LeO.ite ?_ ?_)
   | (with_reducible refine LeO.bind ?_ (fun _ => ?_))
   | exact ih0 _ _ _ _ _ _ _
   | exact ih1 _
   | exact ih2 _ _ _ _ _
   | exact ih3 _ _ _ _ _ _ _
   | exact ih4 _ _ _
   | exact ih5 _ _ _ _
   | exact ih6 _ _ _ _ _ _ _
   | exact impl_CountRearranged.mono _ _ _
   | exact impl_DigitCounts.mono _ _ _
   | exact impl_LeastWith.mono _ _ _
   | exact impl_SameDigits.mono _ _ _ _
   | exact impl_SortedDown.mono _ _ _
   | exact impl_SortedUp.mono _ _ _
   | exact laws_rSame.mono _ _ _
   | exact spec_CountRearranged.mono _ _ _
   | exact spec_DrawLeastWith.mono _ _
   | exact spec_DrawSameDigits.mono _ _
   | exact spec_DrawSortedUp.mono _ _
   | exact spec_LeastWith.mono _ _ _
   | exact spec_SameDigits.mono _ _ _ _
   | exact spec_SortedDown.mono _ _ _
   | exact spec_SortedUp.mono _ _ _
   | exact LeO.none _
   | refine LeO.ite ?_ ?_
   | refine LeO.bind ?_ (fun _ => ?_)
theorem laws_FnDigitsRearranged.mono : ∀ a0 a1 k, LeO (laws_FnDigitsRearranged.f k a0 a1) (laws_FnDigitsRearranged.f (k + 1) a0 a1) := by
 intro a0 a1 k
 obtain ⟨ih0, ih1, ih2, ih3, ih4, ih5, ih6⟩ := laws_FnDigitsRearranged.mono_l k
 unfold laws_FnDigitsRearranged.f
 repeat' first
   | (with_reducible exact ih0 _ _ _ _ _ _ _)
   | (with_reducible exact ih1 _)
   | (with_reducible exact ih2 _ _ _ _ _)
   | (with_reducible exact ih3 _ _ _ _ _ _ _)
   | (with_reducible exact ih4 _ _ _)
   | (with_reducible exact ih5 _ _ _ _)
   | (with_reducible exact ih6 _ _ _ _ _ _ _)
   | (with_reducible exact impl_CountRearranged.mono _ _ _)
   | (with_reducible exact impl_DigitCounts.mono _ _ _)
   | (with_reducible exact impl_LeastWith.mono _ _ _)
   | (with_reducible exact impl_SameDigits.mono _ _ _ _)
   | (with_reducible exact impl_SortedDown.mono _ _ _)
   | (with_reducible exact impl_SortedUp.mono _ _ _)
   | (with_reducible exact laws_rSame.mono _ _ _)
   | (with_reducible exact spec_CountRearranged.mono _ _ _)
   | (with_reducible exact spec_DrawLeastWith.mono _ _)
   | (with_reducible exact spec_DrawSameDigits.mono _ _)
   | (with_reducible exact spec_DrawSortedUp.mono _ _)
   | (with_reducible exact spec_LeastWith.mono _ _ _)
   | (with_reducible exact spec_SameDigits.mono _ _ _ _)
   | (with_reducible exact spec_SortedDown.mono _ _ _)
   | (with_reducible exact spec_SortedUp.mono _ _ _)
   | (with_reducible exact LeO.refl _)
   | (with_reducible exact LeO.none _)
   | (with_reducible refine LeO.ite ?_ ?_)
   | (with_reducible refine LeO.bind ?_ (fun _ => ?_))
   | exact ih0 _ _ _ _ _ _ _
   | exact ih1 _
   | exact ih2 _ _ _ _ _
   | exact ih3 _ _ _ _ _ _ _
   | exact ih4 _ _ _
   | exact ih5 _ _ _ _
   | exact ih6 _ _ _ _ _ _ _
   | exact impl_CountRearranged.mono _ _ _
   | exact impl_DigitCounts.mono _ _ _
   | exact impl_LeastWith.mono _ _ _
   | exact impl_SameDigits.mono _ _ _ _
   | exact impl_SortedDown.mono _ _ _
   | exact impl_SortedUp.mono _ _ _
   | exact laws_rSame.mono _ _ _
   | exact spec_CountRearranged.mono _ _ _
   | exact spec_DrawLeastWith.mono _ _
   | exact spec_DrawSameDigits.mono _ _
   | exact spec_DrawSortedUp.mono _ _
   | exact spec_LeastWith.mono _ _ _
   | exact spec_SameDigits.mono _ _ _ _
   | exact spec_SortedDown.mono _ _ _
   | exact spec_SortedUp.mono _ _ _
   | exact LeO.none _
   | refine LeO.ite ?_ ?_
   | refine LeO.bind ?_ (fun _ => ?_)
theorem laws_FnDigitsRearranged.j0_no {r : Bool} (hr : r = true) (k : Nat) (x1 : List Int) (x5 : Int) (x6 : Int) (x7 : Int) (x8 : Bool) (x9 : Bool) (h : laws_FnDigitsRearranged.j0 k x1 x5 x6 x7 x8 x9 true = some r) : False := by
 subst hr
 cases k with
 | zero => simp [laws_FnDigitsRearranged.j0] at h
 | succ k => simp [laws_FnDigitsRearranged.j0] at h
theorem laws_FnDigitsRearranged.j6_no {r : Bool} (hr : r = true) (k : Nat) (x46 : List Int) (x47 : Int) (x48 : Int) (x49 : Bool) (h : laws_FnDigitsRearranged.j6 k x46 x47 x48 x49 true = some r) : False := by
 subst hr
 cases k with
 | zero => simp [laws_FnDigitsRearranged.j6] at h
 | succ k => simp [laws_FnDigitsRearranged.j6] at h
theorem laws_FnDigitsRearranged.j1_no {r : Bool} (hr : r = true) (k : Nat) (x1 : List Int) (x5 : Int) (x6 : Int) (x7 : Int) (x8 : Bool) (x18 : Int) (h : laws_FnDigitsRearranged.j1 k x1 x5 x6 x7 x8 x18 true = some r) : False := by
 subst hr
 cases k with
 | zero => simp [laws_FnDigitsRearranged.j1] at h
 | succ k => simp [laws_FnDigitsRearranged.j1] at h
set_option maxHeartbeats 8000000 in
set_option maxRecDepth 100000 in
theorem laws_FnDigitsRearranged.calls (k : Nat) (A0 : Option Addr) (c0 : Nat) (l0 : List Int) (A1 : Option Addr) (c1 : Nat) (l1 : List Int) (r : Bool) (w : World) (hr0 : Kd.C (Kd.int .u8) w A0 l0.length l0) (hc0 : l0.length ≤ c0) (hr1 : Kd.C (Kd.int .u8) w A1 l1.length l1) (hc1 : l1.length ≤ c1) (h : laws_FnDigitsRearranged.f k l0 l1 = some r) (hr_ : r = true) :
  Calls Try.prog 3 #[.slice A0 l0.length c0, .slice A1 l1.length c1] w fun e w' => e = .returned (.bool r) ∧ Below w.heap.size w w' := by
 have HR0 := Aside0.mk hr0
 have HC0 := Aside0.mk hc0
 clear hr0 hc0
 have HR1 := Aside0.mk hr1
 have HC1 := Aside0.mk hc1
 clear hr1 hc1
 have HB := Aside0.mk (Below.refl w.heap.size w)
 have H : ((laws_big.f l0 l1).bind fun t475 => (if t475 = true then (some true) else ((spec_DrawSameDigits.f k l0).bind fun bt476 => ((impl_SameDigits.f k bt476.1 bt476.2.1 bt476.2.2).bind fun bt479 => ((spec_SameDigits.f k bt476.1 bt476.2.1 bt476.2.2).bind fun bt481 => (if (bt479.2 != bt481.2) = true then (laws_FnDigitsRearranged.j0 k l1 bt476.1 bt476.2.1 bt476.2.2 bt479.1 bt479.2 true) else (laws_FnDigitsRearranged.j0 k l1 bt476.1 bt476.2.1 bt476.2.2 bt479.1 bt479.2 (bt479.1 != bt481.1)))))))) = some r := h
 clear h
 have HR_ := Aside0.mk hr_
 clear hr_
 replace H := Option.bind_eq_some_iff.mp H
 obtain ⟨t475, A30, H⟩ := H
 replace H : (if t475 = true then (some true) else ((spec_DrawSameDigits.f k l0).bind fun bt476 => ((impl_SameDigits.f k bt476.1 bt476.2.1 bt476.2.2).bind fun bt479 => ((spec_SameDigits.f k bt476.1 bt476.2.1 bt476.2.2).bind fun bt481 => (if (bt479.2 != bt481.2) = true then (laws_FnDigitsRearranged.j0 k l1 bt476.1 bt476.2.1 bt476.2.2 bt479.1 bt479.2 true) else (laws_FnDigitsRearranged.j0 k l1 bt476.1 bt476.2.1 bt476.2.2 bt479.1 bt479.2 (bt479.1 != bt481.1))))))) = some r := H
 have A3 := Aside0.mk A30
 clear A30
 by_cases c4 : t475 = true
 ·subst c4
  have H1 : (some true) = some r := by rw [if_pos rfl] at H; exact H
  clear H
  have H := H1
  clear H1
  as_aux_lemma =>
   obtain rfl := Option.some.inj H
   go_enter Try.func3, Try.ntmps3
   go_wp2_with (first | ((with_reducible refine gate_callee (f := 4) rfl ?_); refine goesL_ (some 56) rfl rfl Try.func4 (by kernel_rfl) rfl #[.slice A0 l0.length c0, .slice A1 l1.length c1] rfl (by (try simp only [List.map_toArray, List.map_cons, List.map_nil]); first | done | rfl | (simp only [List.length_drop, List.length_take]; rfl)) ?_; (with_reducible refine (laws_big.calls _ _ l0 _ _ l1 true _ ?side1 ?side2 ?side3 ?side4 A3.out).mono ?_); (case side1 => repeat (first | exact HR0.out | (with_reducible refine Kd.C_alloc ?_ _) | (with_reducible refine Kd.C_drewN ?_ _) | (with_reducible refine Kd.C_drew ?_))); (case side2 => exact HC0.out); (case side3 => repeat (first | exact HR1.out | (with_reducible refine Kd.C_alloc ?_ _) | (with_reducible refine Kd.C_drewN ?_ _) | (with_reducible refine Kd.C_drew ?_))); (case side4 => exact HC1.out); rintro e w' ⟨rfl, ⟨nd, rfl⟩⟩; refine ⟨_, rfl, ?_⟩))
   go_ret
   exact ⟨by first | rfl | (simp [errW_none, errW_some] <;> rfl) | (simp [*, errW_none, errW_some] <;> rfl), by repeat (first | (with_reducible first | exact HB.out | apply below_alloc | apply pw_below_drewN | apply below_drew1) | exact HB.out)⟩
 ·replace c4 := Bool.eq_false_iff.mpr c4
  subst c4
  have H1 : ((spec_DrawSameDigits.f k l0).bind fun bt476 => ((impl_SameDigits.f k bt476.1 bt476.2.1 bt476.2.2).bind fun bt479 => ((spec_SameDigits.f k bt476.1 bt476.2.1 bt476.2.2).bind fun bt481 => (if (bt479.2 != bt481.2) = true then (laws_FnDigitsRearranged.j0 k l1 bt476.1 bt476.2.1 bt476.2.2 bt479.1 bt479.2 true) else (laws_FnDigitsRearranged.j0 k l1 bt476.1 bt476.2.1 bt476.2.2 bt479.1 bt479.2 (bt479.1 != bt481.1)))))) = some r := by rw [if_neg (show ¬ (false = true) by decide)] at H; exact H
  clear H
  have H := H1
  clear H1
  replace H := Option.bind_eq_some_iff.mp H
  obtain ⟨⟨t476, t477, t478⟩, A50, H⟩ := H
  replace H : ((impl_SameDigits.f k t476 t477 t478).bind fun bt479 => ((spec_SameDigits.f k t476 t477 t478).bind fun bt481 => (if (bt479.2 != bt481.2) = true then (laws_FnDigitsRearranged.j0 k l1 t476 t477 t478 bt479.1 bt479.2 true) else (laws_FnDigitsRearranged.j0 k l1 t476 t477 t478 bt479.1 bt479.2 (bt479.1 != bt481.1))))) = some r := H
  have A5 := Aside0.mk A50
  clear A50
  replace H := Option.bind_eq_some_iff.mp H
  obtain ⟨⟨t479, t480⟩, A60, H⟩ := H
  replace H : ((spec_SameDigits.f k t476 t477 t478).bind fun bt481 => (if (t480 != bt481.2) = true then (laws_FnDigitsRearranged.j0 k l1 t476 t477 t478 t479 t480 true) else (laws_FnDigitsRearranged.j0 k l1 t476 t477 t478 t479 t480 (t479 != bt481.1)))) = some r := H
  have A6 := Aside0.mk A60
  clear A60
  replace H := Option.bind_eq_some_iff.mp H
  obtain ⟨⟨t481, t482⟩, A70, H⟩ := H
  replace H : (if (t480 != t482) = true then (laws_FnDigitsRearranged.j0 k l1 t476 t477 t478 t479 t480 true) else (laws_FnDigitsRearranged.j0 k l1 t476 t477 t478 t479 t480 (t479 != t481))) = some r := H
  have A7 := Aside0.mk A70
  clear A70
  have HC8 := Aside0.mk H
  clear H
  go_enter Try.func3, Try.ntmps3
  go_upto_region 6 with (first | ((with_reducible refine gate_callee (f := 4) rfl ?_); refine goesL_ (some 56) rfl rfl Try.func4 (by kernel_rfl) rfl #[.slice A0 l0.length c0, .slice A1 l1.length c1] rfl (by (try simp only [List.map_toArray, List.map_cons, List.map_nil]); first | done | rfl | (simp only [List.length_drop, List.length_take]; rfl)) ?_; (with_reducible refine (laws_big.calls _ _ l0 _ _ l1 false _ ?side1 ?side2 ?side3 ?side4 A3.out).mono ?_); (case side1 => repeat (first | exact HR0.out | (with_reducible refine Kd.C_alloc ?_ _) | (with_reducible refine Kd.C_drewN ?_ _) | (with_reducible refine Kd.C_drew ?_))); (case side2 => exact HC0.out); (case side3 => repeat (first | exact HR1.out | (with_reducible refine Kd.C_alloc ?_ _) | (with_reducible refine Kd.C_drewN ?_ _) | (with_reducible refine Kd.C_drew ?_))); (case side4 => exact HC1.out); rintro e w' ⟨rfl, ⟨nd, rfl⟩⟩; refine ⟨_, rfl, ?_⟩) | ((with_reducible refine gate_callee (f := 5) rfl ?_); refine goesL_ (some 59) rfl rfl Try.func5 (by kernel_rfl) rfl #[.slice A0 l0.length c0] rfl (by (try simp only [List.map_toArray, List.map_cons, List.map_nil]); first | done | rfl | (simp only [List.length_drop, List.length_take]; rfl)) ?_; (with_reducible refine (spec_DrawSameDigits.calls k _ _ l0 t476 t477 t478 _ ?side1 ?side2 A5.out).mono ?_); (case side1 => repeat (first | exact HR0.out | (with_reducible refine Kd.C_alloc ?_ _) | (with_reducible refine Kd.C_drewN ?_ _) | (with_reducible refine Kd.C_drew ?_))); (case side2 => exact HC0.out); rintro e w9 ⟨rfl, hb⟩; refine ⟨_, rfl, ?_⟩; have n0_ := Aside0.mk (below_step (by repeat (first | (with_reducible first | exact HB.out | apply below_alloc | apply pw_below_drewN | apply below_drew1) | exact HB.out)) hb); clear HB; have HB := n0_; clear n0_; (try clear hb); (try clear hb2); (try clear hk); (try clear hi)) | ((with_reducible refine gate_callee (f := 6) rfl ?_); refine goesL_ (some 67) rfl rfl Try.func6 (by kernel_rfl) rfl #[.int .i64 t476, .int .i64 t477, .int .i64 t478] rfl (by (try simp only [List.map_toArray, List.map_cons, List.map_nil]); first | done | rfl | (simp only [List.length_drop, List.length_take]; rfl)) ?_; (with_reducible refine (impl_SameDigits.calls k t476 t477 t478 t479 t480 _ A6.out).mono ?_); rintro e w10 ⟨rfl, hb⟩; refine ⟨_, rfl, ?_⟩; have n0_ := Aside0.mk (below_step (by repeat (first | (with_reducible first | exact HB.out | apply below_alloc | apply pw_below_drewN | apply below_drew1) | exact HB.out)) hb); clear HB; have HB := n0_; clear n0_; (try clear hb); (try clear hb2); (try clear hk); (try clear hi)) | ((with_reducible refine gate_callee (f := 7) rfl ?_); refine goesL_ (some 74) rfl rfl Try.func7 (by kernel_rfl) rfl #[.int .i64 t476, .int .i64 t477, .int .i64 t478] rfl (by (try simp only [List.map_toArray, List.map_cons, List.map_nil]); first | done | rfl | (simp only [List.length_drop, List.length_take]; rfl)) ?_; (with_reducible refine (spec_SameDigits.calls k t476 t477 t478 t481 t482 _ A7.out).mono ?_); rintro e w11 ⟨rfl, hb⟩; refine ⟨_, rfl, ?_⟩; have n0_ := Aside0.mk (below_step (by repeat (first | (with_reducible first | exact HB.out | apply below_alloc | apply pw_below_drewN | apply below_drew1) | exact HB.out)) hb); clear HB; have HB := n0_; clear n0_; (try clear hb); (try clear hb2); (try clear hk); (try clear hi)))
  (try simp only [Act.put, List.setIfInBounds_toArray, List.set_cons_zero, List.set_cons_succ])
  go_cut [84] (fun v84 wc => ∃ (kq : Nat) (x84_7 : Bool), v84 = .bool x84_7 ∧ Aside0 (laws_FnDigitsRearranged.j0 kq l1 t476 t477 t478 t479 t480 x84_7 = some r) ∧ Aside0 (kq ≤ k) ∧ Aside0 (Below w.heap.size w wc))
  case first =>
   as_aux_lemma =>
   have H := HC8.out
   clear HC8
   by_cases c12 : (t480 != t482) = true
   ·rw [if_pos c12] at H
    have c12b0 : (t480 != t482) = true := c12
    (try (have c12b1 : decide (t480 = t482) = false := by simpa using c12))
    (try (have c12b2 : (t480 == t482) = false := by simpa using c12))
    (try (have c12b3 : ¬ (t480 = t482) := by simpa using c12))
    clear c12
    (first | rw [c12b0] | (simp only [i64_w, i32_w]; rw [c12b0]) | skip)
    exact (laws_FnDigitsRearranged.j0_no HR_.out _ _ _ _ _ _ _ H).elim
   ·rw [if_neg c12] at H
    have c12b0 : (t480 != t482) = false := by simpa using c12
    (try (have c12b1 : decide (t480 = t482) = true := by simpa using c12))
    (try (have c12b2 : (t480 == t482) = true := by simpa using c12))
    clear c12
    (first | rw [c12b0] | (simp only [i64_w, i32_w]; rw [c12b0]) | skip)
    as_aux_lemma =>
     have H' := Aside0.mk H
     clear H
     go_wp2
     go_meet
     case rel => exact ⟨_, ((t479 != t481)), (by first | rfl | (simp; done) | (simp [*]; done)), H', ⟨by first | omega | exact Nat.le_refl _⟩, ⟨by repeat (first | (with_reducible first | exact HB.out | apply below_alloc | apply pw_below_drewN | apply below_drew1) | exact HB.out)⟩⟩
  case rest =>
   as_aux_lemma =>
   clear HC8
   try clear c1
   try clear p2
   try clear c3
   try clear c4
   try clear c5
   try clear c6
   try clear c7
   try clear c12
   try clear c12b0
   try clear c12b1
   try clear c12b2
   obtain ⟨kq, x84_7, rfl, HA, HJ7, HB⟩ := hcut
   cases kq with
   | zero => exact absurd HA.out (by simp [laws_FnDigitsRearranged.j0])
   | succ kj7 =>
    have H := HA.out
    clear HA
    simp only [laws_FnDigitsRearranged.j0] at H
    by_cases c13 : x84_7 = true
    ·subst c13
     have H1 : (some false) = some r := by rw [if_pos rfl] at H; exact H
     clear H
     have H := H1
     clear H1
     exact absurd (Option.some.inj H) (by rw [HR_.out]; decide)
    ·replace c13 := Bool.eq_false_iff.mpr c13
     subst c13
     have H1 : (if t480 = true then ((impl_SortedDown.f kj7 t476 t478).bind fun bt483 => ((impl_SortedDown.f kj7 t477 t478).bind fun bt485 => ((impl_DigitCounts.f kj7 t476 t478).bind fun bt487 => ((impl_LeastWith.f kj7 bt487.1 t478).bind fun bt491 => ((impl_SameDigits.f kj7 t476 bt491.1 t478).bind fun bt493 => (if bt483.2 = true then (if bt485.2 = true then (if (t479 != (bt483.1 == bt485.1)) = true then (laws_FnDigitsRearranged.j1 kj7 l1 t476 t477 t478 t479 bt491.1 true) else (if bt487.2 = true then (if bt491.2 = true then (if bt491.1 > t476 then (laws_FnDigitsRearranged.j1 kj7 l1 t476 t477 t478 t479 bt491.1 true) else (if bt493.2 = true then (if bt493.1 = true then (laws_FnDigitsRearranged.j1 kj7 l1 t476 t477 t478 t479 bt491.1 (decide (bt483.1 < t476))) else (laws_FnDigitsRearranged.j1 kj7 l1 t476 t477 t478 t479 bt491.1 true)) else (laws_FnDigitsRearranged.j1 kj7 l1 t476 t477 t478 t479 bt491.1 true))) else (laws_FnDigitsRearranged.j1 kj7 l1 t476 t477 t478 t479 bt491.1 true)) else (laws_FnDigitsRearranged.j1 kj7 l1 t476 t477 t478 t479 bt491.1 true))) else (if bt487.2 = true then (if bt491.2 = true then (if bt491.1 > t476 then (laws_FnDigitsRearranged.j1 kj7 l1 t476 t477 t478 t479 bt491.1 true) else (if bt493.2 = true then (if bt493.1 = true then (laws_FnDigitsRearranged.j1 kj7 l1 t476 t477 t478 t479 bt491.1 (decide (bt483.1 < t476))) else (laws_FnDigitsRearranged.j1 kj7 l1 t476 t477 t478 t479 bt491.1 true)) else (laws_FnDigitsRearranged.j1 kj7 l1 t476 t477 t478 t479 bt491.1 true))) else (laws_FnDigitsRearranged.j1 kj7 l1 t476 t477 t478 t479 bt491.1 true)) else (laws_FnDigitsRearranged.j1 kj7 l1 t476 t477 t478 t479 bt491.1 true))) else (if bt487.2 = true then (if bt491.2 = true then (if bt491.1 > t476 then (laws_FnDigitsRearranged.j1 kj7 l1 t476 t477 t478 t479 bt491.1 true) else (if bt493.2 = true then (if bt493.1 = true then (laws_FnDigitsRearranged.j1 kj7 l1 t476 t477 t478 t479 bt491.1 false) else (laws_FnDigitsRearranged.j1 kj7 l1 t476 t477 t478 t479 bt491.1 true)) else (laws_FnDigitsRearranged.j1 kj7 l1 t476 t477 t478 t479 bt491.1 true))) else (laws_FnDigitsRearranged.j1 kj7 l1 t476 t477 t478 t479 bt491.1 true)) else (laws_FnDigitsRearranged.j1 kj7 l1 t476 t477 t478 t479 bt491.1 true)))))))) else (laws_FnDigitsRearranged.j5 kj7 l1)) = some r := by rw [if_neg (show ¬ (false = true) by decide)] at H; exact H
     clear H
     have H := H1
     clear H1
     have HC14 := Aside0.mk H
     clear H
     go_upto_if 85 with (fail)
     go_cut [] (fun wc => ∃ (kq : Nat), Aside0 (laws_FnDigitsRearranged.j5 kq l1 = some r) ∧ Aside0 (kq ≤ kj7) ∧ Aside0 (Below w.heap.size w wc))
     case first =>
      as_aux_lemma =>
      have H := HC14.out
      clear HC14
      by_cases c15 : t480 = true
      ·subst c15
       have H1 : ((impl_SortedDown.f kj7 t476 t478).bind fun bt483 => ((impl_SortedDown.f kj7 t477 t478).bind fun bt485 => ((impl_DigitCounts.f kj7 t476 t478).bind fun bt487 => ((impl_LeastWith.f kj7 bt487.1 t478).bind fun bt491 => ((impl_SameDigits.f kj7 t476 bt491.1 t478).bind fun bt493 => (if bt483.2 = true then (if bt485.2 = true then (if (t479 != (bt483.1 == bt485.1)) = true then (laws_FnDigitsRearranged.j1 kj7 l1 t476 t477 t478 t479 bt491.1 true) else (if bt487.2 = true then (if bt491.2 = true then (if bt491.1 > t476 then (laws_FnDigitsRearranged.j1 kj7 l1 t476 t477 t478 t479 bt491.1 true) else (if bt493.2 = true then (if bt493.1 = true then (laws_FnDigitsRearranged.j1 kj7 l1 t476 t477 t478 t479 bt491.1 (decide (bt483.1 < t476))) else (laws_FnDigitsRearranged.j1 kj7 l1 t476 t477 t478 t479 bt491.1 true)) else (laws_FnDigitsRearranged.j1 kj7 l1 t476 t477 t478 t479 bt491.1 true))) else (laws_FnDigitsRearranged.j1 kj7 l1 t476 t477 t478 t479 bt491.1 true)) else (laws_FnDigitsRearranged.j1 kj7 l1 t476 t477 t478 t479 bt491.1 true))) else (if bt487.2 = true then (if bt491.2 = true then (if bt491.1 > t476 then (laws_FnDigitsRearranged.j1 kj7 l1 t476 t477 t478 t479 bt491.1 true) else (if bt493.2 = true then (if bt493.1 = true then (laws_FnDigitsRearranged.j1 kj7 l1 t476 t477 t478 t479 bt491.1 (decide (bt483.1 < t476))) else (laws_FnDigitsRearranged.j1 kj7 l1 t476 t477 t478 t479 bt491.1 true)) else (laws_FnDigitsRearranged.j1 kj7 l1 t476 t477 t478 t479 bt491.1 true))) else (laws_FnDigitsRearranged.j1 kj7 l1 t476 t477 t478 t479 bt491.1 true)) else (laws_FnDigitsRearranged.j1 kj7 l1 t476 t477 t478 t479 bt491.1 true))) else (if bt487.2 = true then (if bt491.2 = true then (if bt491.1 > t476 then (laws_FnDigitsRearranged.j1 kj7 l1 t476 t477 t478 t479 bt491.1 true) else (if bt493.2 = true then (if bt493.1 = true then (laws_FnDigitsRearranged.j1 kj7 l1 t476 t477 t478 t479 bt491.1 false) else (laws_FnDigitsRearranged.j1 kj7 l1 t476 t477 t478 t479 bt491.1 true)) else (laws_FnDigitsRearranged.j1 kj7 l1 t476 t477 t478 t479 bt491.1 true))) else (laws_FnDigitsRearranged.j1 kj7 l1 t476 t477 t478 t479 bt491.1 true)) else (laws_FnDigitsRearranged.j1 kj7 l1 t476 t477 t478 t479 bt491.1 true)))))))) = some r := by rw [if_pos rfl] at H; exact H
       clear H
       have H := H1
       clear H1
       replace H := Option.bind_eq_some_iff.mp H
       obtain ⟨⟨t483, t484⟩, A160, H⟩ := H
       replace H : ((impl_SortedDown.f kj7 t477 t478).bind fun bt485 => ((impl_DigitCounts.f kj7 t476 t478).bind fun bt487 => ((impl_LeastWith.f kj7 bt487.1 t478).bind fun bt491 => ((impl_SameDigits.f kj7 t476 bt491.1 t478).bind fun bt493 => (if t484 = true then (if bt485.2 = true then (if (t479 != (t483 == bt485.1)) = true then (laws_FnDigitsRearranged.j1 kj7 l1 t476 t477 t478 t479 bt491.1 true) else (if bt487.2 = true then (if bt491.2 = true then (if bt491.1 > t476 then (laws_FnDigitsRearranged.j1 kj7 l1 t476 t477 t478 t479 bt491.1 true) else (if bt493.2 = true then (if bt493.1 = true then (laws_FnDigitsRearranged.j1 kj7 l1 t476 t477 t478 t479 bt491.1 (decide (t483 < t476))) else (laws_FnDigitsRearranged.j1 kj7 l1 t476 t477 t478 t479 bt491.1 true)) else (laws_FnDigitsRearranged.j1 kj7 l1 t476 t477 t478 t479 bt491.1 true))) else (laws_FnDigitsRearranged.j1 kj7 l1 t476 t477 t478 t479 bt491.1 true)) else (laws_FnDigitsRearranged.j1 kj7 l1 t476 t477 t478 t479 bt491.1 true))) else (if bt487.2 = true then (if bt491.2 = true then (if bt491.1 > t476 then (laws_FnDigitsRearranged.j1 kj7 l1 t476 t477 t478 t479 bt491.1 true) else (if bt493.2 = true then (if bt493.1 = true then (laws_FnDigitsRearranged.j1 kj7 l1 t476 t477 t478 t479 bt491.1 (decide (t483 < t476))) else (laws_FnDigitsRearranged.j1 kj7 l1 t476 t477 t478 t479 bt491.1 true)) else (laws_FnDigitsRearranged.j1 kj7 l1 t476 t477 t478 t479 bt491.1 true))) else (laws_FnDigitsRearranged.j1 kj7 l1 t476 t477 t478 t479 bt491.1 true)) else (laws_FnDigitsRearranged.j1 kj7 l1 t476 t477 t478 t479 bt491.1 true))) else (if bt487.2 = true then (if bt491.2 = true then (if bt491.1 > t476 then (laws_FnDigitsRearranged.j1 kj7 l1 t476 t477 t478 t479 bt491.1 true) else (if bt493.2 = true then (if bt493.1 = true then (laws_FnDigitsRearranged.j1 kj7 l1 t476 t477 t478 t479 bt491.1 false) else (laws_FnDigitsRearranged.j1 kj7 l1 t476 t477 t478 t479 bt491.1 true)) else (laws_FnDigitsRearranged.j1 kj7 l1 t476 t477 t478 t479 bt491.1 true))) else (laws_FnDigitsRearranged.j1 kj7 l1 t476 t477 t478 t479 bt491.1 true)) else (laws_FnDigitsRearranged.j1 kj7 l1 t476 t477 t478 t479 bt491.1 true))))))) = some r := H
       have A16 := Aside0.mk A160
       clear A160
       replace H := Option.bind_eq_some_iff.mp H
       obtain ⟨⟨t485, t486⟩, A170, H⟩ := H
       replace H : ((impl_DigitCounts.f kj7 t476 t478).bind fun bt487 => ((impl_LeastWith.f kj7 bt487.1 t478).bind fun bt491 => ((impl_SameDigits.f kj7 t476 bt491.1 t478).bind fun bt493 => (if t484 = true then (if t486 = true then (if (t479 != (t483 == t485)) = true then (laws_FnDigitsRearranged.j1 kj7 l1 t476 t477 t478 t479 bt491.1 true) else (if bt487.2 = true then (if bt491.2 = true then (if bt491.1 > t476 then (laws_FnDigitsRearranged.j1 kj7 l1 t476 t477 t478 t479 bt491.1 true) else (if bt493.2 = true then (if bt493.1 = true then (laws_FnDigitsRearranged.j1 kj7 l1 t476 t477 t478 t479 bt491.1 (decide (t483 < t476))) else (laws_FnDigitsRearranged.j1 kj7 l1 t476 t477 t478 t479 bt491.1 true)) else (laws_FnDigitsRearranged.j1 kj7 l1 t476 t477 t478 t479 bt491.1 true))) else (laws_FnDigitsRearranged.j1 kj7 l1 t476 t477 t478 t479 bt491.1 true)) else (laws_FnDigitsRearranged.j1 kj7 l1 t476 t477 t478 t479 bt491.1 true))) else (if bt487.2 = true then (if bt491.2 = true then (if bt491.1 > t476 then (laws_FnDigitsRearranged.j1 kj7 l1 t476 t477 t478 t479 bt491.1 true) else (if bt493.2 = true then (if bt493.1 = true then (laws_FnDigitsRearranged.j1 kj7 l1 t476 t477 t478 t479 bt491.1 (decide (t483 < t476))) else (laws_FnDigitsRearranged.j1 kj7 l1 t476 t477 t478 t479 bt491.1 true)) else (laws_FnDigitsRearranged.j1 kj7 l1 t476 t477 t478 t479 bt491.1 true))) else (laws_FnDigitsRearranged.j1 kj7 l1 t476 t477 t478 t479 bt491.1 true)) else (laws_FnDigitsRearranged.j1 kj7 l1 t476 t477 t478 t479 bt491.1 true))) else (if bt487.2 = true then (if bt491.2 = true then (if bt491.1 > t476 then (laws_FnDigitsRearranged.j1 kj7 l1 t476 t477 t478 t479 bt491.1 true) else (if bt493.2 = true then (if bt493.1 = true then (laws_FnDigitsRearranged.j1 kj7 l1 t476 t477 t478 t479 bt491.1 false) else (laws_FnDigitsRearranged.j1 kj7 l1 t476 t477 t478 t479 bt491.1 true)) else (laws_FnDigitsRearranged.j1 kj7 l1 t476 t477 t478 t479 bt491.1 true))) else (laws_FnDigitsRearranged.j1 kj7 l1 t476 t477 t478 t479 bt491.1 true)) else (laws_FnDigitsRearranged.j1 kj7 l1 t476 t477 t478 t479 bt491.1 true)))))) = some r := H
       have A17 := Aside0.mk A170
       clear A170
       replace H := Option.bind_eq_some_iff.mp H
       obtain ⟨⟨t487, t488⟩, A180, H⟩ := H
       replace H : ((impl_LeastWith.f kj7 t487 t478).bind fun bt491 => ((impl_SameDigits.f kj7 t476 bt491.1 t478).bind fun bt493 => (if t484 = true then (if t486 = true then (if (t479 != (t483 == t485)) = true then (laws_FnDigitsRearranged.j1 kj7 l1 t476 t477 t478 t479 bt491.1 true) else (if t488 = true then (if bt491.2 = true then (if bt491.1 > t476 then (laws_FnDigitsRearranged.j1 kj7 l1 t476 t477 t478 t479 bt491.1 true) else (if bt493.2 = true then (if bt493.1 = true then (laws_FnDigitsRearranged.j1 kj7 l1 t476 t477 t478 t479 bt491.1 (decide (t483 < t476))) else (laws_FnDigitsRearranged.j1 kj7 l1 t476 t477 t478 t479 bt491.1 true)) else (laws_FnDigitsRearranged.j1 kj7 l1 t476 t477 t478 t479 bt491.1 true))) else (laws_FnDigitsRearranged.j1 kj7 l1 t476 t477 t478 t479 bt491.1 true)) else (laws_FnDigitsRearranged.j1 kj7 l1 t476 t477 t478 t479 bt491.1 true))) else (if t488 = true then (if bt491.2 = true then (if bt491.1 > t476 then (laws_FnDigitsRearranged.j1 kj7 l1 t476 t477 t478 t479 bt491.1 true) else (if bt493.2 = true then (if bt493.1 = true then (laws_FnDigitsRearranged.j1 kj7 l1 t476 t477 t478 t479 bt491.1 (decide (t483 < t476))) else (laws_FnDigitsRearranged.j1 kj7 l1 t476 t477 t478 t479 bt491.1 true)) else (laws_FnDigitsRearranged.j1 kj7 l1 t476 t477 t478 t479 bt491.1 true))) else (laws_FnDigitsRearranged.j1 kj7 l1 t476 t477 t478 t479 bt491.1 true)) else (laws_FnDigitsRearranged.j1 kj7 l1 t476 t477 t478 t479 bt491.1 true))) else (if t488 = true then (if bt491.2 = true then (if bt491.1 > t476 then (laws_FnDigitsRearranged.j1 kj7 l1 t476 t477 t478 t479 bt491.1 true) else (if bt493.2 = true then (if bt493.1 = true then (laws_FnDigitsRearranged.j1 kj7 l1 t476 t477 t478 t479 bt491.1 false) else (laws_FnDigitsRearranged.j1 kj7 l1 t476 t477 t478 t479 bt491.1 true)) else (laws_FnDigitsRearranged.j1 kj7 l1 t476 t477 t478 t479 bt491.1 true))) else (laws_FnDigitsRearranged.j1 kj7 l1 t476 t477 t478 t479 bt491.1 true)) else (laws_FnDigitsRearranged.j1 kj7 l1 t476 t477 t478 t479 bt491.1 true))))) = some r := H
       have A18 := Aside0.mk A180
       clear A180
       replace H := Option.bind_eq_some_iff.mp H
       obtain ⟨⟨t491, t492⟩, A190, H⟩ := H
       replace H : ((impl_SameDigits.f kj7 t476 t491 t478).bind fun bt493 => (if t484 = true then (if t486 = true then (if (t479 != (t483 == t485)) = true then (laws_FnDigitsRearranged.j1 kj7 l1 t476 t477 t478 t479 t491 true) else (if t488 = true then (if t492 = true then (if t491 > t476 then (laws_FnDigitsRearranged.j1 kj7 l1 t476 t477 t478 t479 t491 true) else (if bt493.2 = true then (if bt493.1 = true then (laws_FnDigitsRearranged.j1 kj7 l1 t476 t477 t478 t479 t491 (decide (t483 < t476))) else (laws_FnDigitsRearranged.j1 kj7 l1 t476 t477 t478 t479 t491 true)) else (laws_FnDigitsRearranged.j1 kj7 l1 t476 t477 t478 t479 t491 true))) else (laws_FnDigitsRearranged.j1 kj7 l1 t476 t477 t478 t479 t491 true)) else (laws_FnDigitsRearranged.j1 kj7 l1 t476 t477 t478 t479 t491 true))) else (if t488 = true then (if t492 = true then (if t491 > t476 then (laws_FnDigitsRearranged.j1 kj7 l1 t476 t477 t478 t479 t491 true) else (if bt493.2 = true then (if bt493.1 = true then (laws_FnDigitsRearranged.j1 kj7 l1 t476 t477 t478 t479 t491 (decide (t483 < t476))) else (laws_FnDigitsRearranged.j1 kj7 l1 t476 t477 t478 t479 t491 true)) else (laws_FnDigitsRearranged.j1 kj7 l1 t476 t477 t478 t479 t491 true))) else (laws_FnDigitsRearranged.j1 kj7 l1 t476 t477 t478 t479 t491 true)) else (laws_FnDigitsRearranged.j1 kj7 l1 t476 t477 t478 t479 t491 true))) else (if t488 = true then (if t492 = true then (if t491 > t476 then (laws_FnDigitsRearranged.j1 kj7 l1 t476 t477 t478 t479 t491 true) else (if bt493.2 = true then (if bt493.1 = true then (laws_FnDigitsRearranged.j1 kj7 l1 t476 t477 t478 t479 t491 false) else (laws_FnDigitsRearranged.j1 kj7 l1 t476 t477 t478 t479 t491 true)) else (laws_FnDigitsRearranged.j1 kj7 l1 t476 t477 t478 t479 t491 true))) else (laws_FnDigitsRearranged.j1 kj7 l1 t476 t477 t478 t479 t491 true)) else (laws_FnDigitsRearranged.j1 kj7 l1 t476 t477 t478 t479 t491 true)))) = some r := H
       have A19 := Aside0.mk A190
       clear A190
       replace H := Option.bind_eq_some_iff.mp H
       obtain ⟨⟨t493, t494⟩, A200, H⟩ := H
       replace H : (if t484 = true then (if t486 = true then (if (t479 != (t483 == t485)) = true then (laws_FnDigitsRearranged.j1 kj7 l1 t476 t477 t478 t479 t491 true) else (if t488 = true then (if t492 = true then (if t491 > t476 then (laws_FnDigitsRearranged.j1 kj7 l1 t476 t477 t478 t479 t491 true) else (if t494 = true then (if t493 = true then (laws_FnDigitsRearranged.j1 kj7 l1 t476 t477 t478 t479 t491 (decide (t483 < t476))) else (laws_FnDigitsRearranged.j1 kj7 l1 t476 t477 t478 t479 t491 true)) else (laws_FnDigitsRearranged.j1 kj7 l1 t476 t477 t478 t479 t491 true))) else (laws_FnDigitsRearranged.j1 kj7 l1 t476 t477 t478 t479 t491 true)) else (laws_FnDigitsRearranged.j1 kj7 l1 t476 t477 t478 t479 t491 true))) else (if t488 = true then (if t492 = true then (if t491 > t476 then (laws_FnDigitsRearranged.j1 kj7 l1 t476 t477 t478 t479 t491 true) else (if t494 = true then (if t493 = true then (laws_FnDigitsRearranged.j1 kj7 l1 t476 t477 t478 t479 t491 (decide (t483 < t476))) else (laws_FnDigitsRearranged.j1 kj7 l1 t476 t477 t478 t479 t491 true)) else (laws_FnDigitsRearranged.j1 kj7 l1 t476 t477 t478 t479 t491 true))) else (laws_FnDigitsRearranged.j1 kj7 l1 t476 t477 t478 t479 t491 true)) else (laws_FnDigitsRearranged.j1 kj7 l1 t476 t477 t478 t479 t491 true))) else (if t488 = true then (if t492 = true then (if t491 > t476 then (laws_FnDigitsRearranged.j1 kj7 l1 t476 t477 t478 t479 t491 true) else (if t494 = true then (if t493 = true then (laws_FnDigitsRearranged.j1 kj7 l1 t476 t477 t478 t479 t491 false) else (laws_FnDigitsRearranged.j1 kj7 l1 t476 t477 t478 t479 t491 true)) else (laws_FnDigitsRearranged.j1 kj7 l1 t476 t477 t478 t479 t491 true))) else (laws_FnDigitsRearranged.j1 kj7 l1 t476 t477 t478 t479 t491 true)) else (laws_FnDigitsRearranged.j1 kj7 l1 t476 t477 t478 t479 t491 true))) = some r := H
       have A20 := Aside0.mk A200
       clear A200
       have HC21 := Aside0.mk H
       clear H
       go_upto_region 14 with (first | ((with_reducible refine gate_callee (f := 8) rfl ?_); refine goesL_ (some 89) rfl rfl Try.func8 (by kernel_rfl) rfl #[.int .i64 t476, .int .i64 t478] rfl (by (try simp only [List.map_toArray, List.map_cons, List.map_nil]); first | done | rfl | (simp only [List.length_drop, List.length_take]; rfl)) ?_; (with_reducible refine (impl_SortedDown.calls kj7 t476 t478 t483 t484 _ A16.out).mono ?_); rintro e w22 ⟨rfl, hb⟩; refine ⟨_, rfl, ?_⟩; have n0_ := Aside0.mk (below_step (by repeat (first | (with_reducible first | exact HB.out | apply below_alloc | apply pw_below_drewN | apply below_drew1) | exact HB.out)) hb); clear HB; have HB := n0_; clear n0_; (try clear hb); (try clear hb2); (try clear hk); (try clear hi)) | ((with_reducible refine gate_callee (f := 8) rfl ?_); refine goesL_ (some 95) rfl rfl Try.func8 (by kernel_rfl) rfl #[.int .i64 t477, .int .i64 t478] rfl (by (try simp only [List.map_toArray, List.map_cons, List.map_nil]); first | done | rfl | (simp only [List.length_drop, List.length_take]; rfl)) ?_; (with_reducible refine (impl_SortedDown.calls kj7 t477 t478 t485 t486 _ A17.out).mono ?_); rintro e w23 ⟨rfl, hb⟩; refine ⟨_, rfl, ?_⟩; have n0_ := Aside0.mk (below_step (by repeat (first | (with_reducible first | exact HB.out | apply below_alloc | apply pw_below_drewN | apply below_drew1) | exact HB.out)) hb); clear HB; have HB := n0_; clear n0_; (try clear hb); (try clear hb2); (try clear hk); (try clear hi)) | ((with_reducible refine gate_callee (f := 9) rfl ?_); refine goesL_ (some 101) rfl rfl Try.func9 (by kernel_rfl) rfl #[.int .i64 t476, .int .i64 t478] rfl (by (try simp only [List.map_toArray, List.map_cons, List.map_nil]); first | done | rfl | (simp only [List.length_drop, List.length_take]; rfl)) ?_; (with_reducible refine (impl_DigitCounts.calls kj7 t476 t478 t487 t488 _ A18.out).mono ?_); rintro e w24 ⟨v489, rfl, ho0, hb⟩; refine ⟨_, rfl, ?_⟩; have n0_ := Aside0.mk (Kd.R_lower ho0 (below_size (by repeat (first | (with_reducible first | exact HB.out | apply below_alloc | apply pw_below_drewN | apply below_drew1) | exact HB.out)))); have n1_ := Aside0.mk (below_step (by repeat (first | (with_reducible first | exact HB.out | apply below_alloc | apply pw_below_drewN | apply below_drew1) | exact HB.out)) hb); clear HB; have HO490 := n0_; have HB := n1_; clear n0_ n1_; (try clear hb); (try clear hb2); (try clear hk); (try clear hi); (try clear ho0); obtain ⟨Ao25, co25, eo25⟩ := Kd.R_slice HO490.out; subst eo25) | ((with_reducible refine gate_callee (f := 10) rfl ?_); refine goesL_ (some 107) rfl rfl Try.func10 (by kernel_rfl) rfl #[.slice Ao25 t487.length co25, .int .i64 t478] rfl (by (try simp only [List.map_toArray, List.map_cons, List.map_nil]); first | done | rfl | (simp only [List.length_drop, List.length_take]; rfl)) ?_; (with_reducible refine (impl_LeastWith.calls kj7 _ _ t487 t478 t491 t492 _ ?side1 ?side2 A19.out).mono ?_); (case side1 => repeat (first | exact (Kd.R_reads' HO490.out).2.2 | (with_reducible refine Kd.C_alloc ?_ _) | (with_reducible refine Kd.C_drewN ?_ _) | (with_reducible refine Kd.C_drew ?_))); (case side2 => exact (Kd.R_reads' HO490.out).2.1); rintro e w26 ⟨rfl, hb⟩; refine ⟨_, rfl, ?_⟩; have n0_ := Aside0.mk (Kd.R_below (by (with_reducible repeat (first | apply Kd.R_alloc | apply Kd.R_drewN | apply Kd.R_drew)); exact HO490.out) hb); have n1_ := Aside0.mk (below_step (by repeat (first | (with_reducible first | exact HB.out | apply below_alloc | apply pw_below_drewN | apply below_drew1) | exact HB.out)) hb); clear HO490; clear HB; have HO490 := n0_; have HB := n1_; clear n0_ n1_; (try clear hb); (try clear hb2); (try clear hk); (try clear hi)) | ((with_reducible refine gate_callee (f := 6) rfl ?_); refine goesL_ (some 114) rfl rfl Try.func6 (by kernel_rfl) rfl #[.int .i64 t476, .int .i64 t491, .int .i64 t478] rfl (by (try simp only [List.map_toArray, List.map_cons, List.map_nil]); first | done | rfl | (simp only [List.length_drop, List.length_take]; rfl)) ?_; (with_reducible refine (impl_SameDigits.calls kj7 t476 t491 t478 t493 t494 _ A20.out).mono ?_); rintro e w27 ⟨rfl, hb⟩; refine ⟨_, rfl, ?_⟩; have n0_ := Aside0.mk (Kd.R_below (by (with_reducible repeat (first | apply Kd.R_alloc | apply Kd.R_drewN | apply Kd.R_drew)); exact HO490.out) hb); have n1_ := Aside0.mk (below_step (by repeat (first | (with_reducible first | exact HB.out | apply below_alloc | apply pw_below_drewN | apply below_drew1) | exact HB.out)) hb); clear HO490; clear HB; have HO490 := n0_; have HB := n1_; clear n0_ n1_; (try clear hb); (try clear hb2); (try clear hk); (try clear hi)))
       (try simp only [Act.put, List.setIfInBounds_toArray, List.set_cons_zero, List.set_cons_succ])
       go_cut [156] (fun v156 wc => ∃ (kq : Nat) (x156_20 : Bool), v156 = .bool x156_20 ∧ Aside0 (laws_FnDigitsRearranged.j1 kq l1 t476 t477 t478 t479 t491 x156_20 = some r) ∧ Aside0 (kq ≤ kj7) ∧ Aside0 (Below w.heap.size w wc))
       case first =>
        as_aux_lemma =>
        have H := HC21.out
        clear HC21
        by_cases c28 : t484 = true
        ·subst c28
         have H1 : (if t486 = true then (if (t479 != (t483 == t485)) = true then (laws_FnDigitsRearranged.j1 kj7 l1 t476 t477 t478 t479 t491 true) else (if t488 = true then (if t492 = true then (if t491 > t476 then (laws_FnDigitsRearranged.j1 kj7 l1 t476 t477 t478 t479 t491 true) else (if t494 = true then (if t493 = true then (laws_FnDigitsRearranged.j1 kj7 l1 t476 t477 t478 t479 t491 (decide (t483 < t476))) else (laws_FnDigitsRearranged.j1 kj7 l1 t476 t477 t478 t479 t491 true)) else (laws_FnDigitsRearranged.j1 kj7 l1 t476 t477 t478 t479 t491 true))) else (laws_FnDigitsRearranged.j1 kj7 l1 t476 t477 t478 t479 t491 true)) else (laws_FnDigitsRearranged.j1 kj7 l1 t476 t477 t478 t479 t491 true))) else (if t488 = true then (if t492 = true then (if t491 > t476 then (laws_FnDigitsRearranged.j1 kj7 l1 t476 t477 t478 t479 t491 true) else (if t494 = true then (if t493 = true then (laws_FnDigitsRearranged.j1 kj7 l1 t476 t477 t478 t479 t491 (decide (t483 < t476))) else (laws_FnDigitsRearranged.j1 kj7 l1 t476 t477 t478 t479 t491 true)) else (laws_FnDigitsRearranged.j1 kj7 l1 t476 t477 t478 t479 t491 true))) else (laws_FnDigitsRearranged.j1 kj7 l1 t476 t477 t478 t479 t491 true)) else (laws_FnDigitsRearranged.j1 kj7 l1 t476 t477 t478 t479 t491 true))) = some r := by rw [if_pos rfl] at H; exact H
         clear H
         have H := H1
         clear H1
         by_cases c29 : t486 = true
         ·subst c29
          have H1 : (if (t479 != (t483 == t485)) = true then (laws_FnDigitsRearranged.j1 kj7 l1 t476 t477 t478 t479 t491 true) else (if t488 = true then (if t492 = true then (if t491 > t476 then (laws_FnDigitsRearranged.j1 kj7 l1 t476 t477 t478 t479 t491 true) else (if t494 = true then (if t493 = true then (laws_FnDigitsRearranged.j1 kj7 l1 t476 t477 t478 t479 t491 (decide (t483 < t476))) else (laws_FnDigitsRearranged.j1 kj7 l1 t476 t477 t478 t479 t491 true)) else (laws_FnDigitsRearranged.j1 kj7 l1 t476 t477 t478 t479 t491 true))) else (laws_FnDigitsRearranged.j1 kj7 l1 t476 t477 t478 t479 t491 true)) else (laws_FnDigitsRearranged.j1 kj7 l1 t476 t477 t478 t479 t491 true))) = some r := by rw [if_pos rfl] at H; exact H
          clear H
          have H := H1
          clear H1
          by_cases c30 : (t479 != (t483 == t485)) = true
          ·rw [if_pos c30] at H
           have c30b0 : (t479 != (t483 == t485)) = true := c30
           (try (have c30b1 : decide (t479 = (t483 == t485)) = false := by simpa using c30))
           (try (have c30b2 : (t479 == (t483 == t485)) = false := by simpa using c30))
           (try (have c30b3 : ¬ (t479 = (t483 == t485)) := by simpa using c30))
           clear c30
           (first | rw [c30b0] | (simp only [i64_w, i32_w]; rw [c30b0]) | skip)
           exact (laws_FnDigitsRearranged.j1_no HR_.out _ _ _ _ _ _ _ H).elim
          ·rw [if_neg c30] at H
           have c30b0 : (t479 != (t483 == t485)) = false := by simpa using c30
           (try (have c30b1 : decide (t479 = (t483 == t485)) = true := by simpa using c30))
           (try (have c30b2 : (t479 == (t483 == t485)) = true := by simpa using c30))
           clear c30
           (first | rw [c30b0] | (simp only [i64_w, i32_w]; rw [c30b0]) | skip)
           by_cases c31 : t488 = true
           ·subst c31
            have H1 : (if t492 = true then (if t491 > t476 then (laws_FnDigitsRearranged.j1 kj7 l1 t476 t477 t478 t479 t491 true) else (if t494 = true then (if t493 = true then (laws_FnDigitsRearranged.j1 kj7 l1 t476 t477 t478 t479 t491 (decide (t483 < t476))) else (laws_FnDigitsRearranged.j1 kj7 l1 t476 t477 t478 t479 t491 true)) else (laws_FnDigitsRearranged.j1 kj7 l1 t476 t477 t478 t479 t491 true))) else (laws_FnDigitsRearranged.j1 kj7 l1 t476 t477 t478 t479 t491 true)) = some r := by rw [if_pos rfl] at H; exact H
            clear H
            have H := H1
            clear H1
            by_cases c32 : t492 = true
            ·subst c32
             have H1 : (if t491 > t476 then (laws_FnDigitsRearranged.j1 kj7 l1 t476 t477 t478 t479 t491 true) else (if t494 = true then (if t493 = true then (laws_FnDigitsRearranged.j1 kj7 l1 t476 t477 t478 t479 t491 (decide (t483 < t476))) else (laws_FnDigitsRearranged.j1 kj7 l1 t476 t477 t478 t479 t491 true)) else (laws_FnDigitsRearranged.j1 kj7 l1 t476 t477 t478 t479 t491 true))) = some r := by rw [if_pos rfl] at H; exact H
             clear H
             have H := H1
             clear H1
             by_cases c33 : t491 > t476
             ·rw [if_pos c33] at H
              have c33b0 : decide (t476 < t491) = true := decide_eq_true c33
              clear c33
              exact (laws_FnDigitsRearranged.j1_no HR_.out _ _ _ _ _ _ _ H).elim
             ·rw [if_neg c33] at H
              have c33b0 : decide (t476 < t491) = false := decide_eq_false c33
              clear c33
              by_cases c34 : t494 = true
              ·subst c34
               have H1 : (if t493 = true then (laws_FnDigitsRearranged.j1 kj7 l1 t476 t477 t478 t479 t491 (decide (t483 < t476))) else (laws_FnDigitsRearranged.j1 kj7 l1 t476 t477 t478 t479 t491 true)) = some r := by rw [if_pos rfl] at H; exact H
               clear H
               have H := H1
               clear H1
               by_cases c35 : t493 = true
               ·subst c35
                have H1 : (laws_FnDigitsRearranged.j1 kj7 l1 t476 t477 t478 t479 t491 (decide (t483 < t476))) = some r := by rw [if_pos rfl] at H; exact H
                clear H
                have H := H1
                clear H1
                as_aux_lemma =>
                 have H' := Aside0.mk H
                 clear H
                 go_wp2
                 go_meet
                 case rel => exact ⟨_, (decide (t483 < t476)), (by first | rfl | (simp; done) | (simp [*]; done)), H', ⟨by have := HJ7.out; first | omega | exact Nat.le_refl _⟩, ⟨by repeat (first | (with_reducible first | exact HB.out | apply below_alloc | apply pw_below_drewN | apply below_drew1) | exact HB.out)⟩⟩
               ·replace c35 := Bool.eq_false_iff.mpr c35
                subst c35
                have H1 : (laws_FnDigitsRearranged.j1 kj7 l1 t476 t477 t478 t479 t491 true) = some r := by rw [if_neg (show ¬ (false = true) by decide)] at H; exact H
                clear H
                have H := H1
                clear H1
                exact (laws_FnDigitsRearranged.j1_no HR_.out _ _ _ _ _ _ _ H).elim
              ·replace c34 := Bool.eq_false_iff.mpr c34
               subst c34
               have H1 : (laws_FnDigitsRearranged.j1 kj7 l1 t476 t477 t478 t479 t491 true) = some r := by rw [if_neg (show ¬ (false = true) by decide)] at H; exact H
               clear H
               have H := H1
               clear H1
               exact (laws_FnDigitsRearranged.j1_no HR_.out _ _ _ _ _ _ _ H).elim
            ·replace c32 := Bool.eq_false_iff.mpr c32
             subst c32
             have H1 : (laws_FnDigitsRearranged.j1 kj7 l1 t476 t477 t478 t479 t491 true) = some r := by rw [if_neg (show ¬ (false = true) by decide)] at H; exact H
             clear H
             have H := H1
             clear H1
             exact (laws_FnDigitsRearranged.j1_no HR_.out _ _ _ _ _ _ _ H).elim
           ·replace c31 := Bool.eq_false_iff.mpr c31
            subst c31
            have H1 : (laws_FnDigitsRearranged.j1 kj7 l1 t476 t477 t478 t479 t491 true) = some r := by rw [if_neg (show ¬ (false = true) by decide)] at H; exact H
            clear H
            have H := H1
            clear H1
            exact (laws_FnDigitsRearranged.j1_no HR_.out _ _ _ _ _ _ _ H).elim
         ·replace c29 := Bool.eq_false_iff.mpr c29
          subst c29
          have H1 : (if t488 = true then (if t492 = true then (if t491 > t476 then (laws_FnDigitsRearranged.j1 kj7 l1 t476 t477 t478 t479 t491 true) else (if t494 = true then (if t493 = true then (laws_FnDigitsRearranged.j1 kj7 l1 t476 t477 t478 t479 t491 (decide (t483 < t476))) else (laws_FnDigitsRearranged.j1 kj7 l1 t476 t477 t478 t479 t491 true)) else (laws_FnDigitsRearranged.j1 kj7 l1 t476 t477 t478 t479 t491 true))) else (laws_FnDigitsRearranged.j1 kj7 l1 t476 t477 t478 t479 t491 true)) else (laws_FnDigitsRearranged.j1 kj7 l1 t476 t477 t478 t479 t491 true)) = some r := by rw [if_neg (show ¬ (false = true) by decide)] at H; exact H
          clear H
          have H := H1
          clear H1
          by_cases c36 : t488 = true
          ·subst c36
           have H1 : (if t492 = true then (if t491 > t476 then (laws_FnDigitsRearranged.j1 kj7 l1 t476 t477 t478 t479 t491 true) else (if t494 = true then (if t493 = true then (laws_FnDigitsRearranged.j1 kj7 l1 t476 t477 t478 t479 t491 (decide (t483 < t476))) else (laws_FnDigitsRearranged.j1 kj7 l1 t476 t477 t478 t479 t491 true)) else (laws_FnDigitsRearranged.j1 kj7 l1 t476 t477 t478 t479 t491 true))) else (laws_FnDigitsRearranged.j1 kj7 l1 t476 t477 t478 t479 t491 true)) = some r := by rw [if_pos rfl] at H; exact H
           clear H
           have H := H1
           clear H1
           by_cases c37 : t492 = true
           ·subst c37
            have H1 : (if t491 > t476 then (laws_FnDigitsRearranged.j1 kj7 l1 t476 t477 t478 t479 t491 true) else (if t494 = true then (if t493 = true then (laws_FnDigitsRearranged.j1 kj7 l1 t476 t477 t478 t479 t491 (decide (t483 < t476))) else (laws_FnDigitsRearranged.j1 kj7 l1 t476 t477 t478 t479 t491 true)) else (laws_FnDigitsRearranged.j1 kj7 l1 t476 t477 t478 t479 t491 true))) = some r := by rw [if_pos rfl] at H; exact H
            clear H
            have H := H1
            clear H1
            by_cases c38 : t491 > t476
            ·rw [if_pos c38] at H
             have c38b0 : decide (t476 < t491) = true := decide_eq_true c38
             clear c38
             exact (laws_FnDigitsRearranged.j1_no HR_.out _ _ _ _ _ _ _ H).elim
            ·rw [if_neg c38] at H
             have c38b0 : decide (t476 < t491) = false := decide_eq_false c38
             clear c38
             by_cases c39 : t494 = true
             ·subst c39
              have H1 : (if t493 = true then (laws_FnDigitsRearranged.j1 kj7 l1 t476 t477 t478 t479 t491 (decide (t483 < t476))) else (laws_FnDigitsRearranged.j1 kj7 l1 t476 t477 t478 t479 t491 true)) = some r := by rw [if_pos rfl] at H; exact H
              clear H
              have H := H1
              clear H1
              by_cases c40 : t493 = true
              ·subst c40
               have H1 : (laws_FnDigitsRearranged.j1 kj7 l1 t476 t477 t478 t479 t491 (decide (t483 < t476))) = some r := by rw [if_pos rfl] at H; exact H
               clear H
               have H := H1
               clear H1
               as_aux_lemma =>
                have H' := Aside0.mk H
                clear H
                go_wp2
                go_meet
                case rel => exact ⟨_, (decide (t483 < t476)), (by first | rfl | (simp; done) | (simp [*]; done)), H', ⟨by have := HJ7.out; first | omega | exact Nat.le_refl _⟩, ⟨by repeat (first | (with_reducible first | exact HB.out | apply below_alloc | apply pw_below_drewN | apply below_drew1) | exact HB.out)⟩⟩
              ·replace c40 := Bool.eq_false_iff.mpr c40
               subst c40
               have H1 : (laws_FnDigitsRearranged.j1 kj7 l1 t476 t477 t478 t479 t491 true) = some r := by rw [if_neg (show ¬ (false = true) by decide)] at H; exact H
               clear H
               have H := H1
               clear H1
               exact (laws_FnDigitsRearranged.j1_no HR_.out _ _ _ _ _ _ _ H).elim
             ·replace c39 := Bool.eq_false_iff.mpr c39
              subst c39
              have H1 : (laws_FnDigitsRearranged.j1 kj7 l1 t476 t477 t478 t479 t491 true) = some r := by rw [if_neg (show ¬ (false = true) by decide)] at H; exact H
              clear H
              have H := H1
              clear H1
              exact (laws_FnDigitsRearranged.j1_no HR_.out _ _ _ _ _ _ _ H).elim
           ·replace c37 := Bool.eq_false_iff.mpr c37
            subst c37
            have H1 : (laws_FnDigitsRearranged.j1 kj7 l1 t476 t477 t478 t479 t491 true) = some r := by rw [if_neg (show ¬ (false = true) by decide)] at H; exact H
            clear H
            have H := H1
            clear H1
            exact (laws_FnDigitsRearranged.j1_no HR_.out _ _ _ _ _ _ _ H).elim
          ·replace c36 := Bool.eq_false_iff.mpr c36
           subst c36
           have H1 : (laws_FnDigitsRearranged.j1 kj7 l1 t476 t477 t478 t479 t491 true) = some r := by rw [if_neg (show ¬ (false = true) by decide)] at H; exact H
           clear H
           have H := H1
           clear H1
           exact (laws_FnDigitsRearranged.j1_no HR_.out _ _ _ _ _ _ _ H).elim
        ·replace c28 := Bool.eq_false_iff.mpr c28
         subst c28
         have H1 : (if t488 = true then (if t492 = true then (if t491 > t476 then (laws_FnDigitsRearranged.j1 kj7 l1 t476 t477 t478 t479 t491 true) else (if t494 = true then (if t493 = true then (laws_FnDigitsRearranged.j1 kj7 l1 t476 t477 t478 t479 t491 false) else (laws_FnDigitsRearranged.j1 kj7 l1 t476 t477 t478 t479 t491 true)) else (laws_FnDigitsRearranged.j1 kj7 l1 t476 t477 t478 t479 t491 true))) else (laws_FnDigitsRearranged.j1 kj7 l1 t476 t477 t478 t479 t491 true)) else (laws_FnDigitsRearranged.j1 kj7 l1 t476 t477 t478 t479 t491 true)) = some r := by rw [if_neg (show ¬ (false = true) by decide)] at H; exact H
         clear H
         have H := H1
         clear H1
         by_cases c41 : t488 = true
         ·subst c41
          have H1 : (if t492 = true then (if t491 > t476 then (laws_FnDigitsRearranged.j1 kj7 l1 t476 t477 t478 t479 t491 true) else (if t494 = true then (if t493 = true then (laws_FnDigitsRearranged.j1 kj7 l1 t476 t477 t478 t479 t491 false) else (laws_FnDigitsRearranged.j1 kj7 l1 t476 t477 t478 t479 t491 true)) else (laws_FnDigitsRearranged.j1 kj7 l1 t476 t477 t478 t479 t491 true))) else (laws_FnDigitsRearranged.j1 kj7 l1 t476 t477 t478 t479 t491 true)) = some r := by rw [if_pos rfl] at H; exact H
          clear H
          have H := H1
          clear H1
          by_cases c42 : t492 = true
          ·subst c42
           have H1 : (if t491 > t476 then (laws_FnDigitsRearranged.j1 kj7 l1 t476 t477 t478 t479 t491 true) else (if t494 = true then (if t493 = true then (laws_FnDigitsRearranged.j1 kj7 l1 t476 t477 t478 t479 t491 false) else (laws_FnDigitsRearranged.j1 kj7 l1 t476 t477 t478 t479 t491 true)) else (laws_FnDigitsRearranged.j1 kj7 l1 t476 t477 t478 t479 t491 true))) = some r := by rw [if_pos rfl] at H; exact H
           clear H
           have H := H1
           clear H1
           by_cases c43 : t491 > t476
           ·rw [if_pos c43] at H
            have c43b0 : decide (t476 < t491) = true := decide_eq_true c43
            clear c43
            exact (laws_FnDigitsRearranged.j1_no HR_.out _ _ _ _ _ _ _ H).elim
           ·rw [if_neg c43] at H
            have c43b0 : decide (t476 < t491) = false := decide_eq_false c43
            clear c43
            by_cases c44 : t494 = true
            ·subst c44
             have H1 : (if t493 = true then (laws_FnDigitsRearranged.j1 kj7 l1 t476 t477 t478 t479 t491 false) else (laws_FnDigitsRearranged.j1 kj7 l1 t476 t477 t478 t479 t491 true)) = some r := by rw [if_pos rfl] at H; exact H
             clear H
             have H := H1
             clear H1
             by_cases c45 : t493 = true
             ·subst c45
              have H1 : (laws_FnDigitsRearranged.j1 kj7 l1 t476 t477 t478 t479 t491 false) = some r := by rw [if_pos rfl] at H; exact H
              clear H
              have H := H1
              clear H1
              as_aux_lemma =>
               have H' := Aside0.mk H
               clear H
               go_wp2
               go_meet
               case rel => exact ⟨_, (false), (by first | rfl | (simp; done) | (simp [*]; done)), H', ⟨by have := HJ7.out; first | omega | exact Nat.le_refl _⟩, ⟨by repeat (first | (with_reducible first | exact HB.out | apply below_alloc | apply pw_below_drewN | apply below_drew1) | exact HB.out)⟩⟩
             ·replace c45 := Bool.eq_false_iff.mpr c45
              subst c45
              have H1 : (laws_FnDigitsRearranged.j1 kj7 l1 t476 t477 t478 t479 t491 true) = some r := by rw [if_neg (show ¬ (false = true) by decide)] at H; exact H
              clear H
              have H := H1
              clear H1
              exact (laws_FnDigitsRearranged.j1_no HR_.out _ _ _ _ _ _ _ H).elim
            ·replace c44 := Bool.eq_false_iff.mpr c44
             subst c44
             have H1 : (laws_FnDigitsRearranged.j1 kj7 l1 t476 t477 t478 t479 t491 true) = some r := by rw [if_neg (show ¬ (false = true) by decide)] at H; exact H
             clear H
             have H := H1
             clear H1
             exact (laws_FnDigitsRearranged.j1_no HR_.out _ _ _ _ _ _ _ H).elim
          ·replace c42 := Bool.eq_false_iff.mpr c42
           subst c42
           have H1 : (laws_FnDigitsRearranged.j1 kj7 l1 t476 t477 t478 t479 t491 true) = some r := by rw [if_neg (show ¬ (false = true) by decide)] at H; exact H
           clear H
           have H := H1
           clear H1
           exact (laws_FnDigitsRearranged.j1_no HR_.out _ _ _ _ _ _ _ H).elim
         ·replace c41 := Bool.eq_false_iff.mpr c41
          subst c41
          have H1 : (laws_FnDigitsRearranged.j1 kj7 l1 t476 t477 t478 t479 t491 true) = some r := by rw [if_neg (show ¬ (false = true) by decide)] at H; exact H
          clear H
          have H := H1
          clear H1
          exact (laws_FnDigitsRearranged.j1_no HR_.out _ _ _ _ _ _ _ H).elim
       case rest =>
        as_aux_lemma =>
        clear HC21
        try clear c1
        try clear c2
        try clear p2
        try clear c3
        try clear c4
        try clear c5
        try clear c6
        try clear c7
        try clear c8
        try clear c9
        try clear c10
        try clear c12
        try clear c12b0
        try clear c12b1
        try clear c12b2
        try clear c13
        try clear c15
        try clear c28
        try clear c29
        try clear c30
        try clear c30b0
        try clear c30b1
        try clear c30b2
        try clear c31
        try clear c32
        try clear c33
        try clear c33b0
        try clear c34
        try clear c35
        try clear c36
        try clear c37
        try clear c38
        try clear c38b0
        try clear c39
        try clear c40
        try clear c41
        try clear c42
        try clear c43
        try clear c43b0
        try clear c44
        try clear c45
        try clear p2
        obtain ⟨kq, x156_20, rfl, HA, HJ20, HB⟩ := hcut
        cases kq with
        | zero => exact absurd HA.out (by simp [laws_FnDigitsRearranged.j1])
        | succ kj20 =>
         have H := HA.out
         clear HA
         simp only [laws_FnDigitsRearranged.j1] at H
         by_cases c46 : x156_20 = true
         ·subst c46
          have H1 : (some false) = some r := by rw [if_pos rfl] at H; exact H
          clear H
          have H := H1
          clear H1
          exact absurd (Option.some.inj H) (by rw [HR_.out]; decide)
         ·replace c46 := Bool.eq_false_iff.mpr c46
          subst c46
          have H1 : (if t479 = true then ((impl_CountRearranged.f kj20 t476 t478).bind fun bt495 => ((impl_CountRearranged.f kj20 t477 t478).bind fun bt497 => (if bt495.2 = true then (if bt497.2 = true then (if bt495.1 = bt497.1 then (if t491 > t477 then (some false) else (laws_FnDigitsRearranged.j2 kj20 l1 t476 t478)) else (some false)) else (some false)) else (some false)))) else (laws_FnDigitsRearranged.j2 kj20 l1 t476 t478)) = some r := by rw [if_neg (show ¬ (false = true) by decide)] at H; exact H
          clear H
          have H := H1
          clear H1
          have HC47 := Aside0.mk H
          clear H
          go_upto_if 157 with (fail)
          go_cut [] (fun wc => ∃ (kq : Nat), Aside0 (laws_FnDigitsRearranged.j2 kq l1 t476 t478 = some r) ∧ Aside0 (kq ≤ kj20) ∧ Aside0 (Below w.heap.size w wc))
          case first =>
           as_aux_lemma =>
           have H := HC47.out
           clear HC47
           by_cases c48 : t479 = true
           ·subst c48
            have H1 : ((impl_CountRearranged.f kj20 t476 t478).bind fun bt495 => ((impl_CountRearranged.f kj20 t477 t478).bind fun bt497 => (if bt495.2 = true then (if bt497.2 = true then (if bt495.1 = bt497.1 then (if t491 > t477 then (some false) else (laws_FnDigitsRearranged.j2 kj20 l1 t476 t478)) else (some false)) else (some false)) else (some false)))) = some r := by rw [if_pos rfl] at H; exact H
            clear H
            have H := H1
            clear H1
            replace H := Option.bind_eq_some_iff.mp H
            obtain ⟨⟨t495, t496⟩, A490, H⟩ := H
            replace H : ((impl_CountRearranged.f kj20 t477 t478).bind fun bt497 => (if t496 = true then (if bt497.2 = true then (if t495 = bt497.1 then (if t491 > t477 then (some false) else (laws_FnDigitsRearranged.j2 kj20 l1 t476 t478)) else (some false)) else (some false)) else (some false))) = some r := H
            have A49 := Aside0.mk A490
            clear A490
            replace H := Option.bind_eq_some_iff.mp H
            obtain ⟨⟨t497, t498⟩, A500, H⟩ := H
            replace H : (if t496 = true then (if t498 = true then (if t495 = t497 then (if t491 > t477 then (some false) else (laws_FnDigitsRearranged.j2 kj20 l1 t476 t478)) else (some false)) else (some false)) else (some false)) = some r := H
            have A50 := Aside0.mk A500
            clear A500
            by_cases c51 : t496 = true
            ·subst c51
             have H1 : (if t498 = true then (if t495 = t497 then (if t491 > t477 then (some false) else (laws_FnDigitsRearranged.j2 kj20 l1 t476 t478)) else (some false)) else (some false)) = some r := by rw [if_pos rfl] at H; exact H
             clear H
             have H := H1
             clear H1
             by_cases c52 : t498 = true
             ·subst c52
              have H1 : (if t495 = t497 then (if t491 > t477 then (some false) else (laws_FnDigitsRearranged.j2 kj20 l1 t476 t478)) else (some false)) = some r := by rw [if_pos rfl] at H; exact H
              clear H
              have H := H1
              clear H1
              by_cases c53 : t495 = t497
              ·rw [if_pos c53] at H
               have c53b0 : (t495 == t497) = true := beq_iff_eq.mpr c53
               have c53b1 : (t495 != t497) = false := bne_eq_false_iff_eq.mpr c53
               clear c53
               (first | rw [c53b0] | (simp only [i64_w, i32_w]; rw [c53b0]) | skip)
               by_cases c54 : t491 > t477
               ·rw [if_pos c54] at H
                have c54b0 : decide (t477 < t491) = true := decide_eq_true c54
                clear c54
                exact absurd (Option.some.inj H) (by rw [HR_.out]; decide)
               ·rw [if_neg c54] at H
                have c54b0 : decide (t477 < t491) = false := decide_eq_false c54
                clear c54
                as_aux_lemma =>
                 have H' := Aside0.mk H
                 clear H
                 go_wp2_with (first | ((with_reducible refine gate_callee (f := 11) rfl ?_); refine goesL_ (some 161) rfl rfl Try.func11 (by kernel_rfl) rfl #[.int .i64 t476, .int .i64 t478] rfl (by (try simp only [List.map_toArray, List.map_cons, List.map_nil]); first | done | rfl | (simp only [List.length_drop, List.length_take]; rfl)) ?_; (with_reducible refine (impl_CountRearranged.calls kj20 t476 t478 t495 true _ A49.out).mono ?_); rintro e w55 ⟨rfl, hb⟩; refine ⟨_, rfl, ?_⟩; have n0_ := Aside0.mk (below_step (by repeat (first | (with_reducible first | exact HB.out | apply below_alloc | apply pw_below_drewN | apply below_drew1) | exact HB.out)) hb); clear HB; have HB := n0_; clear n0_; (try clear hb); (try clear hb2); (try clear hk); (try clear hi)) | ((with_reducible refine gate_callee (f := 11) rfl ?_); refine goesL_ (some 167) rfl rfl Try.func11 (by kernel_rfl) rfl #[.int .i64 t477, .int .i64 t478] rfl (by (try simp only [List.map_toArray, List.map_cons, List.map_nil]); first | done | rfl | (simp only [List.length_drop, List.length_take]; rfl)) ?_; (with_reducible refine (impl_CountRearranged.calls kj20 t477 t478 t497 true _ A50.out).mono ?_); rintro e w56 ⟨rfl, hb⟩; refine ⟨_, rfl, ?_⟩; have n0_ := Aside0.mk (below_step (by repeat (first | (with_reducible first | exact HB.out | apply below_alloc | apply pw_below_drewN | apply below_drew1) | exact HB.out)) hb); clear HB; have HB := n0_; clear n0_; (try clear hb); (try clear hb2); (try clear hk); (try clear hi)))
                 go_meet
                 case rel => exact ⟨_, H', ⟨by have := HJ7.out; have := HJ20.out; first | omega | exact Nat.le_refl _⟩, ⟨by repeat (first | (with_reducible first | exact HB.out | apply below_alloc | apply pw_below_drewN | apply below_drew1) | exact HB.out)⟩⟩
              ·rw [if_neg c53] at H
               have c53b0 : (t495 == t497) = false := beq_eq_false_iff_ne.mpr c53
               have c53b1 : (t495 != t497) = true := bne_iff_ne.mpr c53
               (first | rw [c53b0] | (simp only [i64_w, i32_w]; rw [c53b0]) | skip)
               exact absurd (Option.some.inj H) (by rw [HR_.out]; decide)
             ·replace c52 := Bool.eq_false_iff.mpr c52
              subst c52
              have H1 : (some false) = some r := by rw [if_neg (show ¬ (false = true) by decide)] at H; exact H
              clear H
              have H := H1
              clear H1
              exact absurd (Option.some.inj H) (by rw [HR_.out]; decide)
            ·replace c51 := Bool.eq_false_iff.mpr c51
             subst c51
             have H1 : (some false) = some r := by rw [if_neg (show ¬ (false = true) by decide)] at H; exact H
             clear H
             have H := H1
             clear H1
             exact absurd (Option.some.inj H) (by rw [HR_.out]; decide)
           ·replace c48 := Bool.eq_false_iff.mpr c48
            subst c48
            have H1 : (laws_FnDigitsRearranged.j2 kj20 l1 t476 t478) = some r := by rw [if_neg (show ¬ (false = true) by decide)] at H; exact H
            clear H
            have H := H1
            clear H1
            as_aux_lemma =>
             have H' := Aside0.mk H
             clear H
             go_wp2
             go_meet
             case rel => exact ⟨_, H', ⟨by have := HJ7.out; have := HJ20.out; first | omega | exact Nat.le_refl _⟩, ⟨by repeat (first | (with_reducible first | exact HB.out | apply below_alloc | apply pw_below_drewN | apply below_drew1) | exact HB.out)⟩⟩
          case rest =>
           as_aux_lemma =>
           clear HC47
           try clear c1
           try clear c2
           try clear p2
           try clear c3
           try clear c4
           try clear c5
           try clear c6
           try clear c7
           try clear c8
           try clear c9
           try clear c10
           try clear c11
           try clear c12
           try clear c12b0
           try clear c12b1
           try clear c12b2
           try clear c13
           try clear c15
           try clear c28
           try clear c29
           try clear c30
           try clear c30b0
           try clear c30b1
           try clear c30b2
           try clear c31
           try clear c32
           try clear c33
           try clear c33b0
           try clear c34
           try clear c35
           try clear c36
           try clear c37
           try clear c38
           try clear c38b0
           try clear c39
           try clear c40
           try clear c41
           try clear c42
           try clear c43
           try clear c43b0
           try clear c44
           try clear c45
           try clear c46
           try clear c48
           try clear c51
           try clear c52
           try clear c53
           try clear c53b0
           try clear c53b1
           try clear c54
           try clear c54b0
           try clear p2
           obtain ⟨kq, HA, HJ46, HB⟩ := hcut
           cases kq with
           | zero => exact absurd HA.out (by simp [laws_FnDigitsRearranged.j2])
           | succ kj46 =>
            have H := HA.out
            clear HA
            simp only [laws_FnDigitsRearranged.j2] at H
            have HC57 := Aside0.mk H
            clear H
            go_upto_region 21 with (fail)
            go_cut [191] (fun v191 wc => ∃ (kq : Nat) (x191_56 : Bool), v191 = .bool x191_56 ∧ Aside0 (laws_FnDigitsRearranged.j3 kq l1 t476 t478 x191_56 = some r) ∧ Aside0 (kq ≤ kj46) ∧ Aside0 (Below w.heap.size w wc))
            case first =>
             as_aux_lemma =>
             have H := HC57.out
             clear HC57
             by_cases c58 : t476 < 1000
             ·rw [if_pos c58] at H
              have c58b0 : decide (t476 < 1000) = true := decide_eq_true c58
              clear c58
              (first | rw [c58b0] | (simp only [i64_w, i32_w]; rw [c58b0]) | skip)
              as_aux_lemma =>
               have H' := Aside0.mk H
               clear H
               go_wp2
               go_meet
               case rel => exact ⟨_, ((t478 == 10)), (by first | rfl | (simp; done) | (simp [*]; done)), H', ⟨by have := HJ7.out; have := HJ20.out; have := HJ46.out; first | omega | exact Nat.le_refl _⟩, ⟨by repeat (first | (with_reducible first | exact HB.out | apply below_alloc | apply pw_below_drewN | apply below_drew1) | exact HB.out)⟩⟩
             ·rw [if_neg c58] at H
              have c58b0 : decide (t476 < 1000) = false := decide_eq_false c58
              clear c58
              (first | rw [c58b0] | (simp only [i64_w, i32_w]; rw [c58b0]) | skip)
              as_aux_lemma =>
               have H' := Aside0.mk H
               clear H
               go_wp2
               go_meet
               case rel => exact ⟨_, (false), (by first | rfl | (simp; done) | (simp [*]; done)), H', ⟨by have := HJ7.out; have := HJ20.out; have := HJ46.out; first | omega | exact Nat.le_refl _⟩, ⟨by repeat (first | (with_reducible first | exact HB.out | apply below_alloc | apply pw_below_drewN | apply below_drew1) | exact HB.out)⟩⟩
            case rest =>
             as_aux_lemma =>
             clear HC57
             try clear c1
             try clear c2
             try clear p2
             try clear c3
             try clear c4
             try clear c5
             try clear c6
             try clear c7
             try clear c8
             try clear c9
             try clear c10
             try clear c11
             try clear c12
             try clear c12b0
             try clear c12b1
             try clear c12b2
             try clear c13
             try clear c15
             try clear c28
             try clear c29
             try clear c30
             try clear c30b0
             try clear c30b1
             try clear c30b2
             try clear c31
             try clear c32
             try clear c33
             try clear c33b0
             try clear c34
             try clear c35
             try clear c36
             try clear c37
             try clear c38
             try clear c38b0
             try clear c39
             try clear c40
             try clear c41
             try clear c42
             try clear c43
             try clear c43b0
             try clear c44
             try clear c45
             try clear c46
             try clear c48
             try clear c51
             try clear c52
             try clear c53
             try clear c53b0
             try clear c53b1
             try clear c54
             try clear c54b0
             try clear c58
             try clear c58b0
             try clear p2
             obtain ⟨kq, x191_56, rfl, HA, HJ56, HB⟩ := hcut
             cases kq with
             | zero => exact absurd HA.out (by simp [laws_FnDigitsRearranged.j3])
             | succ kj56 =>
              have H := HA.out
              clear HA
              simp only [laws_FnDigitsRearranged.j3] at H
              by_cases c59 : x191_56 = true
              ·subst c59
               have H1 : ((impl_CountRearranged.f kj56 t476 t478).bind fun bt499 => (laws_FnDigitsRearranged.l0 kj56 l1 t476 t478 bt499.1 bt499.2 0 0)) = some r := by rw [if_pos rfl] at H; exact H
               clear H
               have H := H1
               clear H1
               replace H := Option.bind_eq_some_iff.mp H
               obtain ⟨⟨t499, t500⟩, A600, H⟩ := H
               replace H : (laws_FnDigitsRearranged.l0 kj56 l1 t476 t478 t499 t500 0 0) = some r := H
               have A60 := Aside0.mk A600
               clear A600
               have H' := Aside0.mk H
               clear H
               go_wp2_with (first | ((with_reducible refine gate_callee (f := 11) rfl ?_); refine goesL_ (some 195) rfl rfl Try.func11 (by kernel_rfl) rfl #[.int .i64 t476, .int .i64 t478] rfl (by (try simp only [List.map_toArray, List.map_cons, List.map_nil]); first | done | rfl | (simp only [List.length_drop, List.length_take]; rfl)) ?_; (with_reducible refine (impl_CountRearranged.calls kj56 t476 t478 t499 t500 _ A60.out).mono ?_); rintro e w61 ⟨rfl, hb⟩; refine ⟨_, rfl, ?_⟩; have n0_ := Aside0.mk (below_step (by repeat (first | (with_reducible first | exact HB.out | apply below_alloc | apply pw_below_drewN | apply below_drew1) | exact HB.out)) hb); clear HB; have HB := n0_; clear n0_; (try clear hb); (try clear hb2); (try clear hk); (try clear hi)))
               go_loopg [28, 29] kj56 (fun kq v28 v29 w' => ∃ (x28_5 : Int) (x29_5 : Int), v28 = .int .i64 x28_5 ∧ v29 = .int .i64 x29_5 ∧ Aside0 (laws_FnDigitsRearranged.l0 kq l1 t476 t478 t499 t500 x28_5 x29_5 = some r) ∧ Aside0 (kq ≤ kj56) ∧ Aside0 (Below w.heap.size w w'))
               case atStart => exact ⟨(0), (0), (by first | rfl | (simp; done) | (simp [*]; done)), (by first | rfl | (simp; done) | (simp [*]; done)), H', ⟨Nat.le_refl _⟩, ⟨by repeat (first | (with_reducible first | exact HB.out | apply below_alloc | apply pw_below_drewN | apply below_drew1) | exact HB.out)⟩⟩
               case round =>
                as_aux_lemma =>
                clear H'
                try clear c1
                try clear c2
                try clear p2
                try clear c3
                try clear c4
                try clear c5
                try clear c6
                try clear c7
                try clear c8
                try clear c9
                try clear c10
                try clear c11
                try clear c12
                try clear c12b0
                try clear c12b1
                try clear c12b2
                try clear c13
                try clear c15
                try clear c28
                try clear c29
                try clear c30
                try clear c30b0
                try clear c30b1
                try clear c30b2
                try clear c31
                try clear c32
                try clear c33
                try clear c33b0
                try clear c34
                try clear c35
                try clear c36
                try clear c37
                try clear c38
                try clear c38b0
                try clear c39
                try clear c40
                try clear c41
                try clear c42
                try clear c43
                try clear c43b0
                try clear c44
                try clear c45
                try clear c46
                try clear c48
                try clear c51
                try clear c52
                try clear c53
                try clear c53b0
                try clear c53b1
                try clear c54
                try clear c54b0
                try clear c58
                try clear c58b0
                try clear c59
                try clear p2
                obtain ⟨x28_5, x29_5, rfl, rfl, HA, HK5, HB⟩ := hrel
                cases gk with
                | zero => exact absurd HA.out (by simp [laws_FnDigitsRearranged.l0])
                | succ k5 =>
                 have H := HA.out
                 clear HA
                 simp only [laws_FnDigitsRearranged.l0] at H
                 by_cases c62 : x29_5 < 1000
                 ·rw [if_pos c62] at H
                  have c62b0 : decide (x29_5 < 1000) = true := decide_eq_true c62
                  clear c62
                  replace H := Option.bind_eq_some_iff.mp H
                  obtain ⟨⟨t501, t502⟩, A630, H⟩ := H
                  replace H : (if t502 = true then (if t501 = true then (laws_FnDigitsRearranged.l0 k5 l1 t476 t478 t499 t500 (wrap64 (x28_5 + 1)) (wrap64 (x29_5 + 1))) else (laws_FnDigitsRearranged.l0 k5 l1 t476 t478 t499 t500 x28_5 (wrap64 (x29_5 + 1)))) else (laws_FnDigitsRearranged.l0 k5 l1 t476 t478 t499 t500 x28_5 (wrap64 (x29_5 + 1)))) = some r := H
                  have A63 := Aside0.mk A630
                  clear A630
                  by_cases c64 : t502 = true
                  ·subst c64
                   have H1 : (if t501 = true then (laws_FnDigitsRearranged.l0 k5 l1 t476 t478 t499 t500 (wrap64 (x28_5 + 1)) (wrap64 (x29_5 + 1))) else (laws_FnDigitsRearranged.l0 k5 l1 t476 t478 t499 t500 x28_5 (wrap64 (x29_5 + 1)))) = some r := by rw [if_pos rfl] at H; exact H
                   clear H
                   have H := H1
                   clear H1
                   by_cases c65 : t501 = true
                   ·subst c65
                    have H1 : (laws_FnDigitsRearranged.l0 k5 l1 t476 t478 t499 t500 (wrap64 (x28_5 + 1)) (wrap64 (x29_5 + 1))) = some r := by rw [if_pos rfl] at H; exact H
                    clear H
                    have H := H1
                    clear H1
                    as_aux_lemma =>
                     have H' := Aside0.mk H
                     clear H
                     go_wp2_with (first | ((with_reducible refine gate_callee (f := 6) rfl ?_); refine goesL_ (some 206) rfl rfl Try.func6 (by kernel_rfl) rfl #[.int .i64 t476, .int .i64 x29_5, .int .i64 t478] rfl (by (try simp only [List.map_toArray, List.map_cons, List.map_nil]); first | done | rfl | (simp only [List.length_drop, List.length_take]; rfl)) ?_; (with_reducible refine (impl_SameDigits.calls k5 t476 x29_5 t478 true true _ A63.out).mono ?_); rintro e w66 ⟨rfl, hb⟩; refine ⟨_, rfl, ?_⟩; have n0_ := Aside0.mk (below_step (by repeat (first | (with_reducible first | exact HB.out | apply below_alloc | apply pw_below_drewN | apply below_drew1) | exact HB.out)) hb); clear HB; have HB := n0_; clear n0_; (try clear hb); (try clear hb2); (try clear hk); (try clear hi)))
                     go_roundg k5
                     case measure => have := HJ7.out; have := HJ20.out; have := HJ46.out; have := HJ56.out; have := HK5.out; omega
                     case rel => exact ⟨(wrap64 (x28_5 + 1)), (wrap64 (x29_5 + 1)), (by first | rfl | (simp; done) | (simp [*]; done)), (by first | rfl | (simp; done) | (simp [*]; done)), H', ⟨by have := HJ7.out; have := HJ20.out; have := HJ46.out; have := HJ56.out; have := HK5.out; omega⟩, ⟨by repeat (first | (with_reducible first | exact HB.out | apply below_alloc | apply pw_below_drewN | apply below_drew1) | exact HB.out)⟩⟩
                   ·replace c65 := Bool.eq_false_iff.mpr c65
                    subst c65
                    have H1 : (laws_FnDigitsRearranged.l0 k5 l1 t476 t478 t499 t500 x28_5 (wrap64 (x29_5 + 1))) = some r := by rw [if_neg (show ¬ (false = true) by decide)] at H; exact H
                    clear H
                    have H := H1
                    clear H1
                    as_aux_lemma =>
                     have H' := Aside0.mk H
                     clear H
                     go_wp2_with (first | ((with_reducible refine gate_callee (f := 6) rfl ?_); refine goesL_ (some 206) rfl rfl Try.func6 (by kernel_rfl) rfl #[.int .i64 t476, .int .i64 x29_5, .int .i64 t478] rfl (by (try simp only [List.map_toArray, List.map_cons, List.map_nil]); first | done | rfl | (simp only [List.length_drop, List.length_take]; rfl)) ?_; (with_reducible refine (impl_SameDigits.calls k5 t476 x29_5 t478 false true _ A63.out).mono ?_); rintro e w67 ⟨rfl, hb⟩; refine ⟨_, rfl, ?_⟩; have n0_ := Aside0.mk (below_step (by repeat (first | (with_reducible first | exact HB.out | apply below_alloc | apply pw_below_drewN | apply below_drew1) | exact HB.out)) hb); clear HB; have HB := n0_; clear n0_; (try clear hb); (try clear hb2); (try clear hk); (try clear hi)))
                     go_roundg k5
                     case measure => have := HJ7.out; have := HJ20.out; have := HJ46.out; have := HJ56.out; have := HK5.out; omega
                     case rel => exact ⟨(x28_5), (wrap64 (x29_5 + 1)), (by first | rfl | (simp; done) | (simp [*]; done)), (by first | rfl | (simp; done) | (simp [*]; done)), H', ⟨by have := HJ7.out; have := HJ20.out; have := HJ46.out; have := HJ56.out; have := HK5.out; omega⟩, ⟨by repeat (first | (with_reducible first | exact HB.out | apply below_alloc | apply pw_below_drewN | apply below_drew1) | exact HB.out)⟩⟩
                  ·replace c64 := Bool.eq_false_iff.mpr c64
                   subst c64
                   have H1 : (laws_FnDigitsRearranged.l0 k5 l1 t476 t478 t499 t500 x28_5 (wrap64 (x29_5 + 1))) = some r := by rw [if_neg (show ¬ (false = true) by decide)] at H; exact H
                   clear H
                   have H := H1
                   clear H1
                   as_aux_lemma =>
                    have H' := Aside0.mk H
                    clear H
                    go_wp2_with (first | ((with_reducible refine gate_callee (f := 6) rfl ?_); refine goesL_ (some 206) rfl rfl Try.func6 (by kernel_rfl) rfl #[.int .i64 t476, .int .i64 x29_5, .int .i64 t478] rfl (by (try simp only [List.map_toArray, List.map_cons, List.map_nil]); first | done | rfl | (simp only [List.length_drop, List.length_take]; rfl)) ?_; (with_reducible refine (impl_SameDigits.calls k5 t476 x29_5 t478 t501 false _ A63.out).mono ?_); rintro e w68 ⟨rfl, hb⟩; refine ⟨_, rfl, ?_⟩; have n0_ := Aside0.mk (below_step (by repeat (first | (with_reducible first | exact HB.out | apply below_alloc | apply pw_below_drewN | apply below_drew1) | exact HB.out)) hb); clear HB; have HB := n0_; clear n0_; (try clear hb); (try clear hb2); (try clear hk); (try clear hi)))
                    go_roundg k5
                    case measure => have := HJ7.out; have := HJ20.out; have := HJ46.out; have := HJ56.out; have := HK5.out; omega
                    case rel => exact ⟨(x28_5), (wrap64 (x29_5 + 1)), (by first | rfl | (simp; done) | (simp [*]; done)), (by first | rfl | (simp; done) | (simp [*]; done)), H', ⟨by have := HJ7.out; have := HJ20.out; have := HJ46.out; have := HJ56.out; have := HK5.out; omega⟩, ⟨by repeat (first | (with_reducible first | exact HB.out | apply below_alloc | apply pw_below_drewN | apply below_drew1) | exact HB.out)⟩⟩
                 ·rw [if_neg c62] at H
                  have c62b0 : decide (x29_5 < 1000) = false := decide_eq_false c62
                  clear c62
                  by_cases c69 : t500 = true
                  ·subst c69
                   have H1 : (if x28_5 = t499 then (laws_FnDigitsRearranged.j5 k5 l1) else (some false)) = some r := by rw [if_pos rfl] at H; exact H
                   clear H
                   have H := H1
                   clear H1
                   by_cases c70 : x28_5 = t499
                   ·rw [if_pos c70] at H
                    have c70b0 : (x28_5 == t499) = true := beq_iff_eq.mpr c70
                    have c70b1 : (x28_5 != t499) = false := bne_eq_false_iff_eq.mpr c70
                    clear c70
                    as_aux_lemma =>
                     have H' := Aside0.mk H
                     clear H
                     go_wp2
                     go_meet
                     case rel => exact ⟨_, H', ⟨by have := HJ7.out; have := HJ20.out; have := HJ46.out; have := HJ56.out; have := HK5.out; first | omega | exact Nat.le_refl _⟩, ⟨by repeat (first | (with_reducible first | exact HB.out | apply below_alloc | apply pw_below_drewN | apply below_drew1) | exact HB.out)⟩⟩
                   ·rw [if_neg c70] at H
                    have c70b0 : (x28_5 == t499) = false := beq_eq_false_iff_ne.mpr c70
                    have c70b1 : (x28_5 != t499) = true := bne_iff_ne.mpr c70
                    exact absurd (Option.some.inj H) (by rw [HR_.out]; decide)
                  ·replace c69 := Bool.eq_false_iff.mpr c69
                   subst c69
                   have H1 : (some false) = some r := by rw [if_neg (show ¬ (false = true) by decide)] at H; exact H
                   clear H
                   have H := H1
                   clear H1
                   exact absurd (Option.some.inj H) (by rw [HR_.out]; decide)
              ·replace c59 := Bool.eq_false_iff.mpr c59
               subst c59
               have H1 : (laws_FnDigitsRearranged.j5 kj56 l1) = some r := by rw [if_neg (show ¬ (false = true) by decide)] at H; exact H
               clear H
               have H := H1
               clear H1
               as_aux_lemma =>
                have H' := Aside0.mk H
                clear H
                go_wp2
                go_meet
                case rel => exact ⟨_, H', ⟨by have := HJ7.out; have := HJ20.out; have := HJ46.out; have := HJ56.out; first | omega | exact Nat.le_refl _⟩, ⟨by repeat (first | (with_reducible first | exact HB.out | apply below_alloc | apply pw_below_drewN | apply below_drew1) | exact HB.out)⟩⟩
      ·replace c15 := Bool.eq_false_iff.mpr c15
       subst c15
       have H1 : (laws_FnDigitsRearranged.j5 kj7 l1) = some r := by rw [if_neg (show ¬ (false = true) by decide)] at H; exact H
       clear H
       have H := H1
       clear H1
       as_aux_lemma =>
        have H' := Aside0.mk H
        clear H
        go_wp2
        go_meet
        case rel => exact ⟨_, H', ⟨by have := HJ7.out; first | omega | exact Nat.le_refl _⟩, ⟨by repeat (first | (with_reducible first | exact HB.out | apply below_alloc | apply pw_below_drewN | apply below_drew1) | exact HB.out)⟩⟩
     case rest =>
      as_aux_lemma =>
      clear HC14
      try clear c1
      try clear c2
      try clear p2
      try clear c3
      try clear c4
      try clear c5
      try clear c6
      try clear p6
      try clear c7
      try clear c8
      try clear c9
      try clear c10
      try clear c11
      try clear c12
      try clear c12b0
      try clear c12b1
      try clear c12b2
      try clear c13
      try clear c15
      try clear c28
      try clear c29
      try clear c30
      try clear c30b0
      try clear c30b1
      try clear c30b2
      try clear c31
      try clear c32
      try clear c33
      try clear c33b0
      try clear c34
      try clear c35
      try clear c36
      try clear c37
      try clear c38
      try clear c38b0
      try clear c39
      try clear c40
      try clear c41
      try clear c42
      try clear c43
      try clear c43b0
      try clear c44
      try clear c45
      try clear c46
      try clear c48
      try clear c51
      try clear c52
      try clear c53
      try clear c53b0
      try clear c53b1
      try clear c54
      try clear c54b0
      try clear c58
      try clear c58b0
      try clear c59
      try clear c62
      try clear c62b0
      try clear c64
      try clear p64
      try clear c65
      try clear c69
      try clear c70
      try clear c70b0
      try clear c70b1
      try clear p2
      obtain ⟨kq, HA, HJ13, HB⟩ := hcut
      cases kq with
      | zero => exact absurd HA.out (by simp [laws_FnDigitsRearranged.j5])
      | succ kj13 =>
       have H := HA.out
       clear HA
       simp only [laws_FnDigitsRearranged.j5] at H
       replace H := Option.bind_eq_some_iff.mp H
       obtain ⟨⟨t503, t504⟩, A710, H⟩ := H
       replace H : ((impl_SortedUp.f kj13 t503 t504).bind fun bt505 => ((spec_SortedUp.f kj13 t503 t504).bind fun bt507 => ((impl_SortedDown.f kj13 t503 t504).bind fun bt509 => ((spec_SortedDown.f kj13 t503 t504).bind fun bt511 => ((impl_CountRearranged.f kj13 t503 t504).bind fun bt513 => ((spec_CountRearranged.f kj13 t503 t504).bind fun bt515 => ((spec_DrawLeastWith.f kj13 l1).bind fun bt517 => ((impl_LeastWith.f kj13 bt517.1 bt517.2).bind fun bt521 => ((spec_LeastWith.f kj13 bt517.1 bt517.2).bind fun bt523 => (if (bt505.2 != bt507.2) = true then (laws_FnDigitsRearranged.j6 kj13 bt517.1 bt517.2 bt521.1 bt521.2 true) else (if bt505.1 = bt507.1 then (if (bt509.2 != bt511.2) = true then (laws_FnDigitsRearranged.j6 kj13 bt517.1 bt517.2 bt521.1 bt521.2 true) else (if bt509.1 = bt511.1 then (if (bt513.2 != bt515.2) = true then (laws_FnDigitsRearranged.j6 kj13 bt517.1 bt517.2 bt521.1 bt521.2 true) else (if bt513.1 = bt515.1 then (if (bt521.2 != bt523.2) = true then (laws_FnDigitsRearranged.j6 kj13 bt517.1 bt517.2 bt521.1 bt521.2 true) else (if bt521.1 = bt523.1 then (if bt505.2 = true then (if bt505.1 > t503 then (laws_FnDigitsRearranged.j6 kj13 bt517.1 bt517.2 bt521.1 bt521.2 true) else (if bt513.2 = true then (laws_FnDigitsRearranged.j6 kj13 bt517.1 bt517.2 bt521.1 bt521.2 (decide (bt513.1 < 1))) else (laws_FnDigitsRearranged.j6 kj13 bt517.1 bt517.2 bt521.1 bt521.2 false))) else (if bt513.2 = true then (laws_FnDigitsRearranged.j6 kj13 bt517.1 bt517.2 bt521.1 bt521.2 (decide (bt513.1 < 1))) else (laws_FnDigitsRearranged.j6 kj13 bt517.1 bt517.2 bt521.1 bt521.2 false))) else (laws_FnDigitsRearranged.j6 kj13 bt517.1 bt517.2 bt521.1 bt521.2 true))) else (laws_FnDigitsRearranged.j6 kj13 bt517.1 bt517.2 bt521.1 bt521.2 true))) else (laws_FnDigitsRearranged.j6 kj13 bt517.1 bt517.2 bt521.1 bt521.2 true))) else (laws_FnDigitsRearranged.j6 kj13 bt517.1 bt517.2 bt521.1 bt521.2 true)))))))))))) = some r := H
       have A71 := Aside0.mk A710
       clear A710
       replace H := Option.bind_eq_some_iff.mp H
       obtain ⟨⟨t505, t506⟩, A720, H⟩ := H
       replace H : ((spec_SortedUp.f kj13 t503 t504).bind fun bt507 => ((impl_SortedDown.f kj13 t503 t504).bind fun bt509 => ((spec_SortedDown.f kj13 t503 t504).bind fun bt511 => ((impl_CountRearranged.f kj13 t503 t504).bind fun bt513 => ((spec_CountRearranged.f kj13 t503 t504).bind fun bt515 => ((spec_DrawLeastWith.f kj13 l1).bind fun bt517 => ((impl_LeastWith.f kj13 bt517.1 bt517.2).bind fun bt521 => ((spec_LeastWith.f kj13 bt517.1 bt517.2).bind fun bt523 => (if (t506 != bt507.2) = true then (laws_FnDigitsRearranged.j6 kj13 bt517.1 bt517.2 bt521.1 bt521.2 true) else (if t505 = bt507.1 then (if (bt509.2 != bt511.2) = true then (laws_FnDigitsRearranged.j6 kj13 bt517.1 bt517.2 bt521.1 bt521.2 true) else (if bt509.1 = bt511.1 then (if (bt513.2 != bt515.2) = true then (laws_FnDigitsRearranged.j6 kj13 bt517.1 bt517.2 bt521.1 bt521.2 true) else (if bt513.1 = bt515.1 then (if (bt521.2 != bt523.2) = true then (laws_FnDigitsRearranged.j6 kj13 bt517.1 bt517.2 bt521.1 bt521.2 true) else (if bt521.1 = bt523.1 then (if t506 = true then (if t505 > t503 then (laws_FnDigitsRearranged.j6 kj13 bt517.1 bt517.2 bt521.1 bt521.2 true) else (if bt513.2 = true then (laws_FnDigitsRearranged.j6 kj13 bt517.1 bt517.2 bt521.1 bt521.2 (decide (bt513.1 < 1))) else (laws_FnDigitsRearranged.j6 kj13 bt517.1 bt517.2 bt521.1 bt521.2 false))) else (if bt513.2 = true then (laws_FnDigitsRearranged.j6 kj13 bt517.1 bt517.2 bt521.1 bt521.2 (decide (bt513.1 < 1))) else (laws_FnDigitsRearranged.j6 kj13 bt517.1 bt517.2 bt521.1 bt521.2 false))) else (laws_FnDigitsRearranged.j6 kj13 bt517.1 bt517.2 bt521.1 bt521.2 true))) else (laws_FnDigitsRearranged.j6 kj13 bt517.1 bt517.2 bt521.1 bt521.2 true))) else (laws_FnDigitsRearranged.j6 kj13 bt517.1 bt517.2 bt521.1 bt521.2 true))) else (laws_FnDigitsRearranged.j6 kj13 bt517.1 bt517.2 bt521.1 bt521.2 true))))))))))) = some r := H
       have A72 := Aside0.mk A720
       clear A720
       replace H := Option.bind_eq_some_iff.mp H
       obtain ⟨⟨t507, t508⟩, A730, H⟩ := H
       replace H : ((impl_SortedDown.f kj13 t503 t504).bind fun bt509 => ((spec_SortedDown.f kj13 t503 t504).bind fun bt511 => ((impl_CountRearranged.f kj13 t503 t504).bind fun bt513 => ((spec_CountRearranged.f kj13 t503 t504).bind fun bt515 => ((spec_DrawLeastWith.f kj13 l1).bind fun bt517 => ((impl_LeastWith.f kj13 bt517.1 bt517.2).bind fun bt521 => ((spec_LeastWith.f kj13 bt517.1 bt517.2).bind fun bt523 => (if (t506 != t508) = true then (laws_FnDigitsRearranged.j6 kj13 bt517.1 bt517.2 bt521.1 bt521.2 true) else (if t505 = t507 then (if (bt509.2 != bt511.2) = true then (laws_FnDigitsRearranged.j6 kj13 bt517.1 bt517.2 bt521.1 bt521.2 true) else (if bt509.1 = bt511.1 then (if (bt513.2 != bt515.2) = true then (laws_FnDigitsRearranged.j6 kj13 bt517.1 bt517.2 bt521.1 bt521.2 true) else (if bt513.1 = bt515.1 then (if (bt521.2 != bt523.2) = true then (laws_FnDigitsRearranged.j6 kj13 bt517.1 bt517.2 bt521.1 bt521.2 true) else (if bt521.1 = bt523.1 then (if t506 = true then (if t505 > t503 then (laws_FnDigitsRearranged.j6 kj13 bt517.1 bt517.2 bt521.1 bt521.2 true) else (if bt513.2 = true then (laws_FnDigitsRearranged.j6 kj13 bt517.1 bt517.2 bt521.1 bt521.2 (decide (bt513.1 < 1))) else (laws_FnDigitsRearranged.j6 kj13 bt517.1 bt517.2 bt521.1 bt521.2 false))) else (if bt513.2 = true then (laws_FnDigitsRearranged.j6 kj13 bt517.1 bt517.2 bt521.1 bt521.2 (decide (bt513.1 < 1))) else (laws_FnDigitsRearranged.j6 kj13 bt517.1 bt517.2 bt521.1 bt521.2 false))) else (laws_FnDigitsRearranged.j6 kj13 bt517.1 bt517.2 bt521.1 bt521.2 true))) else (laws_FnDigitsRearranged.j6 kj13 bt517.1 bt517.2 bt521.1 bt521.2 true))) else (laws_FnDigitsRearranged.j6 kj13 bt517.1 bt517.2 bt521.1 bt521.2 true))) else (laws_FnDigitsRearranged.j6 kj13 bt517.1 bt517.2 bt521.1 bt521.2 true)))))))))) = some r := H
       have A73 := Aside0.mk A730
       clear A730
       replace H := Option.bind_eq_some_iff.mp H
       obtain ⟨⟨t509, t510⟩, A740, H⟩ := H
       replace H : ((spec_SortedDown.f kj13 t503 t504).bind fun bt511 => ((impl_CountRearranged.f kj13 t503 t504).bind fun bt513 => ((spec_CountRearranged.f kj13 t503 t504).bind fun bt515 => ((spec_DrawLeastWith.f kj13 l1).bind fun bt517 => ((impl_LeastWith.f kj13 bt517.1 bt517.2).bind fun bt521 => ((spec_LeastWith.f kj13 bt517.1 bt517.2).bind fun bt523 => (if (t506 != t508) = true then (laws_FnDigitsRearranged.j6 kj13 bt517.1 bt517.2 bt521.1 bt521.2 true) else (if t505 = t507 then (if (t510 != bt511.2) = true then (laws_FnDigitsRearranged.j6 kj13 bt517.1 bt517.2 bt521.1 bt521.2 true) else (if t509 = bt511.1 then (if (bt513.2 != bt515.2) = true then (laws_FnDigitsRearranged.j6 kj13 bt517.1 bt517.2 bt521.1 bt521.2 true) else (if bt513.1 = bt515.1 then (if (bt521.2 != bt523.2) = true then (laws_FnDigitsRearranged.j6 kj13 bt517.1 bt517.2 bt521.1 bt521.2 true) else (if bt521.1 = bt523.1 then (if t506 = true then (if t505 > t503 then (laws_FnDigitsRearranged.j6 kj13 bt517.1 bt517.2 bt521.1 bt521.2 true) else (if bt513.2 = true then (laws_FnDigitsRearranged.j6 kj13 bt517.1 bt517.2 bt521.1 bt521.2 (decide (bt513.1 < 1))) else (laws_FnDigitsRearranged.j6 kj13 bt517.1 bt517.2 bt521.1 bt521.2 false))) else (if bt513.2 = true then (laws_FnDigitsRearranged.j6 kj13 bt517.1 bt517.2 bt521.1 bt521.2 (decide (bt513.1 < 1))) else (laws_FnDigitsRearranged.j6 kj13 bt517.1 bt517.2 bt521.1 bt521.2 false))) else (laws_FnDigitsRearranged.j6 kj13 bt517.1 bt517.2 bt521.1 bt521.2 true))) else (laws_FnDigitsRearranged.j6 kj13 bt517.1 bt517.2 bt521.1 bt521.2 true))) else (laws_FnDigitsRearranged.j6 kj13 bt517.1 bt517.2 bt521.1 bt521.2 true))) else (laws_FnDigitsRearranged.j6 kj13 bt517.1 bt517.2 bt521.1 bt521.2 true))))))))) = some r := H
       have A74 := Aside0.mk A740
       clear A740
       replace H := Option.bind_eq_some_iff.mp H
       obtain ⟨⟨t511, t512⟩, A750, H⟩ := H
       replace H : ((impl_CountRearranged.f kj13 t503 t504).bind fun bt513 => ((spec_CountRearranged.f kj13 t503 t504).bind fun bt515 => ((spec_DrawLeastWith.f kj13 l1).bind fun bt517 => ((impl_LeastWith.f kj13 bt517.1 bt517.2).bind fun bt521 => ((spec_LeastWith.f kj13 bt517.1 bt517.2).bind fun bt523 => (if (t506 != t508) = true then (laws_FnDigitsRearranged.j6 kj13 bt517.1 bt517.2 bt521.1 bt521.2 true) else (if t505 = t507 then (if (t510 != t512) = true then (laws_FnDigitsRearranged.j6 kj13 bt517.1 bt517.2 bt521.1 bt521.2 true) else (if t509 = t511 then (if (bt513.2 != bt515.2) = true then (laws_FnDigitsRearranged.j6 kj13 bt517.1 bt517.2 bt521.1 bt521.2 true) else (if bt513.1 = bt515.1 then (if (bt521.2 != bt523.2) = true then (laws_FnDigitsRearranged.j6 kj13 bt517.1 bt517.2 bt521.1 bt521.2 true) else (if bt521.1 = bt523.1 then (if t506 = true then (if t505 > t503 then (laws_FnDigitsRearranged.j6 kj13 bt517.1 bt517.2 bt521.1 bt521.2 true) else (if bt513.2 = true then (laws_FnDigitsRearranged.j6 kj13 bt517.1 bt517.2 bt521.1 bt521.2 (decide (bt513.1 < 1))) else (laws_FnDigitsRearranged.j6 kj13 bt517.1 bt517.2 bt521.1 bt521.2 false))) else (if bt513.2 = true then (laws_FnDigitsRearranged.j6 kj13 bt517.1 bt517.2 bt521.1 bt521.2 (decide (bt513.1 < 1))) else (laws_FnDigitsRearranged.j6 kj13 bt517.1 bt517.2 bt521.1 bt521.2 false))) else (laws_FnDigitsRearranged.j6 kj13 bt517.1 bt517.2 bt521.1 bt521.2 true))) else (laws_FnDigitsRearranged.j6 kj13 bt517.1 bt517.2 bt521.1 bt521.2 true))) else (laws_FnDigitsRearranged.j6 kj13 bt517.1 bt517.2 bt521.1 bt521.2 true))) else (laws_FnDigitsRearranged.j6 kj13 bt517.1 bt517.2 bt521.1 bt521.2 true)))))))) = some r := H
       have A75 := Aside0.mk A750
       clear A750
       replace H := Option.bind_eq_some_iff.mp H
       obtain ⟨⟨t513, t514⟩, A760, H⟩ := H
       replace H : ((spec_CountRearranged.f kj13 t503 t504).bind fun bt515 => ((spec_DrawLeastWith.f kj13 l1).bind fun bt517 => ((impl_LeastWith.f kj13 bt517.1 bt517.2).bind fun bt521 => ((spec_LeastWith.f kj13 bt517.1 bt517.2).bind fun bt523 => (if (t506 != t508) = true then (laws_FnDigitsRearranged.j6 kj13 bt517.1 bt517.2 bt521.1 bt521.2 true) else (if t505 = t507 then (if (t510 != t512) = true then (laws_FnDigitsRearranged.j6 kj13 bt517.1 bt517.2 bt521.1 bt521.2 true) else (if t509 = t511 then (if (t514 != bt515.2) = true then (laws_FnDigitsRearranged.j6 kj13 bt517.1 bt517.2 bt521.1 bt521.2 true) else (if t513 = bt515.1 then (if (bt521.2 != bt523.2) = true then (laws_FnDigitsRearranged.j6 kj13 bt517.1 bt517.2 bt521.1 bt521.2 true) else (if bt521.1 = bt523.1 then (if t506 = true then (if t505 > t503 then (laws_FnDigitsRearranged.j6 kj13 bt517.1 bt517.2 bt521.1 bt521.2 true) else (if t514 = true then (laws_FnDigitsRearranged.j6 kj13 bt517.1 bt517.2 bt521.1 bt521.2 (decide (t513 < 1))) else (laws_FnDigitsRearranged.j6 kj13 bt517.1 bt517.2 bt521.1 bt521.2 false))) else (if t514 = true then (laws_FnDigitsRearranged.j6 kj13 bt517.1 bt517.2 bt521.1 bt521.2 (decide (t513 < 1))) else (laws_FnDigitsRearranged.j6 kj13 bt517.1 bt517.2 bt521.1 bt521.2 false))) else (laws_FnDigitsRearranged.j6 kj13 bt517.1 bt517.2 bt521.1 bt521.2 true))) else (laws_FnDigitsRearranged.j6 kj13 bt517.1 bt517.2 bt521.1 bt521.2 true))) else (laws_FnDigitsRearranged.j6 kj13 bt517.1 bt517.2 bt521.1 bt521.2 true))) else (laws_FnDigitsRearranged.j6 kj13 bt517.1 bt517.2 bt521.1 bt521.2 true))))))) = some r := H
       have A76 := Aside0.mk A760
       clear A760
       replace H := Option.bind_eq_some_iff.mp H
       obtain ⟨⟨t515, t516⟩, A770, H⟩ := H
       replace H : ((spec_DrawLeastWith.f kj13 l1).bind fun bt517 => ((impl_LeastWith.f kj13 bt517.1 bt517.2).bind fun bt521 => ((spec_LeastWith.f kj13 bt517.1 bt517.2).bind fun bt523 => (if (t506 != t508) = true then (laws_FnDigitsRearranged.j6 kj13 bt517.1 bt517.2 bt521.1 bt521.2 true) else (if t505 = t507 then (if (t510 != t512) = true then (laws_FnDigitsRearranged.j6 kj13 bt517.1 bt517.2 bt521.1 bt521.2 true) else (if t509 = t511 then (if (t514 != t516) = true then (laws_FnDigitsRearranged.j6 kj13 bt517.1 bt517.2 bt521.1 bt521.2 true) else (if t513 = t515 then (if (bt521.2 != bt523.2) = true then (laws_FnDigitsRearranged.j6 kj13 bt517.1 bt517.2 bt521.1 bt521.2 true) else (if bt521.1 = bt523.1 then (if t506 = true then (if t505 > t503 then (laws_FnDigitsRearranged.j6 kj13 bt517.1 bt517.2 bt521.1 bt521.2 true) else (if t514 = true then (laws_FnDigitsRearranged.j6 kj13 bt517.1 bt517.2 bt521.1 bt521.2 (decide (t513 < 1))) else (laws_FnDigitsRearranged.j6 kj13 bt517.1 bt517.2 bt521.1 bt521.2 false))) else (if t514 = true then (laws_FnDigitsRearranged.j6 kj13 bt517.1 bt517.2 bt521.1 bt521.2 (decide (t513 < 1))) else (laws_FnDigitsRearranged.j6 kj13 bt517.1 bt517.2 bt521.1 bt521.2 false))) else (laws_FnDigitsRearranged.j6 kj13 bt517.1 bt517.2 bt521.1 bt521.2 true))) else (laws_FnDigitsRearranged.j6 kj13 bt517.1 bt517.2 bt521.1 bt521.2 true))) else (laws_FnDigitsRearranged.j6 kj13 bt517.1 bt517.2 bt521.1 bt521.2 true))) else (laws_FnDigitsRearranged.j6 kj13 bt517.1 bt517.2 bt521.1 bt521.2 true)))))) = some r := H
       have A77 := Aside0.mk A770
       clear A770
       replace H := Option.bind_eq_some_iff.mp H
       obtain ⟨⟨t517, t518⟩, A780, H⟩ := H
       replace H : ((impl_LeastWith.f kj13 t517 t518).bind fun bt521 => ((spec_LeastWith.f kj13 t517 t518).bind fun bt523 => (if (t506 != t508) = true then (laws_FnDigitsRearranged.j6 kj13 t517 t518 bt521.1 bt521.2 true) else (if t505 = t507 then (if (t510 != t512) = true then (laws_FnDigitsRearranged.j6 kj13 t517 t518 bt521.1 bt521.2 true) else (if t509 = t511 then (if (t514 != t516) = true then (laws_FnDigitsRearranged.j6 kj13 t517 t518 bt521.1 bt521.2 true) else (if t513 = t515 then (if (bt521.2 != bt523.2) = true then (laws_FnDigitsRearranged.j6 kj13 t517 t518 bt521.1 bt521.2 true) else (if bt521.1 = bt523.1 then (if t506 = true then (if t505 > t503 then (laws_FnDigitsRearranged.j6 kj13 t517 t518 bt521.1 bt521.2 true) else (if t514 = true then (laws_FnDigitsRearranged.j6 kj13 t517 t518 bt521.1 bt521.2 (decide (t513 < 1))) else (laws_FnDigitsRearranged.j6 kj13 t517 t518 bt521.1 bt521.2 false))) else (if t514 = true then (laws_FnDigitsRearranged.j6 kj13 t517 t518 bt521.1 bt521.2 (decide (t513 < 1))) else (laws_FnDigitsRearranged.j6 kj13 t517 t518 bt521.1 bt521.2 false))) else (laws_FnDigitsRearranged.j6 kj13 t517 t518 bt521.1 bt521.2 true))) else (laws_FnDigitsRearranged.j6 kj13 t517 t518 bt521.1 bt521.2 true))) else (laws_FnDigitsRearranged.j6 kj13 t517 t518 bt521.1 bt521.2 true))) else (laws_FnDigitsRearranged.j6 kj13 t517 t518 bt521.1 bt521.2 true))))) = some r := H
       have A78 := Aside0.mk A780
       clear A780
       replace H := Option.bind_eq_some_iff.mp H
       obtain ⟨⟨t521, t522⟩, A790, H⟩ := H
       replace H : ((spec_LeastWith.f kj13 t517 t518).bind fun bt523 => (if (t506 != t508) = true then (laws_FnDigitsRearranged.j6 kj13 t517 t518 t521 t522 true) else (if t505 = t507 then (if (t510 != t512) = true then (laws_FnDigitsRearranged.j6 kj13 t517 t518 t521 t522 true) else (if t509 = t511 then (if (t514 != t516) = true then (laws_FnDigitsRearranged.j6 kj13 t517 t518 t521 t522 true) else (if t513 = t515 then (if (t522 != bt523.2) = true then (laws_FnDigitsRearranged.j6 kj13 t517 t518 t521 t522 true) else (if t521 = bt523.1 then (if t506 = true then (if t505 > t503 then (laws_FnDigitsRearranged.j6 kj13 t517 t518 t521 t522 true) else (if t514 = true then (laws_FnDigitsRearranged.j6 kj13 t517 t518 t521 t522 (decide (t513 < 1))) else (laws_FnDigitsRearranged.j6 kj13 t517 t518 t521 t522 false))) else (if t514 = true then (laws_FnDigitsRearranged.j6 kj13 t517 t518 t521 t522 (decide (t513 < 1))) else (laws_FnDigitsRearranged.j6 kj13 t517 t518 t521 t522 false))) else (laws_FnDigitsRearranged.j6 kj13 t517 t518 t521 t522 true))) else (laws_FnDigitsRearranged.j6 kj13 t517 t518 t521 t522 true))) else (laws_FnDigitsRearranged.j6 kj13 t517 t518 t521 t522 true))) else (laws_FnDigitsRearranged.j6 kj13 t517 t518 t521 t522 true)))) = some r := H
       have A79 := Aside0.mk A790
       clear A790
       replace H := Option.bind_eq_some_iff.mp H
       obtain ⟨⟨t523, t524⟩, A800, H⟩ := H
       replace H : (if (t506 != t508) = true then (laws_FnDigitsRearranged.j6 kj13 t517 t518 t521 t522 true) else (if t505 = t507 then (if (t510 != t512) = true then (laws_FnDigitsRearranged.j6 kj13 t517 t518 t521 t522 true) else (if t509 = t511 then (if (t514 != t516) = true then (laws_FnDigitsRearranged.j6 kj13 t517 t518 t521 t522 true) else (if t513 = t515 then (if (t522 != t524) = true then (laws_FnDigitsRearranged.j6 kj13 t517 t518 t521 t522 true) else (if t521 = t523 then (if t506 = true then (if t505 > t503 then (laws_FnDigitsRearranged.j6 kj13 t517 t518 t521 t522 true) else (if t514 = true then (laws_FnDigitsRearranged.j6 kj13 t517 t518 t521 t522 (decide (t513 < 1))) else (laws_FnDigitsRearranged.j6 kj13 t517 t518 t521 t522 false))) else (if t514 = true then (laws_FnDigitsRearranged.j6 kj13 t517 t518 t521 t522 (decide (t513 < 1))) else (laws_FnDigitsRearranged.j6 kj13 t517 t518 t521 t522 false))) else (laws_FnDigitsRearranged.j6 kj13 t517 t518 t521 t522 true))) else (laws_FnDigitsRearranged.j6 kj13 t517 t518 t521 t522 true))) else (laws_FnDigitsRearranged.j6 kj13 t517 t518 t521 t522 true))) else (laws_FnDigitsRearranged.j6 kj13 t517 t518 t521 t522 true))) = some r := H
       have A80 := Aside0.mk A800
       clear A800
       have HC81 := Aside0.mk H
       clear H
       go_upto_region 42 with (first | ((with_reducible refine gate_callee (f := 12) rfl ?_); refine goesL_ (some 224) rfl rfl Try.func12 (by kernel_rfl) rfl #[.slice A1 l1.length c1] rfl (by (try simp only [List.map_toArray, List.map_cons, List.map_nil]); first | done | rfl | (simp only [List.length_drop, List.length_take]; rfl)) ?_; (with_reducible refine (spec_DrawSortedUp.calls kj13 _ _ l1 t503 t504 _ ?side1 ?side2 A71.out).mono ?_); (case side1 => repeat (first | exact (Kd.C_below HR1.out HB.out) | (with_reducible refine Kd.C_alloc ?_ _) | (with_reducible refine Kd.C_drewN ?_ _) | (with_reducible refine Kd.C_drew ?_))); (case side2 => exact HC1.out); rintro e w82 ⟨rfl, hb⟩; refine ⟨_, rfl, ?_⟩; have n0_ := Aside0.mk (below_step (by repeat (first | (with_reducible first | exact HB.out | apply below_alloc | apply pw_below_drewN | apply below_drew1) | exact HB.out)) hb); clear HB; have HB := n0_; clear n0_; (try clear hb); (try clear hb2); (try clear hk); (try clear hi)) | ((with_reducible refine gate_callee (f := 13) rfl ?_); refine goesL_ (some 230) rfl rfl Try.func13 (by kernel_rfl) rfl #[.int .i64 t503, .int .i64 t504] rfl (by (try simp only [List.map_toArray, List.map_cons, List.map_nil]); first | done | rfl | (simp only [List.length_drop, List.length_take]; rfl)) ?_; (with_reducible refine (impl_SortedUp.calls kj13 t503 t504 t505 t506 _ A72.out).mono ?_); rintro e w83 ⟨rfl, hb⟩; refine ⟨_, rfl, ?_⟩; have n0_ := Aside0.mk (below_step (by repeat (first | (with_reducible first | exact HB.out | apply below_alloc | apply pw_below_drewN | apply below_drew1) | exact HB.out)) hb); clear HB; have HB := n0_; clear n0_; (try clear hb); (try clear hb2); (try clear hk); (try clear hi)) | ((with_reducible refine gate_callee (f := 14) rfl ?_); refine goesL_ (some 236) rfl rfl Try.func14 (by kernel_rfl) rfl #[.int .i64 t503, .int .i64 t504] rfl (by (try simp only [List.map_toArray, List.map_cons, List.map_nil]); first | done | rfl | (simp only [List.length_drop, List.length_take]; rfl)) ?_; (with_reducible refine (spec_SortedUp.calls kj13 t503 t504 t507 t508 _ A73.out).mono ?_); rintro e w84 ⟨rfl, hb⟩; refine ⟨_, rfl, ?_⟩; have n0_ := Aside0.mk (below_step (by repeat (first | (with_reducible first | exact HB.out | apply below_alloc | apply pw_below_drewN | apply below_drew1) | exact HB.out)) hb); clear HB; have HB := n0_; clear n0_; (try clear hb); (try clear hb2); (try clear hk); (try clear hi)) | ((with_reducible refine gate_callee (f := 8) rfl ?_); refine goesL_ (some 242) rfl rfl Try.func8 (by kernel_rfl) rfl #[.int .i64 t503, .int .i64 t504] rfl (by (try simp only [List.map_toArray, List.map_cons, List.map_nil]); first | done | rfl | (simp only [List.length_drop, List.length_take]; rfl)) ?_; (with_reducible refine (impl_SortedDown.calls kj13 t503 t504 t509 t510 _ A74.out).mono ?_); rintro e w85 ⟨rfl, hb⟩; refine ⟨_, rfl, ?_⟩; have n0_ := Aside0.mk (below_step (by repeat (first | (with_reducible first | exact HB.out | apply below_alloc | apply pw_below_drewN | apply below_drew1) | exact HB.out)) hb); clear HB; have HB := n0_; clear n0_; (try clear hb); (try clear hb2); (try clear hk); (try clear hi)) | ((with_reducible refine gate_callee (f := 15) rfl ?_); refine goesL_ (some 248) rfl rfl Try.func15 (by kernel_rfl) rfl #[.int .i64 t503, .int .i64 t504] rfl (by (try simp only [List.map_toArray, List.map_cons, List.map_nil]); first | done | rfl | (simp only [List.length_drop, List.length_take]; rfl)) ?_; (with_reducible refine (spec_SortedDown.calls kj13 t503 t504 t511 t512 _ A75.out).mono ?_); rintro e w86 ⟨rfl, hb⟩; refine ⟨_, rfl, ?_⟩; have n0_ := Aside0.mk (below_step (by repeat (first | (with_reducible first | exact HB.out | apply below_alloc | apply pw_below_drewN | apply below_drew1) | exact HB.out)) hb); clear HB; have HB := n0_; clear n0_; (try clear hb); (try clear hb2); (try clear hk); (try clear hi)) | ((with_reducible refine gate_callee (f := 11) rfl ?_); refine goesL_ (some 254) rfl rfl Try.func11 (by kernel_rfl) rfl #[.int .i64 t503, .int .i64 t504] rfl (by (try simp only [List.map_toArray, List.map_cons, List.map_nil]); first | done | rfl | (simp only [List.length_drop, List.length_take]; rfl)) ?_; (with_reducible refine (impl_CountRearranged.calls kj13 t503 t504 t513 t514 _ A76.out).mono ?_); rintro e w87 ⟨rfl, hb⟩; refine ⟨_, rfl, ?_⟩; have n0_ := Aside0.mk (below_step (by repeat (first | (with_reducible first | exact HB.out | apply below_alloc | apply pw_below_drewN | apply below_drew1) | exact HB.out)) hb); clear HB; have HB := n0_; clear n0_; (try clear hb); (try clear hb2); (try clear hk); (try clear hi)) | ((with_reducible refine gate_callee (f := 16) rfl ?_); refine goesL_ (some 260) rfl rfl Try.func16 (by kernel_rfl) rfl #[.int .i64 t503, .int .i64 t504] rfl (by (try simp only [List.map_toArray, List.map_cons, List.map_nil]); first | done | rfl | (simp only [List.length_drop, List.length_take]; rfl)) ?_; (with_reducible refine (spec_CountRearranged.calls kj13 t503 t504 t515 t516 _ A77.out).mono ?_); rintro e w88 ⟨rfl, hb⟩; refine ⟨_, rfl, ?_⟩; have n0_ := Aside0.mk (below_step (by repeat (first | (with_reducible first | exact HB.out | apply below_alloc | apply pw_below_drewN | apply below_drew1) | exact HB.out)) hb); clear HB; have HB := n0_; clear n0_; (try clear hb); (try clear hb2); (try clear hk); (try clear hi)) | ((with_reducible refine gate_callee (f := 17) rfl ?_); refine goesL_ (some 265) rfl rfl Try.func17 (by kernel_rfl) rfl #[.slice A1 l1.length c1] rfl (by (try simp only [List.map_toArray, List.map_cons, List.map_nil]); first | done | rfl | (simp only [List.length_drop, List.length_take]; rfl)) ?_; (with_reducible refine (spec_DrawLeastWith.calls kj13 _ _ l1 t517 t518 _ ?side1 ?side2 A78.out).mono ?_); (case side1 => repeat (first | exact (Kd.C_below HR1.out HB.out) | (with_reducible refine Kd.C_alloc ?_ _) | (with_reducible refine Kd.C_drewN ?_ _) | (with_reducible refine Kd.C_drew ?_))); (case side2 => exact HC1.out); rintro e w89 ⟨v519, rfl, ho0, hb⟩; refine ⟨_, rfl, ?_⟩; have n0_ := Aside0.mk (Kd.R_lower ho0 (below_size (by repeat (first | (with_reducible first | exact HB.out | apply below_alloc | apply pw_below_drewN | apply below_drew1) | exact HB.out)))); have n1_ := Aside0.mk (below_step (by repeat (first | (with_reducible first | exact HB.out | apply below_alloc | apply pw_below_drewN | apply below_drew1) | exact HB.out)) hb); clear HB; have HO520 := n0_; have HB := n1_; clear n0_ n1_; (try clear hb); (try clear hb2); (try clear hk); (try clear hi); (try clear ho0); obtain ⟨Ao90, co90, eo90⟩ := Kd.R_slice HO520.out; subst eo90) | ((with_reducible refine gate_callee (f := 10) rfl ?_); refine goesL_ (some 271) rfl rfl Try.func10 (by kernel_rfl) rfl #[.slice Ao90 t517.length co90, .int .i64 t518] rfl (by (try simp only [List.map_toArray, List.map_cons, List.map_nil]); first | done | rfl | (simp only [List.length_drop, List.length_take]; rfl)) ?_; (with_reducible refine (impl_LeastWith.calls kj13 _ _ t517 t518 t521 t522 _ ?side1 ?side2 A79.out).mono ?_); (case side1 => repeat (first | exact (Kd.R_reads' HO520.out).2.2 | (with_reducible refine Kd.C_alloc ?_ _) | (with_reducible refine Kd.C_drewN ?_ _) | (with_reducible refine Kd.C_drew ?_))); (case side2 => exact (Kd.R_reads' HO520.out).2.1); rintro e w91 ⟨rfl, hb⟩; refine ⟨_, rfl, ?_⟩; have n0_ := Aside0.mk (Kd.R_below (by (with_reducible repeat (first | apply Kd.R_alloc | apply Kd.R_drewN | apply Kd.R_drew)); exact HO520.out) hb); have n1_ := Aside0.mk (below_step (by repeat (first | (with_reducible first | exact HB.out | apply below_alloc | apply pw_below_drewN | apply below_drew1) | exact HB.out)) hb); clear HO520; clear HB; have HO520 := n0_; have HB := n1_; clear n0_ n1_; (try clear hb); (try clear hb2); (try clear hk); (try clear hi)) | ((with_reducible refine gate_callee (f := 18) rfl ?_); refine goesL_ (some 277) rfl rfl Try.func18 (by kernel_rfl) rfl #[.slice Ao90 t517.length co90, .int .i64 t518] rfl (by (try simp only [List.map_toArray, List.map_cons, List.map_nil]); first | done | rfl | (simp only [List.length_drop, List.length_take]; rfl)) ?_; (with_reducible refine (spec_LeastWith.calls kj13 _ _ t517 t518 t523 t524 _ ?side1 ?side2 A80.out).mono ?_); (case side1 => repeat (first | exact (Kd.R_reads' HO520.out).2.2 | (with_reducible refine Kd.C_alloc ?_ _) | (with_reducible refine Kd.C_drewN ?_ _) | (with_reducible refine Kd.C_drew ?_))); (case side2 => exact (Kd.R_reads' HO520.out).2.1); rintro e w92 ⟨rfl, hb⟩; refine ⟨_, rfl, ?_⟩; have n0_ := Aside0.mk (Kd.R_below (by (with_reducible repeat (first | apply Kd.R_alloc | apply Kd.R_drewN | apply Kd.R_drew)); exact HO520.out) hb); have n1_ := Aside0.mk (below_step (by repeat (first | (with_reducible first | exact HB.out | apply below_alloc | apply pw_below_drewN | apply below_drew1) | exact HB.out)) hb); clear HO520; clear HB; have HO520 := n0_; have HB := n1_; clear n0_ n1_; (try clear hb); (try clear hb2); (try clear hk); (try clear hi)))
       (try simp only [Act.put, List.setIfInBounds_toArray, List.set_cons_zero, List.set_cons_succ])
       go_cut [332] (fun v332 wc => ∃ (kq : Nat) (x332_80 : Bool), v332 = .bool x332_80 ∧ Aside0 (laws_FnDigitsRearranged.j6 kq t517 t518 t521 t522 x332_80 = some r) ∧ Aside0 (kq ≤ kj13) ∧ Aside0 (Kd.R (Kd.int .i64) 3 wc w.heap.size (fun _ => True) (.slice Ao90 t517.length co90) t517) ∧ Aside0 (Below w.heap.size w wc))
       case first =>
        as_aux_lemma =>
        have H := HC81.out
        clear HC81
        by_cases c93 : (t506 != t508) = true
        ·rw [if_pos c93] at H
         have c93b0 : (t506 != t508) = true := c93
         (try (have c93b1 : decide (t506 = t508) = false := by simpa using c93))
         (try (have c93b2 : (t506 == t508) = false := by simpa using c93))
         (try (have c93b3 : ¬ (t506 = t508) := by simpa using c93))
         clear c93
         (first | rw [c93b0] | (simp only [i64_w, i32_w]; rw [c93b0]) | skip)
         exact (laws_FnDigitsRearranged.j6_no HR_.out _ _ _ _ _ H).elim
        ·rw [if_neg c93] at H
         have c93b0 : (t506 != t508) = false := by simpa using c93
         (try (have c93b1 : decide (t506 = t508) = true := by simpa using c93))
         (try (have c93b2 : (t506 == t508) = true := by simpa using c93))
         clear c93
         (first | rw [c93b0] | (simp only [i64_w, i32_w]; rw [c93b0]) | skip)
         by_cases c94 : t505 = t507
         ·rw [if_pos c94] at H
          have c94b0 : (t505 == t507) = true := beq_iff_eq.mpr c94
          have c94b1 : (t505 != t507) = false := bne_eq_false_iff_eq.mpr c94
          clear c94
          by_cases c95 : (t510 != t512) = true
          ·rw [if_pos c95] at H
           have c95b0 : (t510 != t512) = true := c95
           (try (have c95b1 : decide (t510 = t512) = false := by simpa using c95))
           (try (have c95b2 : (t510 == t512) = false := by simpa using c95))
           (try (have c95b3 : ¬ (t510 = t512) := by simpa using c95))
           clear c95
           exact (laws_FnDigitsRearranged.j6_no HR_.out _ _ _ _ _ H).elim
          ·rw [if_neg c95] at H
           have c95b0 : (t510 != t512) = false := by simpa using c95
           (try (have c95b1 : decide (t510 = t512) = true := by simpa using c95))
           (try (have c95b2 : (t510 == t512) = true := by simpa using c95))
           clear c95
           by_cases c96 : t509 = t511
           ·rw [if_pos c96] at H
            have c96b0 : (t509 == t511) = true := beq_iff_eq.mpr c96
            have c96b1 : (t509 != t511) = false := bne_eq_false_iff_eq.mpr c96
            clear c96
            by_cases c97 : (t514 != t516) = true
            ·rw [if_pos c97] at H
             have c97b0 : (t514 != t516) = true := c97
             (try (have c97b1 : decide (t514 = t516) = false := by simpa using c97))
             (try (have c97b2 : (t514 == t516) = false := by simpa using c97))
             (try (have c97b3 : ¬ (t514 = t516) := by simpa using c97))
             clear c97
             exact (laws_FnDigitsRearranged.j6_no HR_.out _ _ _ _ _ H).elim
            ·rw [if_neg c97] at H
             have c97b0 : (t514 != t516) = false := by simpa using c97
             (try (have c97b1 : decide (t514 = t516) = true := by simpa using c97))
             (try (have c97b2 : (t514 == t516) = true := by simpa using c97))
             clear c97
             by_cases c98 : t513 = t515
             ·rw [if_pos c98] at H
              have c98b0 : (t513 == t515) = true := beq_iff_eq.mpr c98
              have c98b1 : (t513 != t515) = false := bne_eq_false_iff_eq.mpr c98
              clear c98
              by_cases c99 : (t522 != t524) = true
              ·rw [if_pos c99] at H
               have c99b0 : (t522 != t524) = true := c99
               (try (have c99b1 : decide (t522 = t524) = false := by simpa using c99))
               (try (have c99b2 : (t522 == t524) = false := by simpa using c99))
               (try (have c99b3 : ¬ (t522 = t524) := by simpa using c99))
               clear c99
               exact (laws_FnDigitsRearranged.j6_no HR_.out _ _ _ _ _ H).elim
              ·rw [if_neg c99] at H
               have c99b0 : (t522 != t524) = false := by simpa using c99
               (try (have c99b1 : decide (t522 = t524) = true := by simpa using c99))
               (try (have c99b2 : (t522 == t524) = true := by simpa using c99))
               clear c99
               by_cases c100 : t521 = t523
               ·rw [if_pos c100] at H
                have c100b0 : (t521 == t523) = true := beq_iff_eq.mpr c100
                have c100b1 : (t521 != t523) = false := bne_eq_false_iff_eq.mpr c100
                clear c100
                by_cases c101 : t506 = true
                ·subst c101
                 have H1 : (if t505 > t503 then (laws_FnDigitsRearranged.j6 kj13 t517 t518 t521 t522 true) else (if t514 = true then (laws_FnDigitsRearranged.j6 kj13 t517 t518 t521 t522 (decide (t513 < 1))) else (laws_FnDigitsRearranged.j6 kj13 t517 t518 t521 t522 false))) = some r := by rw [if_pos rfl] at H; exact H
                 clear H
                 have H := H1
                 clear H1
                 by_cases c102 : t505 > t503
                 ·rw [if_pos c102] at H
                  have c102b0 : decide (t503 < t505) = true := decide_eq_true c102
                  clear c102
                  exact (laws_FnDigitsRearranged.j6_no HR_.out _ _ _ _ _ H).elim
                 ·rw [if_neg c102] at H
                  have c102b0 : decide (t503 < t505) = false := decide_eq_false c102
                  clear c102
                  by_cases c103 : t514 = true
                  ·subst c103
                   have H1 : (laws_FnDigitsRearranged.j6 kj13 t517 t518 t521 t522 (decide (t513 < 1))) = some r := by rw [if_pos rfl] at H; exact H
                   clear H
                   have H := H1
                   clear H1
                   as_aux_lemma =>
                    have H' := Aside0.mk H
                    clear H
                    go_wp2
                    go_meet
                    case rel => exact ⟨_, (decide (t513 < 1)), (by first | rfl | (simp; done) | (simp [*]; done)), H', ⟨by have := HJ7.out; have := HJ13.out; first | omega | exact Nat.le_refl _⟩, ⟨by (with_reducible repeat (first | apply Kd.R_alloc | apply Kd.R_drewN | apply Kd.R_drew)); exact HO520.out⟩, ⟨by repeat (first | (with_reducible first | exact HB.out | apply below_alloc | apply pw_below_drewN | apply below_drew1) | exact HB.out)⟩⟩
                  ·replace c103 := Bool.eq_false_iff.mpr c103
                   subst c103
                   have H1 : (laws_FnDigitsRearranged.j6 kj13 t517 t518 t521 t522 false) = some r := by rw [if_neg (show ¬ (false = true) by decide)] at H; exact H
                   clear H
                   have H := H1
                   clear H1
                   as_aux_lemma =>
                    have H' := Aside0.mk H
                    clear H
                    go_wp2
                    go_meet
                    case rel => exact ⟨_, (false), (by first | rfl | (simp; done) | (simp [*]; done)), H', ⟨by have := HJ7.out; have := HJ13.out; first | omega | exact Nat.le_refl _⟩, ⟨by (with_reducible repeat (first | apply Kd.R_alloc | apply Kd.R_drewN | apply Kd.R_drew)); exact HO520.out⟩, ⟨by repeat (first | (with_reducible first | exact HB.out | apply below_alloc | apply pw_below_drewN | apply below_drew1) | exact HB.out)⟩⟩
                ·replace c101 := Bool.eq_false_iff.mpr c101
                 subst c101
                 have H1 : (if t514 = true then (laws_FnDigitsRearranged.j6 kj13 t517 t518 t521 t522 (decide (t513 < 1))) else (laws_FnDigitsRearranged.j6 kj13 t517 t518 t521 t522 false)) = some r := by rw [if_neg (show ¬ (false = true) by decide)] at H; exact H
                 clear H
                 have H := H1
                 clear H1
                 by_cases c104 : t514 = true
                 ·subst c104
                  have H1 : (laws_FnDigitsRearranged.j6 kj13 t517 t518 t521 t522 (decide (t513 < 1))) = some r := by rw [if_pos rfl] at H; exact H
                  clear H
                  have H := H1
                  clear H1
                  as_aux_lemma =>
                   have H' := Aside0.mk H
                   clear H
                   go_wp2
                   go_meet
                   case rel => exact ⟨_, (decide (t513 < 1)), (by first | rfl | (simp; done) | (simp [*]; done)), H', ⟨by have := HJ7.out; have := HJ13.out; first | omega | exact Nat.le_refl _⟩, ⟨by (with_reducible repeat (first | apply Kd.R_alloc | apply Kd.R_drewN | apply Kd.R_drew)); exact HO520.out⟩, ⟨by repeat (first | (with_reducible first | exact HB.out | apply below_alloc | apply pw_below_drewN | apply below_drew1) | exact HB.out)⟩⟩
                 ·replace c104 := Bool.eq_false_iff.mpr c104
                  subst c104
                  have H1 : (laws_FnDigitsRearranged.j6 kj13 t517 t518 t521 t522 false) = some r := by rw [if_neg (show ¬ (false = true) by decide)] at H; exact H
                  clear H
                  have H := H1
                  clear H1
                  as_aux_lemma =>
                   have H' := Aside0.mk H
                   clear H
                   go_wp2
                   go_meet
                   case rel => exact ⟨_, (false), (by first | rfl | (simp; done) | (simp [*]; done)), H', ⟨by have := HJ7.out; have := HJ13.out; first | omega | exact Nat.le_refl _⟩, ⟨by (with_reducible repeat (first | apply Kd.R_alloc | apply Kd.R_drewN | apply Kd.R_drew)); exact HO520.out⟩, ⟨by repeat (first | (with_reducible first | exact HB.out | apply below_alloc | apply pw_below_drewN | apply below_drew1) | exact HB.out)⟩⟩
               ·rw [if_neg c100] at H
                have c100b0 : (t521 == t523) = false := beq_eq_false_iff_ne.mpr c100
                have c100b1 : (t521 != t523) = true := bne_iff_ne.mpr c100
                exact (laws_FnDigitsRearranged.j6_no HR_.out _ _ _ _ _ H).elim
             ·rw [if_neg c98] at H
              have c98b0 : (t513 == t515) = false := beq_eq_false_iff_ne.mpr c98
              have c98b1 : (t513 != t515) = true := bne_iff_ne.mpr c98
              exact (laws_FnDigitsRearranged.j6_no HR_.out _ _ _ _ _ H).elim
           ·rw [if_neg c96] at H
            have c96b0 : (t509 == t511) = false := beq_eq_false_iff_ne.mpr c96
            have c96b1 : (t509 != t511) = true := bne_iff_ne.mpr c96
            exact (laws_FnDigitsRearranged.j6_no HR_.out _ _ _ _ _ H).elim
         ·rw [if_neg c94] at H
          have c94b0 : (t505 == t507) = false := beq_eq_false_iff_ne.mpr c94
          have c94b1 : (t505 != t507) = true := bne_iff_ne.mpr c94
          exact (laws_FnDigitsRearranged.j6_no HR_.out _ _ _ _ _ H).elim
       case rest =>
        as_aux_lemma =>
        clear HC81
        try clear c1
        try clear c2
        try clear p2
        try clear c3
        try clear c4
        try clear c5
        try clear c6
        try clear p6
        try clear c7
        try clear c8
        try clear c9
        try clear c10
        try clear c11
        try clear c12
        try clear c12b0
        try clear c12b1
        try clear c12b2
        try clear c13
        try clear c14
        try clear c15
        try clear c16
        try clear c17
        try clear c18
        try clear c28
        try clear c29
        try clear c30
        try clear c30b0
        try clear c30b1
        try clear c30b2
        try clear c31
        try clear c32
        try clear c33
        try clear c33b0
        try clear c34
        try clear c35
        try clear c36
        try clear c37
        try clear c38
        try clear c38b0
        try clear c39
        try clear c40
        try clear c41
        try clear c42
        try clear c43
        try clear c43b0
        try clear c44
        try clear c45
        try clear c46
        try clear c48
        try clear c51
        try clear c52
        try clear c53
        try clear c53b0
        try clear c53b1
        try clear c54
        try clear c54b0
        try clear c58
        try clear c58b0
        try clear c59
        try clear c62
        try clear c62b0
        try clear c64
        try clear p64
        try clear c65
        try clear c69
        try clear c70
        try clear c70b0
        try clear c70b1
        try clear c93
        try clear c93b0
        try clear c93b1
        try clear c93b2
        try clear c94
        try clear c94b0
        try clear c94b1
        try clear c95
        try clear c95b0
        try clear c95b1
        try clear c95b2
        try clear c96
        try clear c96b0
        try clear c96b1
        try clear c97
        try clear c97b0
        try clear c97b1
        try clear c97b2
        try clear c98
        try clear c98b0
        try clear c98b1
        try clear c99
        try clear c99b0
        try clear c99b1
        try clear c99b2
        try clear c100
        try clear c100b0
        try clear c100b1
        try clear c101
        try clear c102
        try clear c102b0
        try clear c103
        try clear c104
        try clear p2
        try clear p6
        try clear p64
        obtain ⟨kq, x332_80, rfl, HA, HJ80, HO_46, HB⟩ := hcut
        cases kq with
        | zero => exact absurd HA.out (by simp [laws_FnDigitsRearranged.j6])
        | succ kj80 =>
         have H := HA.out
         clear HA
         simp only [laws_FnDigitsRearranged.j6] at H
         by_cases c105 : x332_80 = true
         ·subst c105
          have H1 : (some false) = some r := by rw [if_pos rfl] at H; exact H
          clear H
          have H := H1
          clear H1
          exact absurd (Option.some.inj H) (by rw [HR_.out]; decide)
         ·replace c105 := Bool.eq_false_iff.mpr c105
          subst c105
          have H1 : (if t522 = true then ((impl_DigitCounts.f kj80 t521 t518).bind fun bt525 => (if bt525.2 = true then ((laws_rSame.f kj80 bt525.1 t517).bind fun t529 => (some t529)) else (some false))) else (some true)) = some r := by rw [if_neg (show ¬ (false = true) by decide)] at H; exact H
          clear H
          have H := H1
          clear H1
          by_cases c106 : t522 = true
          ·subst c106
           have H1 : ((impl_DigitCounts.f kj80 t521 t518).bind fun bt525 => (if bt525.2 = true then ((laws_rSame.f kj80 bt525.1 t517).bind fun t529 => (some t529)) else (some false))) = some r := by rw [if_pos rfl] at H; exact H
           clear H
           have H := H1
           clear H1
           replace H := Option.bind_eq_some_iff.mp H
           obtain ⟨⟨t525, t526⟩, A1070, H⟩ := H
           replace H : (if t526 = true then ((laws_rSame.f kj80 t525 t517).bind fun t529 => (some t529)) else (some false)) = some r := H
           have A107 := Aside0.mk A1070
           clear A1070
           by_cases c108 : t526 = true
           ·subst c108
            have H1 : ((laws_rSame.f kj80 t525 t517).bind fun t529 => (some t529)) = some r := by rw [if_pos rfl] at H; exact H
            clear H
            have H := H1
            clear H1
            replace H := Option.bind_eq_some_iff.mp H
            obtain ⟨t529, A1090, H⟩ := H
            replace H : (some t529) = some r := H
            have A109 := Aside0.mk A1090
            clear A1090
            as_aux_lemma =>
             obtain rfl := Option.some.inj H
             go_wp2_with (first | ((with_reducible refine gate_callee (f := 9) rfl ?_); refine goesL_ (some 337) rfl rfl Try.func9 (by kernel_rfl) rfl #[.int .i64 t521, .int .i64 t518] rfl (by (try simp only [List.map_toArray, List.map_cons, List.map_nil]); first | done | rfl | (simp only [List.length_drop, List.length_take]; rfl)) ?_; (with_reducible refine (impl_DigitCounts.calls kj80 t521 t518 t525 true _ A107.out).mono ?_); rintro e w110 ⟨v527, rfl, ho0, hb⟩; refine ⟨_, rfl, ?_⟩; have n0_ := Aside0.mk (Kd.R_elder' (by (with_reducible repeat (first | apply Kd.R_alloc | apply Kd.R_drewN | apply Kd.R_drew)); exact HO_46.out) (Kd.R_base ho0) hb); have n1_ := Aside0.mk (Kd.R_lower (Kd.R_new' ho0 (Kd.R_lt (by (with_reducible repeat (first | apply Kd.R_alloc | apply Kd.R_drewN | apply Kd.R_drew)); exact HO_46.out))) (below_size (by repeat (first | (with_reducible first | exact HB.out | apply below_alloc | apply pw_below_drewN | apply below_drew1) | exact HB.out)))); have n2_ := Aside0.mk (below_step (by repeat (first | (with_reducible first | exact HB.out | apply below_alloc | apply pw_below_drewN | apply below_drew1) | exact HB.out)) hb); clear HO_46; clear HB; have HO_46 := n0_; have HO528 := n1_; have HB := n2_; clear n0_ n1_ n2_; (try clear hb); (try clear hb2); (try clear hk); (try clear hi); (try clear ho0); obtain ⟨Ao111, co111, eo111⟩ := Kd.R_slice HO528.out; subst eo111) | (go_at_call 19; (with_reducible refine (laws_rSame.calls kj80 _ _ t525 _ _ t517 t529 _ ?side1 ?side2 ?side3 ?side4 A109.out).mono ?_); (case side1 => repeat (first | exact (Kd.R_reads' HO528.out).2.2 | (with_reducible refine Kd.C_alloc ?_ _) | (with_reducible refine Kd.C_drewN ?_ _) | (with_reducible refine Kd.C_drew ?_))); (case side2 => exact (Kd.R_reads' HO528.out).2.1); (case side3 => repeat (first | exact (Kd.R_reads' HO_46.out).2.2 | (with_reducible refine Kd.C_alloc ?_ _) | (with_reducible refine Kd.C_drewN ?_ _) | (with_reducible refine Kd.C_drew ?_))); (case side4 => exact (Kd.R_reads' HO_46.out).2.1); rintro e w' ⟨rfl, ⟨nd, rfl⟩⟩))
             go_ret
             exact ⟨by first | rfl | (simp [errW_none, errW_some] <;> rfl) | (simp [*, errW_none, errW_some] <;> rfl), by repeat (first | (with_reducible first | exact HB.out | apply below_alloc | apply pw_below_drewN | apply below_drew1) | exact HB.out)⟩
           ·replace c108 := Bool.eq_false_iff.mpr c108
            subst c108
            have H1 : (some false) = some r := by rw [if_neg (show ¬ (false = true) by decide)] at H; exact H
            clear H
            have H := H1
            clear H1
            exact absurd (Option.some.inj H) (by rw [HR_.out]; decide)
          ·replace c106 := Bool.eq_false_iff.mpr c106
           subst c106
           have H1 : (some true) = some r := by rw [if_neg (show ¬ (false = true) by decide)] at H; exact H
           clear H
           have H := H1
           clear H1
           as_aux_lemma =>
            obtain rfl := Option.some.inj H
            go_wp2
            go_ret
            exact ⟨by first | rfl | (simp [errW_none, errW_some] <;> rfl) | (simp [*, errW_none, errW_some] <;> rfl), by repeat (first | (with_reducible first | exact HB.out | apply below_alloc | apply pw_below_drewN | apply below_drew1) | exact HB.out)⟩

/-- THE ONE PURE STATEMENT of laws_FnDigitsRearranged: yours. -/
def laws_FnDigitsRearranged.Pure : Prop := ∀ (l0 : List Int) (l1 : List Int), l0.length ≤ maxLen → l0.length * 1 ≤ 140737488351232 → (∀ x ∈ l0, (Lit.int .u8 x).wf = true) → l1.length ≤ maxLen → l1.length * 1 ≤ 140737488351232 → (∀ x ∈ l1, (Lit.int .u8 x).wf = true) → ∃ k, laws_FnDigitsRearranged.f k l0 l1 = some true
theorem laws_FnDigitsRearranged.walk (P : laws_FnDigitsRearranged.Pure) (a0 : Option Addr) (len0 cap0 : Nat) (z0 : List Int) (a1 : Option Addr) (len1 cap1 : Nat) (z1 : List Int) (w : World) (w0 : (a0 = none ∧ len0 = 0 ∧ cap0 = 0 ∧ z0 = []) ∨ ∃ x, a0 = some x ∧ len0 ≤ cap0 ∧ cap0 ≤ maxLen ∧ z0.length = cap0 ∧ (∀ i, i < z0.length → w.cell? (x.add i) = some (.int .u8 (z0.getD i 0))) ∧ ∀ n ∈ z0, (Lit.int .u8 n).wf = true) (y0 : len0 * 1 ≤ 140737488351232) (w1 : (a1 = none ∧ len1 = 0 ∧ cap1 = 0 ∧ z1 = []) ∨ ∃ x, a1 = some x ∧ len1 ≤ cap1 ∧ cap1 ≤ maxLen ∧ z1.length = cap1 ∧ (∀ i, i < z1.length → w.cell? (x.add i) = some (.int .u8 (z1.getD i 0))) ∧ ∀ n ∈ z1, (Lit.int .u8 n).wf = true) (y1 : len1 * 1 ≤ 140737488351232) :
  Calls Try.prog 3 #[.slice a0 len0 cap0, .slice a1 len1 cap1] w fun e w' => e = .returned (.bool true) ∧ Below w.heap.size w w' := by
 obtain ⟨l0, rfl, hr0, hm0, hw0, hc0⟩ := ReadsInt.ofRowC w0
 obtain ⟨l1, rfl, hr1, hm1, hw1, hc1⟩ := ReadsInt.ofRowC w1
 obtain ⟨k, h⟩ := P l0 l1 hm0 y0 hw0 hm1 y1 hw1
 refine (laws_FnDigitsRearranged.calls k _ _ l0 _ _ l1 true w (Kd.C_of_reads (d := (0 : Int)) (h1 := fun _ => rfl) hr0) hc0 (Kd.C_of_reads (d := (0 : Int)) (h1 := fun _ => rfl) hr1) hc1 h rfl).mono ?_
 rintro e w' ⟨rfl, hd⟩
 exact ⟨rfl, hd⟩

end Go.Proofs.Ytpgplcckgabdjaa.PFnDigitsRearranged
