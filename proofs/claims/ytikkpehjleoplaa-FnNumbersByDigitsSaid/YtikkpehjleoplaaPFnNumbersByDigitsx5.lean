-- out of the kit's print, turned by wip/own_print.py
import Derived.Test.YtikkpehjleoplaaPFnNumbersByDigitsx0
import Derived.Test.YtikkpehjleoplaaPFnNumbersByDigitsx1
import Derived.Test.YtikkpehjleoplaaPFnNumbersByDigitsx2
import Derived.Test.YtikkpehjleoplaaPFnNumbersByDigitsx3
import Derived.Test.YtikkpehjleoplaaPFnNumbersByDigitsx4
namespace Go.Proofs.Ytikkpehjleoplaa.PFnNumbersByDigits
open Go.RowKit Go.Proofs.YtikkpehjleoplaaW.PrintWords Go.Proofs.YtikkpehjleoplaaW.PrintLast Go.Proofs.YtikkpehjleoplaaW.PrintMore
attribute [local go_sem] max2_int min2_int max_two min_two max_three min_three max_four min_four   -- for this text's walks alone
set_option linter.unusedVariables false
set_option linter.unusedSimpArgs false

/-! ### laws_FnNumbersByDigits: function 7 -/
mutual
def laws_FnNumbersByDigits.j0 : Nat → List Int → Int → Int → Int → Bool → Bool → Bool → Bool → Bool → Option (Bool)
  | 0, _, _, _, _, _, _, _, _, _ => none
  | k + 1, x1, x5, x6, x7, x8, x11, x12, x15, x125 => if x125 = true then (some false) else (if x8 = true then ((impl_IsHarshad.f k x7 x6).bind fun bt286 => (if bt286.2 = true then (if bt286.1 = true then (laws_FnNumbersByDigits.j1 k x1 x5 x6 x7 x11 x12 x15 (decide (x7 ≤ x5))) else (laws_FnNumbersByDigits.j1 k x1 x5 x6 x7 x11 x12 x15 true)) else (laws_FnNumbersByDigits.j1 k x1 x5 x6 x7 x11 x12 x15 true))) else (laws_FnNumbersByDigits.j3 k x1 x5 x6 x11 x12 x15))
def laws_FnNumbersByDigits.j3 : Nat → List Int → Int → Int → Bool → Bool → Bool → Option (Bool)
  | 0, _, _, _, _, _, _ => none
  | k + 1, x1, x5, x6, x11, x12, x15 => if x12 = true then (laws_FnNumbersByDigits.j4 k x1 x5 x6 x11 x15 (decide (x5 > 0))) else (laws_FnNumbersByDigits.j4 k x1 x5 x6 x11 x15 false)
def laws_FnNumbersByDigits.j4 : Nat → List Int → Int → Int → Bool → Bool → Bool → Option (Bool)
  | 0, _, _, _, _, _, _ => none
  | k + 1, x1, x5, x6, x11, x15, x166 => if x166 = true then ((impl_DigitSum.f k x5 x6).bind fun bt290 => ((impl_DigitProduct.f k x5 x6).bind fun bt292 => (if bt290.2 = true then (if bt292.2 = true then (if bt290.1 = 0 then (none) else (if (x11 != ((Int.tmod x5 bt290.1) == 0)) = true then (some false) else (if bt292.1 > 0 then (if bt292.1 = 0 then (none) else (if (x15 != ((Int.tmod x5 bt292.1) == 0)) = true then (some false) else (laws_FnNumbersByDigits.j5 k x1))) else (if (x15 != false) = true then (some false) else (laws_FnNumbersByDigits.j5 k x1))))) else (some false)) else (some false)))) else (laws_FnNumbersByDigits.j5 k x1)
def laws_FnNumbersByDigits.j5 : Nat → List Int → Option (Bool)
  | 0, _ => none
  | k + 1, x1 => (spec_DrawSumProductNumbers.f x1).bind fun bt294 => ((impl_SumProductNumbers.f k bt294.1 bt294.2).bind fun bt296 => ((spec_SumProductNumbers.f k bt294.1 bt294.2).bind fun bt300 => (if (bt296.2 != bt300.2) = true then (laws_FnNumbersByDigits.j6 k bt294.1 bt296.1 true) else ((laws_qSame.f k bt296.1 bt300.1).bind fun t304 => (laws_FnNumbersByDigits.j6 k bt294.1 bt296.1 (!t304))))))
def laws_FnNumbersByDigits.j6 : Nat → Int → List Int → Bool → Option (Bool)
  | 0, _, _, _ => none
  | k + 1, x28, x30, x230 => if x230 = true then (some false) else (laws_FnNumbersByDigits.l1 k x28 x30 x30 (x30.length : Int) 0)
def laws_FnNumbersByDigits.l1 : Nat → Int → List Int → List Int → Int → Int → Option (Bool)
  | 0, _, _, _, _, _ => none
  | k + 1, x28, x30, x231, x232, x233 => if x233 < x232 then (if 0 ≤ x233 then (if x233 < (x231.length : Int) then ((impl_DigitSum.f k (rd x231 x233) x28).bind fun bt306 => ((impl_DigitProduct.f k (rd x231 x233) x28).bind fun bt308 => ((impl_IsHarshad.f k (rd x231 x233) x28).bind fun bt310 => (if bt306.2 = true then (if bt308.2 = true then (if bt310.2 = true then (if (wrap64 (bt306.1 * bt308.1)) = (rd x231 x233) then (if bt310.1 = true then (if x233 > 0 then (if 0 ≤ (wrap64 (x233 - 1)) then (if (wrap64 (x233 - 1)) < (x30.length : Int) then (if (rd x30 (wrap64 (x233 - 1))) ≥ (rd x231 x233) then (some false) else (laws_FnNumbersByDigits.l1 k x28 x30 x231 x232 (wrap64 (x233 + 1)))) else (none)) else (none)) else (laws_FnNumbersByDigits.l1 k x28 x30 x231 x232 (wrap64 (x233 + 1)))) else (some false)) else (some false)) else (some false)) else (some false)) else (some false))))) else (none)) else (none)) else (some true)
def laws_FnNumbersByDigits.j1 : Nat → List Int → Int → Int → Int → Bool → Bool → Bool → Bool → Option (Bool)
  | 0, _, _, _, _, _, _, _, _ => none
  | k + 1, x1, x5, x6, x7, x11, x12, x15, x143 => if x143 = true then (some false) else (laws_FnNumbersByDigits.l0 k x1 x5 x6 x7 x11 x12 x15 (wrap64 (x5 + 1)))
def laws_FnNumbersByDigits.l0 : Nat → List Int → Int → Int → Int → Bool → Bool → Bool → Int → Option (Bool)
  | 0, _, _, _, _, _, _, _, _ => none
  | k + 1, x1, x5, x6, x7, x11, x12, x15, x21 => if x21 < x7 then ((impl_IsHarshad.f k x21 x6).bind fun bt288 => (if bt288.2 = true then (if bt288.1 = true then (some false) else (laws_FnNumbersByDigits.l0 k x1 x5 x6 x7 x11 x12 x15 (wrap64 (x21 + 1)))) else (some false))) else (laws_FnNumbersByDigits.j3 k x1 x5 x6 x11 x12 x15)
end
def laws_FnNumbersByDigits.f (k : Nat) (l0 : List Int) (l1 : List Int) : Option (Bool) := (laws_big.f l0 l1).bind fun t271 => (if t271 = true then (some true) else ((spec_DrawNextHarshad.f k l0).bind fun bt272 => ((impl_NextHarshad.f k bt272.1 bt272.2).bind fun bt274 => ((spec_NextHarshad.f k bt272.1 bt272.2).bind fun bt276 => ((impl_IsHarshad.f k bt272.1 bt272.2).bind fun bt278 => ((spec_IsHarshad.f k bt272.1 bt272.2).bind fun bt280 => ((impl_IsZuckerman.f k bt272.1 bt272.2).bind fun bt282 => ((spec_IsZuckerman.f k bt272.1 bt272.2).bind fun bt284 => (if (bt274.2 != bt276.2) = true then (laws_FnNumbersByDigits.j0 k l1 bt272.1 bt272.2 bt274.1 bt274.2 bt278.1 bt278.2 bt282.1 true) else (if bt274.1 = bt276.1 then (if (bt278.2 != bt280.2) = true then (laws_FnNumbersByDigits.j0 k l1 bt272.1 bt272.2 bt274.1 bt274.2 bt278.1 bt278.2 bt282.1 true) else (if (bt278.1 != bt280.1) = true then (laws_FnNumbersByDigits.j0 k l1 bt272.1 bt272.2 bt274.1 bt274.2 bt278.1 bt278.2 bt282.1 true) else (if (bt282.2 != bt284.2) = true then (laws_FnNumbersByDigits.j0 k l1 bt272.1 bt272.2 bt274.1 bt274.2 bt278.1 bt278.2 bt282.1 true) else (if (bt282.1 != bt284.1) = true then (laws_FnNumbersByDigits.j0 k l1 bt272.1 bt272.2 bt274.1 bt274.2 bt278.1 bt278.2 bt282.1 true) else (if (bt282.2 != bt278.2) = true then (laws_FnNumbersByDigits.j0 k l1 bt272.1 bt272.2 bt274.1 bt274.2 bt278.1 bt278.2 bt282.1 true) else (if bt274.2 = true then (laws_FnNumbersByDigits.j0 k l1 bt272.1 bt272.2 bt274.1 bt274.2 bt278.1 bt278.2 bt282.1 (!bt278.2)) else (laws_FnNumbersByDigits.j0 k l1 bt272.1 bt272.2 bt274.1 bt274.2 bt278.1 bt278.2 bt282.1 false))))))) else (laws_FnNumbersByDigits.j0 k l1 bt272.1 bt272.2 bt274.1 bt274.2 bt278.1 bt278.2 bt282.1 true)))))))))))
theorem laws_FnNumbersByDigits.mono_l : ∀ k, (∀ y0 y1 y2 y3 y4 y5 y6 y7 y8, LeO (laws_FnNumbersByDigits.j0 k y0 y1 y2 y3 y4 y5 y6 y7 y8) (laws_FnNumbersByDigits.j0 (k + 1) y0 y1 y2 y3 y4 y5 y6 y7 y8)) ∧ (∀ y0 y1 y2 y3 y4 y5, LeO (laws_FnNumbersByDigits.j3 k y0 y1 y2 y3 y4 y5) (laws_FnNumbersByDigits.j3 (k + 1) y0 y1 y2 y3 y4 y5)) ∧ (∀ y0 y1 y2 y3 y4 y5, LeO (laws_FnNumbersByDigits.j4 k y0 y1 y2 y3 y4 y5) (laws_FnNumbersByDigits.j4 (k + 1) y0 y1 y2 y3 y4 y5)) ∧ (∀ y0, LeO (laws_FnNumbersByDigits.j5 k y0) (laws_FnNumbersByDigits.j5 (k + 1) y0)) ∧ (∀ y0 y1 y2, LeO (laws_FnNumbersByDigits.j6 k y0 y1 y2) (laws_FnNumbersByDigits.j6 (k + 1) y0 y1 y2)) ∧ (∀ y0 y1 y2 y3 y4, LeO (laws_FnNumbersByDigits.l1 k y0 y1 y2 y3 y4) (laws_FnNumbersByDigits.l1 (k + 1) y0 y1 y2 y3 y4)) ∧ (∀ y0 y1 y2 y3 y4 y5 y6 y7, LeO (laws_FnNumbersByDigits.j1 k y0 y1 y2 y3 y4 y5 y6 y7) (laws_FnNumbersByDigits.j1 (k + 1) y0 y1 y2 y3 y4 y5 y6 y7)) ∧ (∀ y0 y1 y2 y3 y4 y5 y6 y7, LeO (laws_FnNumbersByDigits.l0 k y0 y1 y2 y3 y4 y5 y6 y7) (laws_FnNumbersByDigits.l0 (k + 1) y0 y1 y2 y3 y4 y5 y6 y7))
  | 0 => ⟨fun _ _ _ _ _ _ _ _ _ r h => by simp [laws_FnNumbersByDigits.j0] at h, fun _ _ _ _ _ _ r h => by simp [laws_FnNumbersByDigits.j3] at h, fun _ _ _ _ _ _ r h => by simp [laws_FnNumbersByDigits.j4] at h, fun _ r h => by simp [laws_FnNumbersByDigits.j5] at h, fun _ _ _ r h => by simp [laws_FnNumbersByDigits.j6] at h, fun _ _ _ _ _ r h => by simp [laws_FnNumbersByDigits.l1] at h, fun _ _ _ _ _ _ _ _ r h => by simp [laws_FnNumbersByDigits.j1] at h, fun _ _ _ _ _ _ _ _ r h => by simp [laws_FnNumbersByDigits.l0] at h⟩
  | k + 1 => by
    obtain ⟨ih0, ih1, ih2, ih3, ih4, ih5, ih6, ih7⟩ := laws_FnNumbersByDigits.mono_l k
    refine ⟨?_, ?_, ?_, ?_, ?_, ?_, ?_, ?_⟩
    · intro y0 y1 y2 y3 y4 y5 y6 y7 y8
      unfold laws_FnNumbersByDigits.j0
      repeat' first
      | (with_reducible exact ih0 _ _ _ _ _ _ _ _ _)
      | (with_reducible exact ih1 _ _ _ _ _ _)
      | (with_reducible exact ih2 _ _ _ _ _ _)
      | (with_reducible exact ih3 _)
      | (with_reducible exact ih4 _ _ _)
      | (with_reducible exact ih5 _ _ _ _ _)
      | (with_reducible exact ih6 _ _ _ _ _ _ _ _)
      | (with_reducible exact ih7 _ _ _ _ _ _ _ _)
      | (with_reducible exact impl_DigitProduct.mono _ _ _)
      | (with_reducible exact impl_DigitSum.mono _ _ _)
      | (with_reducible exact impl_IsHarshad.mono _ _ _)
      | (with_reducible exact impl_IsZuckerman.mono _ _ _)
      | (with_reducible exact impl_NextHarshad.mono _ _ _)
      | (with_reducible exact impl_SumProductNumbers.mono _ _ _)
      | (with_reducible exact laws_qSame.mono _ _ _)
      | (with_reducible exact spec_DrawNextHarshad.mono _ _)
      | (with_reducible exact spec_IsHarshad.mono _ _ _)
      | (with_reducible exact spec_IsZuckerman.mono _ _ _)
      | (with_reducible exact spec_NextHarshad.mono _ _ _)
      | (with_reducible exact spec_SumProductNumbers.mono _ _ _)
      | (with_reducible exact LeO.refl _)
      | (with_reducible exact LeO.none _)
      | (with_reducible refine LeO.ite ?_ ?_)
      | (with_reducible refine LeO.bind ?_ (fun _ => ?_))
      | exact ih0 _ _ _ _ _ _ _ _ _
      | exact ih1 _ _ _ _ _ _
      | exact ih2 _ _ _ _ _ _
      | exact ih3 _
      | exact ih4 _ _ _
      | exact ih5 _ _ _ _ _
      | exact ih6 _ _ _ _ _ _ _ _
      | exact ih7 _ _ _ _ _ _ _ _
      | exact impl_DigitProduct.mono _ _ _
      | exact impl_DigitSum.mono _ _ _
      | exact impl_IsHarshad.mono _ _ _
      | exact impl_IsZuckerman.mono _ _ _
      | exact impl_NextHarshad.mono _ _ _
      | exact impl_SumProductNumbers.mono _ _ _
      | exact laws_qSame.mono _ _ _
      | exact spec_DrawNextHarshad.mono _ _
      | exact spec_IsHarshad.mono _ _ _
      | exact spec_IsZuckerman.mono _ _ _
      | exact spec_NextHarshad.mono _ _ _
      | exact spec_SumProductNumbers.mono _ _ _
      | exact LeO.none _
      | refine LeO.ite ?_ ?_
      | refine LeO.bind ?_ (fun _ => ?_)
    · intro y0 y1 y2 y3 y4 y5
      unfold laws_FnNumbersByDigits.j3
      repeat' first
      | (with_reducible exact ih0 _ _ _ _ _ _ _ _ _)
      | (with_reducible exact ih1 _ _ _ _ _ _)
      | (with_reducible exact ih2 _ _ _ _ _ _)
      | (with_reducible exact ih3 _)
      | (with_reducible exact ih4 _ _ _)
      | (with_reducible exact ih5 _ _ _ _ _)
      | (with_reducible exact ih6 _ _ _ _ _ _ _ _)
      | (with_reducible exact ih7 _ _ _ _ _ _ _ _)
      | (with_reducible exact impl_DigitProduct.mono _ _ _)
      | (with_reducible exact impl_DigitSum.mono _ _ _)
      | (with_reducible exact impl_IsHarshad.mono _ _ _)
      | (with_reducible exact impl_IsZuckerman.mono _ _ _)
      | (with_reducible exact impl_NextHarshad.mono _ _ _)
      | (with_reducible exact impl_SumProductNumbers.mono _ _ _)
      | (with_reducible exact laws_qSame.mono _ _ _)
      | (with_reducible exact spec_DrawNextHarshad.mono _ _)
      | (with_reducible exact spec_IsHarshad.mono _ _ _)
      | (with_reducible exact spec_IsZuckerman.mono _ _ _)
      | (with_reducible exact spec_NextHarshad.mono _ _ _)
      | (with_reducible exact spec_SumProductNumbers.mono _ _ _)
      | (with_reducible exact LeO.refl _)
      | (with_reducible exact LeO.none _)
      | (with_reducible refine LeO.ite ?_ ?_)
      | (with_reducible refine LeO.bind ?_ (fun _ => ?_))
      | exact ih0 _ _ _ _ _ _ _ _ _
      | exact ih1 _ _ _ _ _ _
      | exact ih2 _ _ _ _ _ _
      | exact ih3 _
      | exact ih4 _ _ _
      | exact ih5 _ _ _ _ _
      | exact ih6 _ _ _ _ _ _ _ _
      | exact ih7 _ _ _ _ _ _ _ _
      | exact impl_DigitProduct.mono _ _ _
      | exact impl_DigitSum.mono _ _ _
      | exact impl_IsHarshad.mono _ _ _
      | exact impl_IsZuckerman.mono _ _ _
      | exact impl_NextHarshad.mono _ _ _
      | exact impl_SumProductNumbers.mono _ _ _
      | exact laws_qSame.mono _ _ _
      | exact spec_DrawNextHarshad.mono _ _
      | exact spec_IsHarshad.mono _ _ _
      | exact spec_IsZuckerman.mono _ _ _
      | exact spec_NextHarshad.mono _ _ _
      | exact spec_SumProductNumbers.mono _ _ _
      | exact LeO.none _
      | refine LeO.ite ?_ ?_
      | refine LeO.bind ?_ (fun _ => ?_)
    · intro y0 y1 y2 y3 y4 y5
      unfold laws_FnNumbersByDigits.j4
      repeat' first
      | (with_reducible exact ih0 _ _ _ _ _ _ _ _ _)
      | (with_reducible exact ih1 _ _ _ _ _ _)
      | (with_reducible exact ih2 _ _ _ _ _ _)
      | (with_reducible exact ih3 _)
      | (with_reducible exact ih4 _ _ _)
      | (with_reducible exact ih5 _ _ _ _ _)
      | (with_reducible exact ih6 _ _ _ _ _ _ _ _)
      | (with_reducible exact ih7 _ _ _ _ _ _ _ _)
      | (with_reducible exact impl_DigitProduct.mono _ _ _)
      | (with_reducible exact impl_DigitSum.mono _ _ _)
      | (with_reducible exact impl_IsHarshad.mono _ _ _)
      | (with_reducible exact impl_IsZuckerman.mono _ _ _)
      | (with_reducible exact impl_NextHarshad.mono _ _ _)
      | (with_reducible exact impl_SumProductNumbers.mono _ _ _)
      | (with_reducible exact laws_qSame.mono _ _ _)
      | (with_reducible exact spec_DrawNextHarshad.mono _ _)
      | (with_reducible exact spec_IsHarshad.mono _ _ _)
      | (with_reducible exact spec_IsZuckerman.mono _ _ _)
      | (with_reducible exact spec_NextHarshad.mono _ _ _)
      | (with_reducible exact spec_SumProductNumbers.mono _ _ _)
      | (with_reducible exact LeO.refl _)
      | (with_reducible exact LeO.none _)
      | (with_reducible refine LeO.ite ?_ ?_)
      | (with_reducible refine LeO.bind ?_ (fun _ => ?_))
      | exact ih0 _ _ _ _ _ _ _ _ _
      | exact ih1 _ _ _ _ _ _
      | exact ih2 _ _ _ _ _ _
      | exact ih3 _
      | exact ih4 _ _ _
      | exact ih5 _ _ _ _ _
      | exact ih6 _ _ _ _ _ _ _ _
      | exact ih7 _ _ _ _ _ _ _ _
      | exact impl_DigitProduct.mono _ _ _
      | exact impl_DigitSum.mono _ _ _
      | exact impl_IsHarshad.mono _ _ _
      | exact impl_IsZuckerman.mono _ _ _
      | exact impl_NextHarshad.mono _ _ _
      | exact impl_SumProductNumbers.mono _ _ _
      | exact laws_qSame.mono _ _ _
      | exact spec_DrawNextHarshad.mono _ _
      | exact spec_IsHarshad.mono _ _ _
      | exact spec_IsZuckerman.mono _ _ _
      | exact spec_NextHarshad.mono _ _ _
      | exact spec_SumProductNumbers.mono _ _ _
      | exact LeO.none _
      | refine LeO.ite ?_ ?_
      | refine LeO.bind ?_ (fun _ => ?_)
    · intro y0
      unfold laws_FnNumbersByDigits.j5
      repeat' first
      | (with_reducible exact ih0 _ _ _ _ _ _ _ _ _)
      | (with_reducible exact ih1 _ _ _ _ _ _)
      | (with_reducible exact ih2 _ _ _ _ _ _)
      | (with_reducible exact ih3 _)
      | (with_reducible exact ih4 _ _ _)
      | (with_reducible exact ih5 _ _ _ _ _)
      | (with_reducible exact ih6 _ _ _ _ _ _ _ _)
      | (with_reducible exact ih7 _ _ _ _ _ _ _ _)
      | (with_reducible exact impl_DigitProduct.mono _ _ _)
      | (with_reducible exact impl_DigitSum.mono _ _ _)
      | (with_reducible exact impl_IsHarshad.mono _ _ _)
      | (with_reducible exact impl_IsZuckerman.mono _ _ _)
      | (with_reducible exact impl_NextHarshad.mono _ _ _)
      | (with_reducible exact impl_SumProductNumbers.mono _ _ _)
      | (with_reducible exact laws_qSame.mono _ _ _)
      | (with_reducible exact spec_DrawNextHarshad.mono _ _)
      | (with_reducible exact spec_IsHarshad.mono _ _ _)
      | (with_reducible exact spec_IsZuckerman.mono _ _ _)
      | (with_reducible exact spec_NextHarshad.mono _ _ _)
      | (with_reducible exact spec_SumProductNumbers.mono _ _ _)
      | (with_reducible exact LeO.refl _)
      | (with_reducible exact LeO.none _)
      | (with_reducible refine LeO.ite ?_ ?_)
      | (with_reducible refine LeO.bind ?_ (fun _ => ?_))
      | exact ih0 _ _ _ _ _ _ _ _ _
      | exact ih1 _ _ _ _ _ _
      | exact ih2 _ _ _ _ _ _
      | exact ih3 _
      | exact ih4 _ _ _
      | exact ih5 _ _ _ _ _
      | exact ih6 _ _ _ _ _ _ _ _
      | exact ih7 _ _ _ _ _ _ _ _
      | exact impl_DigitProduct.mono _ _ _
      | exact impl_DigitSum.mono _ _ _
      | exact impl_IsHarshad.mono _ _ _
      | exact impl_IsZuckerman.mono _ _ _
      | exact impl_NextHarshad.mono _ _ _
      | exact impl_SumProductNumbers.mono _ _ _
      | exact laws_qSame.mono _ _ _
      | exact spec_DrawNextHarshad.mono _ _
      | exact spec_IsHarshad.mono _ _ _
      | exact spec_IsZuckerman.mono _ _ _
      | exact spec_NextHarshad.mono _ _ _
      | exact spec_SumProductNumbers.mono _ _ _
      | exact LeO.none _
      | refine LeO.ite ?_ ?_
      | refine LeO.bind ?_ (fun _ => ?_)
    · intro y0 y1 y2
      unfold laws_FnNumbersByDigits.j6
      repeat' first
      | (with_reducible exact ih0 _ _ _ _ _ _ _ _ _)
      | (with_reducible exact ih1 _ _ _ _ _ _)
      | (with_reducible exact ih2 _ _ _ _ _ _)
      | (with_reducible exact ih3 _)
      | (with_reducible exact ih4 _ _ _)
      | (with_reducible exact ih5 _ _ _ _ _)
      | (with_reducible exact ih6 _ _ _ _ _ _ _ _)
      | (with_reducible exact ih7 _ _ _ _ _ _ _ _)
      | (with_reducible exact impl_DigitProduct.mono _ _ _)
      | (with_reducible exact impl_DigitSum.mono _ _ _)
      | (with_reducible exact impl_IsHarshad.mono _ _ _)
      | (with_reducible exact impl_IsZuckerman.mono _ _ _)
      | (with_reducible exact impl_NextHarshad.mono _ _ _)
      | (with_reducible exact impl_SumProductNumbers.mono _ _ _)
      | (with_reducible exact laws_qSame.mono _ _ _)
      | (with_reducible exact spec_DrawNextHarshad.mono _ _)
      | (with_reducible exact spec_IsHarshad.mono _ _ _)
      | (with_reducible exact spec_IsZuckerman.mono _ _ _)
      | (with_reducible exact spec_NextHarshad.mono _ _ _)
      | (with_reducible exact spec_SumProductNumbers.mono _ _ _)
      | (with_reducible exact LeO.refl _)
      | (with_reducible exact LeO.none _)
      | (with_reducible refine LeO.ite ?_ ?_)
      | (with_reducible refine LeO.bind ?_ (fun _ => ?_))
      | exact ih0 _ _ _ _ _ _ _ _ _
      | exact ih1 _ _ _ _ _ _
      | exact ih2 _ _ _ _ _ _
      | exact ih3 _
      | exact ih4 _ _ _
      | exact ih5 _ _ _ _ _
      | exact ih6 _ _ _ _ _ _ _ _
      | exact ih7 _ _ _ _ _ _ _ _
      | exact impl_DigitProduct.mono _ _ _
      | exact impl_DigitSum.mono _ _ _
      | exact impl_IsHarshad.mono _ _ _
      | exact impl_IsZuckerman.mono _ _ _
      | exact impl_NextHarshad.mono _ _ _
      | exact impl_SumProductNumbers.mono _ _ _
      | exact laws_qSame.mono _ _ _
      | exact spec_DrawNextHarshad.mono _ _
      | exact spec_IsHarshad.mono _ _ _
      | exact spec_IsZuckerman.mono _ _ _
      | exact spec_NextHarshad.mono _ _ _
      | exact spec_SumProductNumbers.mono _ _ _
      | exact LeO.none _
      | refine LeO.ite ?_ ?_
      | refine LeO.bind ?_ (fun _ => ?_)
    · intro y0 y1 y2 y3 y4
      unfold laws_FnNumbersByDigits.l1
      repeat' first
      | (with_reducible exact ih0 _ _ _ _ _ _ _ _ _)
      | (with_reducible exact ih1 _ _ _ _ _ _)
      | (with_reducible exact ih2 _ _ _ _ _ _)
      | (with_reducible exact ih3 _)
      | (with_reducible exact ih4 _ _ _)
      | (with_reducible exact ih5 _ _ _ _ _)
      | (with_reducible exact ih6 _ _ _ _ _ _ _ _)
      | (with_reducible exact ih7 _ _ _ _ _ _ _ _)
      | (with_reducible exact impl_DigitProduct.mono _ _ _)
      | (with_reducible exact impl_DigitSum.mono _ _ _)
      | (with_reducible exact impl_IsHarshad.mono _ _ _)
      | (with_reducible exact impl_IsZuckerman.mono _ _ _)
      | (with_reducible exact impl_NextHarshad.mono _ _ _)
      | (with_reducible exact impl_SumProductNumbers.mono _ _ _)
      | (with_reducible exact laws_qSame.mono _ _ _)
      | (with_reducible exact spec_DrawNextHarshad.mono _ _)
      | (with_reducible exact spec_IsHarshad.mono _ _ _)
      | (with_reducible exact spec_IsZuckerman.mono _ _ _)
      | (with_reducible exact spec_NextHarshad.mono _ _ _)
      | (with_reducible exact spec_SumProductNumbers.mono _ _ _)
      | (with_reducible exact LeO.refl _)
      | (with_reducible exact LeO.none _)
      | (with_reducible refine LeO.ite ?_ ?_)
      | (with_reducible refine LeO.bind ?_ (fun _ => ?_))
      | exact ih0 _ _ _ _ _ _ _ _ _
      | exact ih1 _ _ _ _ _ _
      | exact ih2 _ _ _ _ _ _
      | exact ih3 _
      | exact ih4 _ _ _
      | exact ih5 _ _ _ _ _
      | exact ih6 _ _ _ _ _ _ _ _
      | exact ih7 _ _ _ _ _ _ _ _
      | exact impl_DigitProduct.mono _ _ _
      | exact impl_DigitSum.mono _ _ _
      | exact impl_IsHarshad.mono _ _ _
      | exact impl_IsZuckerman.mono _ _ _
      | exact impl_NextHarshad.mono _ _ _
      | exact impl_SumProductNumbers.mono _ _ _
      | exact laws_qSame.mono _ _ _
      | exact spec_DrawNextHarshad.mono _ _
      | exact spec_IsHarshad.mono _ _ _
      | exact spec_IsZuckerman.mono _ _ _
      | exact spec_NextHarshad.mono _ _ _
      | exact spec_SumProductNumbers.mono _ _ _
      | exact LeO.none _
      | refine LeO.ite ?_ ?_
      | refine LeO.bind ?_ (fun _ => ?_)
    · intro y0 y1 y2 y3 y4 y5 y6 y7
      unfold laws_FnNumbersByDigits.j1
      repeat' first
      | (with_reducible exact ih0 _ _ _ _ _ _ _ _ _)
      | (with_reducible exact ih1 _ _ _ _ _ _)
      | (with_reducible exact ih2 _ _ _ _ _ _)
      | (with_reducible exact ih3 _)
      | (with_reducible exact ih4 _ _ _)
      | (with_reducible exact ih5 _ _ _ _ _)
      | (with_reducible exact ih6 _ _ _ _ _ _ _ _)
      | (with_reducible exact ih7 _ _ _ _ _ _ _ _)
      | (with_reducible exact impl_DigitProduct.mono _ _ _)
      | (with_reducible exact impl_DigitSum.mono _ _ _)
      | (with_reducible exact impl_IsHarshad.mono _ _ _)
      | (with_reducible exact impl_IsZuckerman.mono _ _ _)
      | (with_reducible exact impl_NextHarshad.mono _ _ _)
      | (with_reducible exact impl_SumProductNumbers.mono _ _ _)
      | (with_reducible exact laws_qSame.mono _ _ _)
      | (with_reducible exact spec_DrawNextHarshad.mono _ _)
      | (with_reducible exact spec_IsHarshad.mono _ _ _)
      | (with_reducible exact spec_IsZuckerman.mono _ _ _)
      | (with_reducible exact spec_NextHarshad.mono _ _ _)
      | (with_reducible exact spec_SumProductNumbers.mono _ _ _)
      | (with_reducible exact LeO.refl _)
      | (with_reducible exact LeO.none _)
      | (with_reducible refine LeO.ite ?_ ?_)
      | (with_reducible refine LeO.bind ?_ (fun _ => ?_))
      | exact ih0 _ _ _ _ _ _ _ _ _
      | exact ih1 _ _ _ _ _ _
      | exact ih2 _ _ _ _ _ _
      | exact ih3 _
      | exact ih4 _ _ _
      | exact ih5 _ _ _ _ _
      | exact ih6 _ _ _ _ _ _ _ _
      | exact ih7 _ _ _ _ _ _ _ _
      | exact impl_DigitProduct.mono _ _ _
      | exact impl_DigitSum.mono _ _ _
      | exact impl_IsHarshad.mono _ _ _
      | exact impl_IsZuckerman.mono _ _ _
      | exact impl_NextHarshad.mono _ _ _
      | exact impl_SumProductNumbers.mono _ _ _
      | exact laws_qSame.mono _ _ _
      | exact spec_DrawNextHarshad.mono _ _
      | exact spec_IsHarshad.mono _ _ _
      | exact spec_IsZuckerman.mono _ _ _
      | exact spec_NextHarshad.mono _ _ _
      | exact spec_SumProductNumbers.mono _ _ _
      | exact LeO.none _
      | refine LeO.ite ?_ ?_
      | refine LeO.bind ?_ (fun _ => ?_)
    · intro y0 y1 y2 y3 y4 y5 y6 y7
      unfold laws_FnNumbersByDigits.l0
      repeat' first
      | (with_reducible exact ih0 _ _ _ _ _ _ _ _ _)
      | (with_reducible exact ih1 _ _ _ _ _ _)
      | (with_reducible exact ih2 _ _ _ _ _ _)
      | (with_reducible exact ih3 _)
      | (with_reducible exact ih4 _ _ _)
      | (with_reducible exact ih5 _ _ _ _ _)
      | (with_reducible exact ih6 _ _ _ _ _ _ _ _)
      | (with_reducible exact ih7 _ _ _ _ _ _ _ _)
      | (with_reducible exact impl_DigitProduct.mono _ _ _)
      | (with_reducible exact impl_DigitSum.mono _ _ _)
      | (with_reducible exact impl_IsHarshad.mono _ _ _)
      | (with_reducible exact impl_IsZuckerman.mono _ _ _)
      | (with_reducible exact impl_NextHarshad.mono _ _ _)
      | (with_reducible exact impl_SumProductNumbers.mono _ _ _)
      | (with_reducible exact laws_qSame.mono _ _ _)
      | (with_reducible exact spec_DrawNextHarshad.mono _ _)
      | (with_reducible exact spec_IsHarshad.mono _ _ _)
      | (with_reducible exact spec_IsZuckerman.mono _ _ _)
      | (with_reducible exact spec_NextHarshad.mono _ _ _)
      | (with_reducible exact spec_SumProductNumbers.mono _ _ _)
      | (with_reducible exact LeO.refl _)
      | (with_reducible exact LeO.none _)
      | (with_reducible refine LeO.ite ?_ ?_)
      | (with_reducible refine LeO.bind ?_ (fun _ => ?_))
      | exact ih0 _ _ _ _ _ _ _ _ _
      | exact ih1 _ _ _ _ _ _
      | exact ih2 _ _ _ _ _ _
      | exact ih3 _
      | exact ih4 _ _ _
      | exact ih5 _ _ _ _ _
      | exact ih6 _ _ _ _ _ _ _ _
      | exact ih7 _ _ _ _ _ _ _ _
      | exact impl_DigitProduct.mono _ _ _
      | exact impl_DigitSum.mono _ _ _
      | exact impl_IsHarshad.mono _ _ _
      | exact impl_IsZuckerman.mono _ _ _
      | exact impl_NextHarshad.mono _ _ _
      | exact impl_SumProductNumbers.mono _ _ _
      | exact laws_qSame.mono _ _ _
      | exact spec_DrawNextHarshad.mono _ _
      | exact spec_IsHarshad.mono _ _ _
      | exact spec_IsZuckerman.mono _ _ _
      | exact spec_NextHarshad.mono _ _ _
      | exact spec_SumProductNumbers.mono _ _ _
      | exact LeO.none _
      | refine LeO.ite ?_ ?_
      | refine LeO.bind ?_ (fun _ => ?_)
theorem laws_FnNumbersByDigits.mono : ∀ a0 a1 k, LeO (laws_FnNumbersByDigits.f k a0 a1) (laws_FnNumbersByDigits.f (k + 1) a0 a1) := by
  intro a0 a1 k
  obtain ⟨ih0, ih1, ih2, ih3, ih4, ih5, ih6, ih7⟩ := laws_FnNumbersByDigits.mono_l k
  unfold laws_FnNumbersByDigits.f
  repeat' first
      | (with_reducible exact ih0 _ _ _ _ _ _ _ _ _)
      | (with_reducible exact ih1 _ _ _ _ _ _)
      | (with_reducible exact ih2 _ _ _ _ _ _)
      | (with_reducible exact ih3 _)
      | (with_reducible exact ih4 _ _ _)
      | (with_reducible exact ih5 _ _ _ _ _)
      | (with_reducible exact ih6 _ _ _ _ _ _ _ _)
      | (with_reducible exact ih7 _ _ _ _ _ _ _ _)
      | (with_reducible exact impl_DigitProduct.mono _ _ _)
      | (with_reducible exact impl_DigitSum.mono _ _ _)
      | (with_reducible exact impl_IsHarshad.mono _ _ _)
      | (with_reducible exact impl_IsZuckerman.mono _ _ _)
      | (with_reducible exact impl_NextHarshad.mono _ _ _)
      | (with_reducible exact impl_SumProductNumbers.mono _ _ _)
      | (with_reducible exact laws_qSame.mono _ _ _)
      | (with_reducible exact spec_DrawNextHarshad.mono _ _)
      | (with_reducible exact spec_IsHarshad.mono _ _ _)
      | (with_reducible exact spec_IsZuckerman.mono _ _ _)
      | (with_reducible exact spec_NextHarshad.mono _ _ _)
      | (with_reducible exact spec_SumProductNumbers.mono _ _ _)
      | (with_reducible exact LeO.refl _)
      | (with_reducible exact LeO.none _)
      | (with_reducible refine LeO.ite ?_ ?_)
      | (with_reducible refine LeO.bind ?_ (fun _ => ?_))
      | exact ih0 _ _ _ _ _ _ _ _ _
      | exact ih1 _ _ _ _ _ _
      | exact ih2 _ _ _ _ _ _
      | exact ih3 _
      | exact ih4 _ _ _
      | exact ih5 _ _ _ _ _
      | exact ih6 _ _ _ _ _ _ _ _
      | exact ih7 _ _ _ _ _ _ _ _
      | exact impl_DigitProduct.mono _ _ _
      | exact impl_DigitSum.mono _ _ _
      | exact impl_IsHarshad.mono _ _ _
      | exact impl_IsZuckerman.mono _ _ _
      | exact impl_NextHarshad.mono _ _ _
      | exact impl_SumProductNumbers.mono _ _ _
      | exact laws_qSame.mono _ _ _
      | exact spec_DrawNextHarshad.mono _ _
      | exact spec_IsHarshad.mono _ _ _
      | exact spec_IsZuckerman.mono _ _ _
      | exact spec_NextHarshad.mono _ _ _
      | exact spec_SumProductNumbers.mono _ _ _
      | exact LeO.none _
      | refine LeO.ite ?_ ?_
      | refine LeO.bind ?_ (fun _ => ?_)
theorem laws_FnNumbersByDigits.j0_no {r : Bool} (hr : r = true) (k : Nat) (x1 : List Int) (x5 : Int) (x6 : Int) (x7 : Int) (x8 : Bool) (x11 : Bool) (x12 : Bool) (x15 : Bool) (h : laws_FnNumbersByDigits.j0 k x1 x5 x6 x7 x8 x11 x12 x15 true = some r) : False := by
  subst hr
  cases k with
  | zero => simp [laws_FnNumbersByDigits.j0] at h
  | succ k => simp [laws_FnNumbersByDigits.j0] at h
theorem laws_FnNumbersByDigits.j6_no {r : Bool} (hr : r = true) (k : Nat) (x28 : Int) (x30 : List Int) (h : laws_FnNumbersByDigits.j6 k x28 x30 true = some r) : False := by
  subst hr
  cases k with
  | zero => simp [laws_FnNumbersByDigits.j6] at h
  | succ k => simp [laws_FnNumbersByDigits.j6] at h
theorem laws_FnNumbersByDigits.j1_no {r : Bool} (hr : r = true) (k : Nat) (x1 : List Int) (x5 : Int) (x6 : Int) (x7 : Int) (x11 : Bool) (x12 : Bool) (x15 : Bool) (h : laws_FnNumbersByDigits.j1 k x1 x5 x6 x7 x11 x12 x15 true = some r) : False := by
  subst hr
  cases k with
  | zero => simp [laws_FnNumbersByDigits.j1] at h
  | succ k => simp [laws_FnNumbersByDigits.j1] at h
set_option maxHeartbeats 8000000 in
set_option maxRecDepth 100000 in
theorem laws_FnNumbersByDigits.calls (k : Nat) (A0 : Option Addr) (c0 : Nat) (l0 : List Int) (A1 : Option Addr) (c1 : Nat) (l1 : List Int) (r : Bool) (w : World) (hr0 : Kd.C (Kd.int .u8) w A0 l0.length l0) (hc0 : l0.length ≤ c0) (hr1 : Kd.C (Kd.int .u8) w A1 l1.length l1) (hc1 : l1.length ≤ c1) (h : laws_FnNumbersByDigits.f k l0 l1 = some r) (hr_ : r = true) :
    Calls Try.prog 7 #[.slice A0 l0.length c0, .slice A1 l1.length c1] w fun e w' => e = .returned (.bool r) ∧ Below w.heap.size w w' := by
  have HR0 := Aside0.mk hr0
  have HC0 := Aside0.mk hc0
  clear hr0 hc0
  have HR1 := Aside0.mk hr1
  have HC1 := Aside0.mk hc1
  clear hr1 hc1
  have HB := Aside0.mk (Below.refl w.heap.size w)
  have H : ((laws_big.f l0 l1).bind fun t271 => (if t271 = true then (some true) else ((spec_DrawNextHarshad.f k l0).bind fun bt272 => ((impl_NextHarshad.f k bt272.1 bt272.2).bind fun bt274 => ((spec_NextHarshad.f k bt272.1 bt272.2).bind fun bt276 => ((impl_IsHarshad.f k bt272.1 bt272.2).bind fun bt278 => ((spec_IsHarshad.f k bt272.1 bt272.2).bind fun bt280 => ((impl_IsZuckerman.f k bt272.1 bt272.2).bind fun bt282 => ((spec_IsZuckerman.f k bt272.1 bt272.2).bind fun bt284 => (if (bt274.2 != bt276.2) = true then (laws_FnNumbersByDigits.j0 k l1 bt272.1 bt272.2 bt274.1 bt274.2 bt278.1 bt278.2 bt282.1 true) else (if bt274.1 = bt276.1 then (if (bt278.2 != bt280.2) = true then (laws_FnNumbersByDigits.j0 k l1 bt272.1 bt272.2 bt274.1 bt274.2 bt278.1 bt278.2 bt282.1 true) else (if (bt278.1 != bt280.1) = true then (laws_FnNumbersByDigits.j0 k l1 bt272.1 bt272.2 bt274.1 bt274.2 bt278.1 bt278.2 bt282.1 true) else (if (bt282.2 != bt284.2) = true then (laws_FnNumbersByDigits.j0 k l1 bt272.1 bt272.2 bt274.1 bt274.2 bt278.1 bt278.2 bt282.1 true) else (if (bt282.1 != bt284.1) = true then (laws_FnNumbersByDigits.j0 k l1 bt272.1 bt272.2 bt274.1 bt274.2 bt278.1 bt278.2 bt282.1 true) else (if (bt282.2 != bt278.2) = true then (laws_FnNumbersByDigits.j0 k l1 bt272.1 bt272.2 bt274.1 bt274.2 bt278.1 bt278.2 bt282.1 true) else (if bt274.2 = true then (laws_FnNumbersByDigits.j0 k l1 bt272.1 bt272.2 bt274.1 bt274.2 bt278.1 bt278.2 bt282.1 (!bt278.2)) else (laws_FnNumbersByDigits.j0 k l1 bt272.1 bt272.2 bt274.1 bt274.2 bt278.1 bt278.2 bt282.1 false))))))) else (laws_FnNumbersByDigits.j0 k l1 bt272.1 bt272.2 bt274.1 bt274.2 bt278.1 bt278.2 bt282.1 true)))))))))))) = some r := h
  clear h
  have HR_ := Aside0.mk hr_
  clear hr_
  replace H := Option.bind_eq_some_iff.mp H
  obtain ⟨t271, A30, H⟩ := H
  replace H : (if t271 = true then (some true) else ((spec_DrawNextHarshad.f k l0).bind fun bt272 => ((impl_NextHarshad.f k bt272.1 bt272.2).bind fun bt274 => ((spec_NextHarshad.f k bt272.1 bt272.2).bind fun bt276 => ((impl_IsHarshad.f k bt272.1 bt272.2).bind fun bt278 => ((spec_IsHarshad.f k bt272.1 bt272.2).bind fun bt280 => ((impl_IsZuckerman.f k bt272.1 bt272.2).bind fun bt282 => ((spec_IsZuckerman.f k bt272.1 bt272.2).bind fun bt284 => (if (bt274.2 != bt276.2) = true then (laws_FnNumbersByDigits.j0 k l1 bt272.1 bt272.2 bt274.1 bt274.2 bt278.1 bt278.2 bt282.1 true) else (if bt274.1 = bt276.1 then (if (bt278.2 != bt280.2) = true then (laws_FnNumbersByDigits.j0 k l1 bt272.1 bt272.2 bt274.1 bt274.2 bt278.1 bt278.2 bt282.1 true) else (if (bt278.1 != bt280.1) = true then (laws_FnNumbersByDigits.j0 k l1 bt272.1 bt272.2 bt274.1 bt274.2 bt278.1 bt278.2 bt282.1 true) else (if (bt282.2 != bt284.2) = true then (laws_FnNumbersByDigits.j0 k l1 bt272.1 bt272.2 bt274.1 bt274.2 bt278.1 bt278.2 bt282.1 true) else (if (bt282.1 != bt284.1) = true then (laws_FnNumbersByDigits.j0 k l1 bt272.1 bt272.2 bt274.1 bt274.2 bt278.1 bt278.2 bt282.1 true) else (if (bt282.2 != bt278.2) = true then (laws_FnNumbersByDigits.j0 k l1 bt272.1 bt272.2 bt274.1 bt274.2 bt278.1 bt278.2 bt282.1 true) else (if bt274.2 = true then (laws_FnNumbersByDigits.j0 k l1 bt272.1 bt272.2 bt274.1 bt274.2 bt278.1 bt278.2 bt282.1 (!bt278.2)) else (laws_FnNumbersByDigits.j0 k l1 bt272.1 bt272.2 bt274.1 bt274.2 bt278.1 bt278.2 bt282.1 false))))))) else (laws_FnNumbersByDigits.j0 k l1 bt272.1 bt272.2 bt274.1 bt274.2 bt278.1 bt278.2 bt282.1 true))))))))))) = some r := H
  have A3 := Aside0.mk A30
  clear A30
  by_cases c4 : t271 = true
  · subst c4
    have H1 : (some true) = some r := by rw [if_pos rfl] at H; exact H
    clear H
    have H := H1
    clear H1
    as_aux_lemma =>
      obtain rfl := Option.some.inj H
      go_enter Try.func7, Try.ntmps7
      go_wp2_with (first | ((with_reducible refine gate_callee (f := 25) rfl ?_); refine goesL_ (some 44) rfl rfl Try.func25 (by kernel_rfl) rfl #[.slice A0 l0.length c0, .slice A1 l1.length c1] rfl (by (try simp only [List.map_toArray, List.map_cons, List.map_nil]); first | done | rfl | (simp only [List.length_drop, List.length_take]; rfl)) ?_; (with_reducible refine (laws_big.calls _ _ l0 _ _ l1 true _ ?side1 ?side2 ?side3 ?side4 A3.out).mono ?_); (case side1 => repeat (first | exact HR0.out | (with_reducible refine Kd.C_alloc ?_ _) | (with_reducible refine Kd.C_drewN ?_ _) | (with_reducible refine Kd.C_drew ?_))); (case side2 => exact HC0.out); (case side3 => repeat (first | exact HR1.out | (with_reducible refine Kd.C_alloc ?_ _) | (with_reducible refine Kd.C_drewN ?_ _) | (with_reducible refine Kd.C_drew ?_))); (case side4 => exact HC1.out); rintro e w' ⟨rfl, ⟨nd, rfl⟩⟩; refine ⟨_, rfl, ?_⟩))
      go_ret
      exact ⟨by first | rfl | (simp [errW_none, errW_some] <;> rfl) | (simp [*, errW_none, errW_some] <;> rfl), by repeat (first | (with_reducible first | exact HB.out | apply below_alloc | apply pw_below_drewN | apply below_drew1) | exact HB.out)⟩
  · replace c4 := Bool.eq_false_iff.mpr c4
    subst c4
    have H1 : ((spec_DrawNextHarshad.f k l0).bind fun bt272 => ((impl_NextHarshad.f k bt272.1 bt272.2).bind fun bt274 => ((spec_NextHarshad.f k bt272.1 bt272.2).bind fun bt276 => ((impl_IsHarshad.f k bt272.1 bt272.2).bind fun bt278 => ((spec_IsHarshad.f k bt272.1 bt272.2).bind fun bt280 => ((impl_IsZuckerman.f k bt272.1 bt272.2).bind fun bt282 => ((spec_IsZuckerman.f k bt272.1 bt272.2).bind fun bt284 => (if (bt274.2 != bt276.2) = true then (laws_FnNumbersByDigits.j0 k l1 bt272.1 bt272.2 bt274.1 bt274.2 bt278.1 bt278.2 bt282.1 true) else (if bt274.1 = bt276.1 then (if (bt278.2 != bt280.2) = true then (laws_FnNumbersByDigits.j0 k l1 bt272.1 bt272.2 bt274.1 bt274.2 bt278.1 bt278.2 bt282.1 true) else (if (bt278.1 != bt280.1) = true then (laws_FnNumbersByDigits.j0 k l1 bt272.1 bt272.2 bt274.1 bt274.2 bt278.1 bt278.2 bt282.1 true) else (if (bt282.2 != bt284.2) = true then (laws_FnNumbersByDigits.j0 k l1 bt272.1 bt272.2 bt274.1 bt274.2 bt278.1 bt278.2 bt282.1 true) else (if (bt282.1 != bt284.1) = true then (laws_FnNumbersByDigits.j0 k l1 bt272.1 bt272.2 bt274.1 bt274.2 bt278.1 bt278.2 bt282.1 true) else (if (bt282.2 != bt278.2) = true then (laws_FnNumbersByDigits.j0 k l1 bt272.1 bt272.2 bt274.1 bt274.2 bt278.1 bt278.2 bt282.1 true) else (if bt274.2 = true then (laws_FnNumbersByDigits.j0 k l1 bt272.1 bt272.2 bt274.1 bt274.2 bt278.1 bt278.2 bt282.1 (!bt278.2)) else (laws_FnNumbersByDigits.j0 k l1 bt272.1 bt272.2 bt274.1 bt274.2 bt278.1 bt278.2 bt282.1 false))))))) else (laws_FnNumbersByDigits.j0 k l1 bt272.1 bt272.2 bt274.1 bt274.2 bt278.1 bt278.2 bt282.1 true)))))))))) = some r := by rw [if_neg (show ¬ (false = true) by decide)] at H; exact H
    clear H
    have H := H1
    clear H1
    replace H := Option.bind_eq_some_iff.mp H
    obtain ⟨⟨t272, t273⟩, A50, H⟩ := H
    replace H : ((impl_NextHarshad.f k t272 t273).bind fun bt274 => ((spec_NextHarshad.f k t272 t273).bind fun bt276 => ((impl_IsHarshad.f k t272 t273).bind fun bt278 => ((spec_IsHarshad.f k t272 t273).bind fun bt280 => ((impl_IsZuckerman.f k t272 t273).bind fun bt282 => ((spec_IsZuckerman.f k t272 t273).bind fun bt284 => (if (bt274.2 != bt276.2) = true then (laws_FnNumbersByDigits.j0 k l1 t272 t273 bt274.1 bt274.2 bt278.1 bt278.2 bt282.1 true) else (if bt274.1 = bt276.1 then (if (bt278.2 != bt280.2) = true then (laws_FnNumbersByDigits.j0 k l1 t272 t273 bt274.1 bt274.2 bt278.1 bt278.2 bt282.1 true) else (if (bt278.1 != bt280.1) = true then (laws_FnNumbersByDigits.j0 k l1 t272 t273 bt274.1 bt274.2 bt278.1 bt278.2 bt282.1 true) else (if (bt282.2 != bt284.2) = true then (laws_FnNumbersByDigits.j0 k l1 t272 t273 bt274.1 bt274.2 bt278.1 bt278.2 bt282.1 true) else (if (bt282.1 != bt284.1) = true then (laws_FnNumbersByDigits.j0 k l1 t272 t273 bt274.1 bt274.2 bt278.1 bt278.2 bt282.1 true) else (if (bt282.2 != bt278.2) = true then (laws_FnNumbersByDigits.j0 k l1 t272 t273 bt274.1 bt274.2 bt278.1 bt278.2 bt282.1 true) else (if bt274.2 = true then (laws_FnNumbersByDigits.j0 k l1 t272 t273 bt274.1 bt274.2 bt278.1 bt278.2 bt282.1 (!bt278.2)) else (laws_FnNumbersByDigits.j0 k l1 t272 t273 bt274.1 bt274.2 bt278.1 bt278.2 bt282.1 false))))))) else (laws_FnNumbersByDigits.j0 k l1 t272 t273 bt274.1 bt274.2 bt278.1 bt278.2 bt282.1 true))))))))) = some r := H
    have A5 := Aside0.mk A50
    clear A50
    replace H := Option.bind_eq_some_iff.mp H
    obtain ⟨⟨t274, t275⟩, A60, H⟩ := H
    replace H : ((spec_NextHarshad.f k t272 t273).bind fun bt276 => ((impl_IsHarshad.f k t272 t273).bind fun bt278 => ((spec_IsHarshad.f k t272 t273).bind fun bt280 => ((impl_IsZuckerman.f k t272 t273).bind fun bt282 => ((spec_IsZuckerman.f k t272 t273).bind fun bt284 => (if (t275 != bt276.2) = true then (laws_FnNumbersByDigits.j0 k l1 t272 t273 t274 t275 bt278.1 bt278.2 bt282.1 true) else (if t274 = bt276.1 then (if (bt278.2 != bt280.2) = true then (laws_FnNumbersByDigits.j0 k l1 t272 t273 t274 t275 bt278.1 bt278.2 bt282.1 true) else (if (bt278.1 != bt280.1) = true then (laws_FnNumbersByDigits.j0 k l1 t272 t273 t274 t275 bt278.1 bt278.2 bt282.1 true) else (if (bt282.2 != bt284.2) = true then (laws_FnNumbersByDigits.j0 k l1 t272 t273 t274 t275 bt278.1 bt278.2 bt282.1 true) else (if (bt282.1 != bt284.1) = true then (laws_FnNumbersByDigits.j0 k l1 t272 t273 t274 t275 bt278.1 bt278.2 bt282.1 true) else (if (bt282.2 != bt278.2) = true then (laws_FnNumbersByDigits.j0 k l1 t272 t273 t274 t275 bt278.1 bt278.2 bt282.1 true) else (if t275 = true then (laws_FnNumbersByDigits.j0 k l1 t272 t273 t274 t275 bt278.1 bt278.2 bt282.1 (!bt278.2)) else (laws_FnNumbersByDigits.j0 k l1 t272 t273 t274 t275 bt278.1 bt278.2 bt282.1 false))))))) else (laws_FnNumbersByDigits.j0 k l1 t272 t273 t274 t275 bt278.1 bt278.2 bt282.1 true)))))))) = some r := H
    have A6 := Aside0.mk A60
    clear A60
    replace H := Option.bind_eq_some_iff.mp H
    obtain ⟨⟨t276, t277⟩, A70, H⟩ := H
    replace H : ((impl_IsHarshad.f k t272 t273).bind fun bt278 => ((spec_IsHarshad.f k t272 t273).bind fun bt280 => ((impl_IsZuckerman.f k t272 t273).bind fun bt282 => ((spec_IsZuckerman.f k t272 t273).bind fun bt284 => (if (t275 != t277) = true then (laws_FnNumbersByDigits.j0 k l1 t272 t273 t274 t275 bt278.1 bt278.2 bt282.1 true) else (if t274 = t276 then (if (bt278.2 != bt280.2) = true then (laws_FnNumbersByDigits.j0 k l1 t272 t273 t274 t275 bt278.1 bt278.2 bt282.1 true) else (if (bt278.1 != bt280.1) = true then (laws_FnNumbersByDigits.j0 k l1 t272 t273 t274 t275 bt278.1 bt278.2 bt282.1 true) else (if (bt282.2 != bt284.2) = true then (laws_FnNumbersByDigits.j0 k l1 t272 t273 t274 t275 bt278.1 bt278.2 bt282.1 true) else (if (bt282.1 != bt284.1) = true then (laws_FnNumbersByDigits.j0 k l1 t272 t273 t274 t275 bt278.1 bt278.2 bt282.1 true) else (if (bt282.2 != bt278.2) = true then (laws_FnNumbersByDigits.j0 k l1 t272 t273 t274 t275 bt278.1 bt278.2 bt282.1 true) else (if t275 = true then (laws_FnNumbersByDigits.j0 k l1 t272 t273 t274 t275 bt278.1 bt278.2 bt282.1 (!bt278.2)) else (laws_FnNumbersByDigits.j0 k l1 t272 t273 t274 t275 bt278.1 bt278.2 bt282.1 false))))))) else (laws_FnNumbersByDigits.j0 k l1 t272 t273 t274 t275 bt278.1 bt278.2 bt282.1 true))))))) = some r := H
    have A7 := Aside0.mk A70
    clear A70
    replace H := Option.bind_eq_some_iff.mp H
    obtain ⟨⟨t278, t279⟩, A80, H⟩ := H
    replace H : ((spec_IsHarshad.f k t272 t273).bind fun bt280 => ((impl_IsZuckerman.f k t272 t273).bind fun bt282 => ((spec_IsZuckerman.f k t272 t273).bind fun bt284 => (if (t275 != t277) = true then (laws_FnNumbersByDigits.j0 k l1 t272 t273 t274 t275 t278 t279 bt282.1 true) else (if t274 = t276 then (if (t279 != bt280.2) = true then (laws_FnNumbersByDigits.j0 k l1 t272 t273 t274 t275 t278 t279 bt282.1 true) else (if (t278 != bt280.1) = true then (laws_FnNumbersByDigits.j0 k l1 t272 t273 t274 t275 t278 t279 bt282.1 true) else (if (bt282.2 != bt284.2) = true then (laws_FnNumbersByDigits.j0 k l1 t272 t273 t274 t275 t278 t279 bt282.1 true) else (if (bt282.1 != bt284.1) = true then (laws_FnNumbersByDigits.j0 k l1 t272 t273 t274 t275 t278 t279 bt282.1 true) else (if (bt282.2 != t279) = true then (laws_FnNumbersByDigits.j0 k l1 t272 t273 t274 t275 t278 t279 bt282.1 true) else (if t275 = true then (laws_FnNumbersByDigits.j0 k l1 t272 t273 t274 t275 t278 t279 bt282.1 (!t279)) else (laws_FnNumbersByDigits.j0 k l1 t272 t273 t274 t275 t278 t279 bt282.1 false))))))) else (laws_FnNumbersByDigits.j0 k l1 t272 t273 t274 t275 t278 t279 bt282.1 true)))))) = some r := H
    have A8 := Aside0.mk A80
    clear A80
    replace H := Option.bind_eq_some_iff.mp H
    obtain ⟨⟨t280, t281⟩, A90, H⟩ := H
    replace H : ((impl_IsZuckerman.f k t272 t273).bind fun bt282 => ((spec_IsZuckerman.f k t272 t273).bind fun bt284 => (if (t275 != t277) = true then (laws_FnNumbersByDigits.j0 k l1 t272 t273 t274 t275 t278 t279 bt282.1 true) else (if t274 = t276 then (if (t279 != t281) = true then (laws_FnNumbersByDigits.j0 k l1 t272 t273 t274 t275 t278 t279 bt282.1 true) else (if (t278 != t280) = true then (laws_FnNumbersByDigits.j0 k l1 t272 t273 t274 t275 t278 t279 bt282.1 true) else (if (bt282.2 != bt284.2) = true then (laws_FnNumbersByDigits.j0 k l1 t272 t273 t274 t275 t278 t279 bt282.1 true) else (if (bt282.1 != bt284.1) = true then (laws_FnNumbersByDigits.j0 k l1 t272 t273 t274 t275 t278 t279 bt282.1 true) else (if (bt282.2 != t279) = true then (laws_FnNumbersByDigits.j0 k l1 t272 t273 t274 t275 t278 t279 bt282.1 true) else (if t275 = true then (laws_FnNumbersByDigits.j0 k l1 t272 t273 t274 t275 t278 t279 bt282.1 (!t279)) else (laws_FnNumbersByDigits.j0 k l1 t272 t273 t274 t275 t278 t279 bt282.1 false))))))) else (laws_FnNumbersByDigits.j0 k l1 t272 t273 t274 t275 t278 t279 bt282.1 true))))) = some r := H
    have A9 := Aside0.mk A90
    clear A90
    replace H := Option.bind_eq_some_iff.mp H
    obtain ⟨⟨t282, t283⟩, A100, H⟩ := H
    replace H : ((spec_IsZuckerman.f k t272 t273).bind fun bt284 => (if (t275 != t277) = true then (laws_FnNumbersByDigits.j0 k l1 t272 t273 t274 t275 t278 t279 t282 true) else (if t274 = t276 then (if (t279 != t281) = true then (laws_FnNumbersByDigits.j0 k l1 t272 t273 t274 t275 t278 t279 t282 true) else (if (t278 != t280) = true then (laws_FnNumbersByDigits.j0 k l1 t272 t273 t274 t275 t278 t279 t282 true) else (if (t283 != bt284.2) = true then (laws_FnNumbersByDigits.j0 k l1 t272 t273 t274 t275 t278 t279 t282 true) else (if (t282 != bt284.1) = true then (laws_FnNumbersByDigits.j0 k l1 t272 t273 t274 t275 t278 t279 t282 true) else (if (t283 != t279) = true then (laws_FnNumbersByDigits.j0 k l1 t272 t273 t274 t275 t278 t279 t282 true) else (if t275 = true then (laws_FnNumbersByDigits.j0 k l1 t272 t273 t274 t275 t278 t279 t282 (!t279)) else (laws_FnNumbersByDigits.j0 k l1 t272 t273 t274 t275 t278 t279 t282 false))))))) else (laws_FnNumbersByDigits.j0 k l1 t272 t273 t274 t275 t278 t279 t282 true)))) = some r := H
    have A10 := Aside0.mk A100
    clear A100
    replace H := Option.bind_eq_some_iff.mp H
    obtain ⟨⟨t284, t285⟩, A110, H⟩ := H
    replace H : (if (t275 != t277) = true then (laws_FnNumbersByDigits.j0 k l1 t272 t273 t274 t275 t278 t279 t282 true) else (if t274 = t276 then (if (t279 != t281) = true then (laws_FnNumbersByDigits.j0 k l1 t272 t273 t274 t275 t278 t279 t282 true) else (if (t278 != t280) = true then (laws_FnNumbersByDigits.j0 k l1 t272 t273 t274 t275 t278 t279 t282 true) else (if (t283 != t285) = true then (laws_FnNumbersByDigits.j0 k l1 t272 t273 t274 t275 t278 t279 t282 true) else (if (t282 != t284) = true then (laws_FnNumbersByDigits.j0 k l1 t272 t273 t274 t275 t278 t279 t282 true) else (if (t283 != t279) = true then (laws_FnNumbersByDigits.j0 k l1 t272 t273 t274 t275 t278 t279 t282 true) else (if t275 = true then (laws_FnNumbersByDigits.j0 k l1 t272 t273 t274 t275 t278 t279 t282 (!t279)) else (laws_FnNumbersByDigits.j0 k l1 t272 t273 t274 t275 t278 t279 t282 false))))))) else (laws_FnNumbersByDigits.j0 k l1 t272 t273 t274 t275 t278 t279 t282 true))) = some r := H
    have A11 := Aside0.mk A110
    clear A110
    have HC12 := Aside0.mk H
    clear H
    go_enter Try.func7, Try.ntmps7
    go_upto_region 10 with (first | ((with_reducible refine gate_callee (f := 25) rfl ?_); refine goesL_ (some 44) rfl rfl Try.func25 (by kernel_rfl) rfl #[.slice A0 l0.length c0, .slice A1 l1.length c1] rfl (by (try simp only [List.map_toArray, List.map_cons, List.map_nil]); first | done | rfl | (simp only [List.length_drop, List.length_take]; rfl)) ?_; (with_reducible refine (laws_big.calls _ _ l0 _ _ l1 false _ ?side1 ?side2 ?side3 ?side4 A3.out).mono ?_); (case side1 => repeat (first | exact HR0.out | (with_reducible refine Kd.C_alloc ?_ _) | (with_reducible refine Kd.C_drewN ?_ _) | (with_reducible refine Kd.C_drew ?_))); (case side2 => exact HC0.out); (case side3 => repeat (first | exact HR1.out | (with_reducible refine Kd.C_alloc ?_ _) | (with_reducible refine Kd.C_drewN ?_ _) | (with_reducible refine Kd.C_drew ?_))); (case side4 => exact HC1.out); rintro e w' ⟨rfl, ⟨nd, rfl⟩⟩; refine ⟨_, rfl, ?_⟩) | ((with_reducible refine gate_callee (f := 51) rfl ?_); refine goesL_ (some 47) rfl rfl Try.func51 (by kernel_rfl) rfl #[.slice A0 l0.length c0] rfl (by (try simp only [List.map_toArray, List.map_cons, List.map_nil]); first | done | rfl | (simp only [List.length_drop, List.length_take]; rfl)) ?_; (with_reducible refine (spec_DrawNextHarshad.calls k _ _ l0 t272 t273 _ ?side1 ?side2 A5.out).mono ?_); (case side1 => repeat (first | exact HR0.out | (with_reducible refine Kd.C_alloc ?_ _) | (with_reducible refine Kd.C_drewN ?_ _) | (with_reducible refine Kd.C_drew ?_))); (case side2 => exact HC0.out); rintro e w13 ⟨rfl, hb⟩; refine ⟨_, rfl, ?_⟩; have n0_ := Aside0.mk (below_step (by repeat (first | (with_reducible first | exact HB.out | apply below_alloc | apply pw_below_drewN | apply below_drew1) | exact HB.out)) hb); clear HB; have HB := n0_; clear n0_; (try clear hb); (try clear hb2); (try clear hk); (try clear hi)) | ((with_reducible refine gate_callee (f := 52) rfl ?_); refine goesL_ (some 53) rfl rfl Try.func52 (by kernel_rfl) rfl #[.int .i64 t272, .int .i64 t273] rfl (by (try simp only [List.map_toArray, List.map_cons, List.map_nil]); first | done | rfl | (simp only [List.length_drop, List.length_take]; rfl)) ?_; (with_reducible refine (impl_NextHarshad.calls k t272 t273 t274 t275 _ A6.out).mono ?_); rintro e w14 ⟨rfl, hb⟩; refine ⟨_, rfl, ?_⟩; have n0_ := Aside0.mk (below_step (by repeat (first | (with_reducible first | exact HB.out | apply below_alloc | apply pw_below_drewN | apply below_drew1) | exact HB.out)) hb); clear HB; have HB := n0_; clear n0_; (try clear hb); (try clear hb2); (try clear hk); (try clear hi)) | ((with_reducible refine gate_callee (f := 53) rfl ?_); refine goesL_ (some 59) rfl rfl Try.func53 (by kernel_rfl) rfl #[.int .i64 t272, .int .i64 t273] rfl (by (try simp only [List.map_toArray, List.map_cons, List.map_nil]); first | done | rfl | (simp only [List.length_drop, List.length_take]; rfl)) ?_; (with_reducible refine (spec_NextHarshad.calls k t272 t273 t276 t277 _ A7.out).mono ?_); rintro e w15 ⟨rfl, hb⟩; refine ⟨_, rfl, ?_⟩; have n0_ := Aside0.mk (below_step (by repeat (first | (with_reducible first | exact HB.out | apply below_alloc | apply pw_below_drewN | apply below_drew1) | exact HB.out)) hb); clear HB; have HB := n0_; clear n0_; (try clear hb); (try clear hb2); (try clear hk); (try clear hi)) | ((with_reducible refine gate_callee (f := 54) rfl ?_); refine goesL_ (some 65) rfl rfl Try.func54 (by kernel_rfl) rfl #[.int .i64 t272, .int .i64 t273] rfl (by (try simp only [List.map_toArray, List.map_cons, List.map_nil]); first | done | rfl | (simp only [List.length_drop, List.length_take]; rfl)) ?_; (with_reducible refine (impl_IsHarshad.calls k t272 t273 t278 t279 _ A8.out).mono ?_); rintro e w16 ⟨rfl, hb⟩; refine ⟨_, rfl, ?_⟩; have n0_ := Aside0.mk (below_step (by repeat (first | (with_reducible first | exact HB.out | apply below_alloc | apply pw_below_drewN | apply below_drew1) | exact HB.out)) hb); clear HB; have HB := n0_; clear n0_; (try clear hb); (try clear hb2); (try clear hk); (try clear hi)) | ((with_reducible refine gate_callee (f := 55) rfl ?_); refine goesL_ (some 71) rfl rfl Try.func55 (by kernel_rfl) rfl #[.int .i64 t272, .int .i64 t273] rfl (by (try simp only [List.map_toArray, List.map_cons, List.map_nil]); first | done | rfl | (simp only [List.length_drop, List.length_take]; rfl)) ?_; (with_reducible refine (spec_IsHarshad.calls k t272 t273 t280 t281 _ A9.out).mono ?_); rintro e w17 ⟨rfl, hb⟩; refine ⟨_, rfl, ?_⟩; have n0_ := Aside0.mk (below_step (by repeat (first | (with_reducible first | exact HB.out | apply below_alloc | apply pw_below_drewN | apply below_drew1) | exact HB.out)) hb); clear HB; have HB := n0_; clear n0_; (try clear hb); (try clear hb2); (try clear hk); (try clear hi)) | ((with_reducible refine gate_callee (f := 56) rfl ?_); refine goesL_ (some 77) rfl rfl Try.func56 (by kernel_rfl) rfl #[.int .i64 t272, .int .i64 t273] rfl (by (try simp only [List.map_toArray, List.map_cons, List.map_nil]); first | done | rfl | (simp only [List.length_drop, List.length_take]; rfl)) ?_; (with_reducible refine (impl_IsZuckerman.calls k t272 t273 t282 t283 _ A10.out).mono ?_); rintro e w18 ⟨rfl, hb⟩; refine ⟨_, rfl, ?_⟩; have n0_ := Aside0.mk (below_step (by repeat (first | (with_reducible first | exact HB.out | apply below_alloc | apply pw_below_drewN | apply below_drew1) | exact HB.out)) hb); clear HB; have HB := n0_; clear n0_; (try clear hb); (try clear hb2); (try clear hk); (try clear hi)) | ((with_reducible refine gate_callee (f := 57) rfl ?_); refine goesL_ (some 83) rfl rfl Try.func57 (by kernel_rfl) rfl #[.int .i64 t272, .int .i64 t273] rfl (by (try simp only [List.map_toArray, List.map_cons, List.map_nil]); first | done | rfl | (simp only [List.length_drop, List.length_take]; rfl)) ?_; (with_reducible refine (spec_IsZuckerman.calls k t272 t273 t284 t285 _ A11.out).mono ?_); rintro e w19 ⟨rfl, hb⟩; refine ⟨_, rfl, ?_⟩; have n0_ := Aside0.mk (below_step (by repeat (first | (with_reducible first | exact HB.out | apply below_alloc | apply pw_below_drewN | apply below_drew1) | exact HB.out)) hb); clear HB; have HB := n0_; clear n0_; (try clear hb); (try clear hb2); (try clear hk); (try clear hi)))
    (try simp only [Act.put, List.setIfInBounds_toArray, List.set_cons_zero, List.set_cons_succ])
    go_cut [125] (fun v125 wc => ∃ (kq : Nat) (x125_11 : Bool), v125 = .bool x125_11 ∧ Aside0 (laws_FnNumbersByDigits.j0 kq l1 t272 t273 t274 t275 t278 t279 t282 x125_11 = some r) ∧ Aside0 (kq ≤ k) ∧ Aside0 (Below w.heap.size w wc))
    case first =>
      have H := HC12.out
      clear HC12
      by_cases c20 : (t275 != t277) = true
      · rw [if_pos c20] at H
        have c20b0 : (t275 != t277) = true := c20
        (try (have c20b1 : decide (t275 = t277) = false := by simpa using c20))
        (try (have c20b2 : (t275 == t277) = false := by simpa using c20))
        (try (have c20b3 : ¬ (t275 = t277) := by simpa using c20))
        clear c20
        (first | rw [c20b0] | (simp only [i64_w, i32_w]; rw [c20b0]) | skip)
        exact (laws_FnNumbersByDigits.j0_no HR_.out _ _ _ _ _ _ _ _ _ H).elim
      · rw [if_neg c20] at H
        have c20b0 : (t275 != t277) = false := by simpa using c20
        (try (have c20b1 : decide (t275 = t277) = true := by simpa using c20))
        (try (have c20b2 : (t275 == t277) = true := by simpa using c20))
        clear c20
        (first | rw [c20b0] | (simp only [i64_w, i32_w]; rw [c20b0]) | skip)
        by_cases c21 : t274 = t276
        · rw [if_pos c21] at H
          have c21b0 : (t274 == t276) = true := beq_iff_eq.mpr c21
          have c21b1 : (t274 != t276) = false := bne_eq_false_iff_eq.mpr c21
          clear c21
          by_cases c22 : (t279 != t281) = true
          · rw [if_pos c22] at H
            have c22b0 : (t279 != t281) = true := c22
            (try (have c22b1 : decide (t279 = t281) = false := by simpa using c22))
            (try (have c22b2 : (t279 == t281) = false := by simpa using c22))
            (try (have c22b3 : ¬ (t279 = t281) := by simpa using c22))
            clear c22
            exact (laws_FnNumbersByDigits.j0_no HR_.out _ _ _ _ _ _ _ _ _ H).elim
          · rw [if_neg c22] at H
            have c22b0 : (t279 != t281) = false := by simpa using c22
            (try (have c22b1 : decide (t279 = t281) = true := by simpa using c22))
            (try (have c22b2 : (t279 == t281) = true := by simpa using c22))
            clear c22
            by_cases c23 : (t278 != t280) = true
            · rw [if_pos c23] at H
              have c23b0 : (t278 != t280) = true := c23
              (try (have c23b1 : decide (t278 = t280) = false := by simpa using c23))
              (try (have c23b2 : (t278 == t280) = false := by simpa using c23))
              (try (have c23b3 : ¬ (t278 = t280) := by simpa using c23))
              clear c23
              exact (laws_FnNumbersByDigits.j0_no HR_.out _ _ _ _ _ _ _ _ _ H).elim
            · rw [if_neg c23] at H
              have c23b0 : (t278 != t280) = false := by simpa using c23
              (try (have c23b1 : decide (t278 = t280) = true := by simpa using c23))
              (try (have c23b2 : (t278 == t280) = true := by simpa using c23))
              clear c23
              by_cases c24 : (t283 != t285) = true
              · rw [if_pos c24] at H
                have c24b0 : (t283 != t285) = true := c24
                (try (have c24b1 : decide (t283 = t285) = false := by simpa using c24))
                (try (have c24b2 : (t283 == t285) = false := by simpa using c24))
                (try (have c24b3 : ¬ (t283 = t285) := by simpa using c24))
                clear c24
                exact (laws_FnNumbersByDigits.j0_no HR_.out _ _ _ _ _ _ _ _ _ H).elim
              · rw [if_neg c24] at H
                have c24b0 : (t283 != t285) = false := by simpa using c24
                (try (have c24b1 : decide (t283 = t285) = true := by simpa using c24))
                (try (have c24b2 : (t283 == t285) = true := by simpa using c24))
                clear c24
                by_cases c25 : (t282 != t284) = true
                · rw [if_pos c25] at H
                  have c25b0 : (t282 != t284) = true := c25
                  (try (have c25b1 : decide (t282 = t284) = false := by simpa using c25))
                  (try (have c25b2 : (t282 == t284) = false := by simpa using c25))
                  (try (have c25b3 : ¬ (t282 = t284) := by simpa using c25))
                  clear c25
                  exact (laws_FnNumbersByDigits.j0_no HR_.out _ _ _ _ _ _ _ _ _ H).elim
                · rw [if_neg c25] at H
                  have c25b0 : (t282 != t284) = false := by simpa using c25
                  (try (have c25b1 : decide (t282 = t284) = true := by simpa using c25))
                  (try (have c25b2 : (t282 == t284) = true := by simpa using c25))
                  clear c25
                  by_cases c26 : (t283 != t279) = true
                  · rw [if_pos c26] at H
                    have c26b0 : (t283 != t279) = true := c26
                    (try (have c26b1 : decide (t283 = t279) = false := by simpa using c26))
                    (try (have c26b2 : (t283 == t279) = false := by simpa using c26))
                    (try (have c26b3 : ¬ (t283 = t279) := by simpa using c26))
                    clear c26
                    exact (laws_FnNumbersByDigits.j0_no HR_.out _ _ _ _ _ _ _ _ _ H).elim
                  · rw [if_neg c26] at H
                    have c26b0 : (t283 != t279) = false := by simpa using c26
                    (try (have c26b1 : decide (t283 = t279) = true := by simpa using c26))
                    (try (have c26b2 : (t283 == t279) = true := by simpa using c26))
                    clear c26
                    by_cases c27 : t275 = true
                    · subst c27
                      have H1 : (laws_FnNumbersByDigits.j0 k l1 t272 t273 t274 true t278 t279 t282 (!t279)) = some r := by rw [if_pos rfl] at H; exact H
                      clear H
                      have H := H1
                      clear H1
                      as_aux_lemma =>
                        have H' := Aside0.mk H
                        clear H
                        go_wp2
                        go_meet
                        case rel => exact ⟨_, (!t279), (by first | rfl | (simp; done) | (simp [*]; done)), H', ⟨by first | omega | exact Nat.le_refl _⟩, ⟨by repeat (first | (with_reducible first | exact HB.out | apply below_alloc | apply pw_below_drewN | apply below_drew1) | exact HB.out)⟩⟩
                    · replace c27 := Bool.eq_false_iff.mpr c27
                      subst c27
                      have H1 : (laws_FnNumbersByDigits.j0 k l1 t272 t273 t274 false t278 t279 t282 false) = some r := by rw [if_neg (show ¬ (false = true) by decide)] at H; exact H
                      clear H
                      have H := H1
                      clear H1
                      as_aux_lemma =>
                        have H' := Aside0.mk H
                        clear H
                        go_wp2
                        go_meet
                        case rel => exact ⟨_, (false), (by first | rfl | (simp; done) | (simp [*]; done)), H', ⟨by first | omega | exact Nat.le_refl _⟩, ⟨by repeat (first | (with_reducible first | exact HB.out | apply below_alloc | apply pw_below_drewN | apply below_drew1) | exact HB.out)⟩⟩
        · rw [if_neg c21] at H
          have c21b0 : (t274 == t276) = false := beq_eq_false_iff_ne.mpr c21
          have c21b1 : (t274 != t276) = true := bne_iff_ne.mpr c21
          exact (laws_FnNumbersByDigits.j0_no HR_.out _ _ _ _ _ _ _ _ _ H).elim
    case rest =>
      clear HC12
      try clear c1
      try clear c2
      try clear p2
      try clear c4
      try clear c5
      try clear c7
      try clear c20
      try clear c20b0
      try clear c20b1
      try clear c20b2
      try clear c21
      try clear c21b0
      try clear c21b1
      try clear c22
      try clear c22b0
      try clear c22b1
      try clear c22b2
      try clear c23
      try clear c23b0
      try clear c23b1
      try clear c23b2
      try clear c24
      try clear c24b0
      try clear c24b1
      try clear c24b2
      try clear c25
      try clear c25b0
      try clear c25b1
      try clear c25b2
      try clear c26
      try clear c26b0
      try clear c26b1
      try clear c26b2
      try clear c27
      obtain ⟨kq, x125_11, rfl, HA, HJ11, HB⟩ := hcut
      cases kq with
      | zero => exact absurd HA.out (by simp [laws_FnNumbersByDigits.j0])
      | succ kj11 =>
        have H := HA.out
        clear HA
        simp only [laws_FnNumbersByDigits.j0] at H
        by_cases c28 : x125_11 = true
        · subst c28
          have H1 : (some false) = some r := by rw [if_pos rfl] at H; exact H
          clear H
          have H := H1
          clear H1
          exact absurd (Option.some.inj H) (by rw [HR_.out]; decide)
        · replace c28 := Bool.eq_false_iff.mpr c28
          subst c28
          have H1 : (if t275 = true then ((impl_IsHarshad.f kj11 t274 t273).bind fun bt286 => (if bt286.2 = true then (if bt286.1 = true then (laws_FnNumbersByDigits.j1 kj11 l1 t272 t273 t274 t278 t279 t282 (decide (t274 ≤ t272))) else (laws_FnNumbersByDigits.j1 kj11 l1 t272 t273 t274 t278 t279 t282 true)) else (laws_FnNumbersByDigits.j1 kj11 l1 t272 t273 t274 t278 t279 t282 true))) else (laws_FnNumbersByDigits.j3 kj11 l1 t272 t273 t278 t279 t282)) = some r := by rw [if_neg (show ¬ (false = true) by decide)] at H; exact H
          clear H
          have H := H1
          clear H1
          have HC29 := Aside0.mk H
          clear H
          go_upto_if 126 with (fail)
          go_cut [] (fun wc => ∃ (kq : Nat), Aside0 (laws_FnNumbersByDigits.j3 kq l1 t272 t273 t278 t279 t282 = some r) ∧ Aside0 (kq ≤ kj11) ∧ Aside0 (Below w.heap.size w wc))
          case first =>
            have H := HC29.out
            clear HC29
            by_cases c30 : t275 = true
            · subst c30
              have H1 : ((impl_IsHarshad.f kj11 t274 t273).bind fun bt286 => (if bt286.2 = true then (if bt286.1 = true then (laws_FnNumbersByDigits.j1 kj11 l1 t272 t273 t274 t278 t279 t282 (decide (t274 ≤ t272))) else (laws_FnNumbersByDigits.j1 kj11 l1 t272 t273 t274 t278 t279 t282 true)) else (laws_FnNumbersByDigits.j1 kj11 l1 t272 t273 t274 t278 t279 t282 true))) = some r := by rw [if_pos rfl] at H; exact H
              clear H
              have H := H1
              clear H1
              replace H := Option.bind_eq_some_iff.mp H
              obtain ⟨⟨t286, t287⟩, A310, H⟩ := H
              replace H : (if t287 = true then (if t286 = true then (laws_FnNumbersByDigits.j1 kj11 l1 t272 t273 t274 t278 t279 t282 (decide (t274 ≤ t272))) else (laws_FnNumbersByDigits.j1 kj11 l1 t272 t273 t274 t278 t279 t282 true)) else (laws_FnNumbersByDigits.j1 kj11 l1 t272 t273 t274 t278 t279 t282 true)) = some r := H
              have A31 := Aside0.mk A310
              clear A310
              have HC32 := Aside0.mk H
              clear H
              go_upto_region 14 with (first | ((with_reducible refine gate_callee (f := 54) rfl ?_); refine goesL_ (some 130) rfl rfl Try.func54 (by kernel_rfl) rfl #[.int .i64 t274, .int .i64 t273] rfl (by (try simp only [List.map_toArray, List.map_cons, List.map_nil]); first | done | rfl | (simp only [List.length_drop, List.length_take]; rfl)) ?_; (with_reducible refine (impl_IsHarshad.calls kj11 t274 t273 t286 t287 _ A31.out).mono ?_); rintro e w33 ⟨rfl, hb⟩; refine ⟨_, rfl, ?_⟩; have n0_ := Aside0.mk (below_step (by repeat (first | (with_reducible first | exact HB.out | apply below_alloc | apply pw_below_drewN | apply below_drew1) | exact HB.out)) hb); clear HB; have HB := n0_; clear n0_; (try clear hb); (try clear hb2); (try clear hk); (try clear hi)))
              (try simp only [Act.put, List.setIfInBounds_toArray, List.set_cons_zero, List.set_cons_succ])
              go_cut [143] (fun v143 wc => ∃ (kq : Nat) (x143_31 : Bool), v143 = .bool x143_31 ∧ Aside0 (laws_FnNumbersByDigits.j1 kq l1 t272 t273 t274 t278 t279 t282 x143_31 = some r) ∧ Aside0 (kq ≤ kj11) ∧ Aside0 (Below w.heap.size w wc))
              case first =>
                have H := HC32.out
                clear HC32
                by_cases c34 : t287 = true
                · subst c34
                  have H1 : (if t286 = true then (laws_FnNumbersByDigits.j1 kj11 l1 t272 t273 t274 t278 t279 t282 (decide (t274 ≤ t272))) else (laws_FnNumbersByDigits.j1 kj11 l1 t272 t273 t274 t278 t279 t282 true)) = some r := by rw [if_pos rfl] at H; exact H
                  clear H
                  have H := H1
                  clear H1
                  by_cases c35 : t286 = true
                  · subst c35
                    have H1 : (laws_FnNumbersByDigits.j1 kj11 l1 t272 t273 t274 t278 t279 t282 (decide (t274 ≤ t272))) = some r := by rw [if_pos rfl] at H; exact H
                    clear H
                    have H := H1
                    clear H1
                    as_aux_lemma =>
                      have H' := Aside0.mk H
                      clear H
                      go_wp2
                      go_meet
                      case rel => exact ⟨_, (decide (t274 ≤ t272)), (by first | rfl | (simp; done) | (simp [*]; done)), H', ⟨by have := HJ11.out; first | omega | exact Nat.le_refl _⟩, ⟨by repeat (first | (with_reducible first | exact HB.out | apply below_alloc | apply pw_below_drewN | apply below_drew1) | exact HB.out)⟩⟩
                  · replace c35 := Bool.eq_false_iff.mpr c35
                    subst c35
                    have H1 : (laws_FnNumbersByDigits.j1 kj11 l1 t272 t273 t274 t278 t279 t282 true) = some r := by rw [if_neg (show ¬ (false = true) by decide)] at H; exact H
                    clear H
                    have H := H1
                    clear H1
                    exact (laws_FnNumbersByDigits.j1_no HR_.out _ _ _ _ _ _ _ _ H).elim
                · replace c34 := Bool.eq_false_iff.mpr c34
                  subst c34
                  have H1 : (laws_FnNumbersByDigits.j1 kj11 l1 t272 t273 t274 t278 t279 t282 true) = some r := by rw [if_neg (show ¬ (false = true) by decide)] at H; exact H
                  clear H
                  have H := H1
                  clear H1
                  exact (laws_FnNumbersByDigits.j1_no HR_.out _ _ _ _ _ _ _ _ H).elim
              case rest =>
                clear HC32
                try clear c1
                try clear c2
                try clear p2
                try clear c3
                try clear c4
                try clear c5
                try clear c7
                try clear c20
                try clear c20b0
                try clear c20b1
                try clear c20b2
                try clear c21
                try clear c21b0
                try clear c21b1
                try clear c22
                try clear c22b0
                try clear c22b1
                try clear c22b2
                try clear c23
                try clear c23b0
                try clear c23b1
                try clear c23b2
                try clear c24
                try clear c24b0
                try clear c24b1
                try clear c24b2
                try clear c25
                try clear c25b0
                try clear c25b1
                try clear c25b2
                try clear c26
                try clear c26b0
                try clear c26b1
                try clear c26b2
                try clear c27
                try clear c28
                try clear c30
                try clear c34
                try clear c35
                try clear p2
                obtain ⟨kq, x143_31, rfl, HA, HJ31, HB⟩ := hcut
                cases kq with
                | zero => exact absurd HA.out (by simp [laws_FnNumbersByDigits.j1])
                | succ kj31 =>
                  have H := HA.out
                  clear HA
                  simp only [laws_FnNumbersByDigits.j1] at H
                  by_cases c36 : x143_31 = true
                  · subst c36
                    have H1 : (some false) = some r := by rw [if_pos rfl] at H; exact H
                    clear H
                    have H := H1
                    clear H1
                    exact absurd (Option.some.inj H) (by rw [HR_.out]; decide)
                  · replace c36 := Bool.eq_false_iff.mpr c36
                    subst c36
                    have H1 : (laws_FnNumbersByDigits.l0 kj31 l1 t272 t273 t274 t278 t279 t282 (wrap64 (t272 + 1))) = some r := by rw [if_neg (show ¬ (false = true) by decide)] at H; exact H
                    clear H
                    have H := H1
                    clear H1
                    have H' := Aside0.mk H
                    clear H
                    go_wp2
                    go_loopg [21] kj31 (fun kq v21 w' => ∃ (x21_3 : Int), v21 = .int .i64 x21_3 ∧ Aside0 (laws_FnNumbersByDigits.l0 kq l1 t272 t273 t274 t278 t279 t282 x21_3 = some r) ∧ Aside0 (kq ≤ kj31) ∧ Aside0 (Below w.heap.size w w'))
                    case atStart => exact ⟨(wrap64 (t272 + 1)), (by first | rfl | (simp; done) | (simp [*]; done)), H', ⟨Nat.le_refl _⟩, ⟨by repeat (first | (with_reducible first | exact HB.out | apply below_alloc | apply pw_below_drewN | apply below_drew1) | exact HB.out)⟩⟩
                    case round =>
                      clear H'
                      try clear c1
                      try clear c2
                      try clear p2
                      try clear c3
                      try clear c4
                      try clear c5
                      try clear p6
                      try clear c7
                      try clear c20
                      try clear c20b0
                      try clear c20b1
                      try clear c20b2
                      try clear c21
                      try clear c21b0
                      try clear c21b1
                      try clear c22
                      try clear c22b0
                      try clear c22b1
                      try clear c22b2
                      try clear c23
                      try clear c23b0
                      try clear c23b1
                      try clear c23b2
                      try clear c24
                      try clear c24b0
                      try clear c24b1
                      try clear c24b2
                      try clear c25
                      try clear c25b0
                      try clear c25b1
                      try clear c25b2
                      try clear c26
                      try clear c26b0
                      try clear c26b1
                      try clear c26b2
                      try clear c27
                      try clear c28
                      try clear c30
                      try clear c34
                      try clear c35
                      try clear c36
                      try clear p2
                      obtain ⟨x21_3, rfl, HA, HK3, HB⟩ := hrel
                      cases gk with
                      | zero => exact absurd HA.out (by simp [laws_FnNumbersByDigits.l0])
                      | succ k3 =>
                        have H := HA.out
                        clear HA
                        simp only [laws_FnNumbersByDigits.l0] at H
                        by_cases c37 : x21_3 < t274
                        · rw [if_pos c37] at H
                          have c37b0 : decide (x21_3 < t274) = true := decide_eq_true c37
                          clear c37
                          replace H := Option.bind_eq_some_iff.mp H
                          obtain ⟨⟨t288, t289⟩, A380, H⟩ := H
                          replace H : (if t289 = true then (if t288 = true then (some false) else (laws_FnNumbersByDigits.l0 k3 l1 t272 t273 t274 t278 t279 t282 (wrap64 (x21_3 + 1)))) else (some false)) = some r := H
                          have A38 := Aside0.mk A380
                          clear A380
                          by_cases c39 : t289 = true
                          · subst c39
                            have H1 : (if t288 = true then (some false) else (laws_FnNumbersByDigits.l0 k3 l1 t272 t273 t274 t278 t279 t282 (wrap64 (x21_3 + 1)))) = some r := by rw [if_pos rfl] at H; exact H
                            clear H
                            have H := H1
                            clear H1
                            by_cases c40 : t288 = true
                            · subst c40
                              have H1 : (some false) = some r := by rw [if_pos rfl] at H; exact H
                              clear H
                              have H := H1
                              clear H1
                              exact absurd (Option.some.inj H) (by rw [HR_.out]; decide)
                            · replace c40 := Bool.eq_false_iff.mpr c40
                              subst c40
                              have H1 : (laws_FnNumbersByDigits.l0 k3 l1 t272 t273 t274 t278 t279 t282 (wrap64 (x21_3 + 1))) = some r := by rw [if_neg (show ¬ (false = true) by decide)] at H; exact H
                              clear H
                              have H := H1
                              clear H1
                              as_aux_lemma =>
                                have H' := Aside0.mk H
                                clear H
                                go_wp2_with (first | ((with_reducible refine gate_callee (f := 54) rfl ?_); refine goesL_ (some 154) rfl rfl Try.func54 (by kernel_rfl) rfl #[.int .i64 x21_3, .int .i64 t273] rfl (by (try simp only [List.map_toArray, List.map_cons, List.map_nil]); first | done | rfl | (simp only [List.length_drop, List.length_take]; rfl)) ?_; (with_reducible refine (impl_IsHarshad.calls k3 x21_3 t273 false true _ A38.out).mono ?_); rintro e w41 ⟨rfl, hb⟩; refine ⟨_, rfl, ?_⟩; have n0_ := Aside0.mk (below_step (by repeat (first | (with_reducible first | exact HB.out | apply below_alloc | apply pw_below_drewN | apply below_drew1) | exact HB.out)) hb); clear HB; have HB := n0_; clear n0_; (try clear hb); (try clear hb2); (try clear hk); (try clear hi)))
                                go_roundg k3
                                case measure => have := HJ11.out; have := HJ31.out; have := HK3.out; omega
                                case rel => exact ⟨(wrap64 (x21_3 + 1)), (by first | rfl | (simp; done) | (simp [*]; done)), H', ⟨by have := HJ11.out; have := HJ31.out; have := HK3.out; omega⟩, ⟨by repeat (first | (with_reducible first | exact HB.out | apply below_alloc | apply pw_below_drewN | apply below_drew1) | exact HB.out)⟩⟩
                          · replace c39 := Bool.eq_false_iff.mpr c39
                            subst c39
                            have H1 : (some false) = some r := by rw [if_neg (show ¬ (false = true) by decide)] at H; exact H
                            clear H
                            have H := H1
                            clear H1
                            exact absurd (Option.some.inj H) (by rw [HR_.out]; decide)
                        · rw [if_neg c37] at H
                          have c37b0 : decide (x21_3 < t274) = false := decide_eq_false c37
                          clear c37
                          as_aux_lemma =>
                            have H' := Aside0.mk H
                            clear H
                            go_wp2
                            go_meet
                            case rel => exact ⟨_, H', ⟨by have := HJ11.out; have := HJ31.out; have := HK3.out; first | omega | exact Nat.le_refl _⟩, ⟨by repeat (first | (with_reducible first | exact HB.out | apply below_alloc | apply pw_below_drewN | apply below_drew1) | exact HB.out)⟩⟩
            · replace c30 := Bool.eq_false_iff.mpr c30
              subst c30
              have H1 : (laws_FnNumbersByDigits.j3 kj11 l1 t272 t273 t278 t279 t282) = some r := by rw [if_neg (show ¬ (false = true) by decide)] at H; exact H
              clear H
              have H := H1
              clear H1
              as_aux_lemma =>
                have H' := Aside0.mk H
                clear H
                go_wp2
                go_meet
                case rel => exact ⟨_, H', ⟨by have := HJ11.out; first | omega | exact Nat.le_refl _⟩, ⟨by repeat (first | (with_reducible first | exact HB.out | apply below_alloc | apply pw_below_drewN | apply below_drew1) | exact HB.out)⟩⟩
          case rest =>
            clear HC29
            try clear c1
            try clear c2
            try clear p2
            try clear c3
            try clear c4
            try clear c5
            try clear p6
            try clear c7
            try clear c20
            try clear c20b0
            try clear c20b1
            try clear c20b2
            try clear c21
            try clear c21b0
            try clear c21b1
            try clear c22
            try clear c22b0
            try clear c22b1
            try clear c22b2
            try clear c23
            try clear c23b0
            try clear c23b1
            try clear c23b2
            try clear c24
            try clear c24b0
            try clear c24b1
            try clear c24b2
            try clear c25
            try clear c25b0
            try clear c25b1
            try clear c25b2
            try clear c26
            try clear c26b0
            try clear c26b1
            try clear c26b2
            try clear c27
            try clear c28
            try clear c30
            try clear c34
            try clear c35
            try clear c36
            try clear c37
            try clear c37b0
            try clear c39
            try clear c40
            try clear p2
            try clear p6
            obtain ⟨kq, HA, HJ28, HB⟩ := hcut
            cases kq with
            | zero => exact absurd HA.out (by simp [laws_FnNumbersByDigits.j3])
            | succ kj28 =>
              have H := HA.out
              clear HA
              simp only [laws_FnNumbersByDigits.j3] at H
              have HC42 := Aside0.mk H
              clear H
              go_upto_region 22 with (fail)
              go_cut [166] (fun v166 wc => ∃ (kq : Nat) (x166_41 : Bool), v166 = .bool x166_41 ∧ Aside0 (laws_FnNumbersByDigits.j4 kq l1 t272 t273 t278 t282 x166_41 = some r) ∧ Aside0 (kq ≤ kj28) ∧ Aside0 (Below w.heap.size w wc))
              case first =>
                have H := HC42.out
                clear HC42
                by_cases c43 : t279 = true
                · subst c43
                  have H1 : (laws_FnNumbersByDigits.j4 kj28 l1 t272 t273 t278 t282 (decide (t272 > 0))) = some r := by rw [if_pos rfl] at H; exact H
                  clear H
                  have H := H1
                  clear H1
                  as_aux_lemma =>
                    have H' := Aside0.mk H
                    clear H
                    go_wp2
                    go_meet
                    case rel => exact ⟨_, (decide (t272 > 0)), (by first | rfl | (simp; done) | (simp [*]; done)), H', ⟨by have := HJ11.out; have := HJ28.out; first | omega | exact Nat.le_refl _⟩, ⟨by repeat (first | (with_reducible first | exact HB.out | apply below_alloc | apply pw_below_drewN | apply below_drew1) | exact HB.out)⟩⟩
                · replace c43 := Bool.eq_false_iff.mpr c43
                  subst c43
                  have H1 : (laws_FnNumbersByDigits.j4 kj28 l1 t272 t273 t278 t282 false) = some r := by rw [if_neg (show ¬ (false = true) by decide)] at H; exact H
                  clear H
                  have H := H1
                  clear H1
                  as_aux_lemma =>
                    have H' := Aside0.mk H
                    clear H
                    go_wp2
                    go_meet
                    case rel => exact ⟨_, (false), (by first | rfl | (simp; done) | (simp [*]; done)), H', ⟨by have := HJ11.out; have := HJ28.out; first | omega | exact Nat.le_refl _⟩, ⟨by repeat (first | (with_reducible first | exact HB.out | apply below_alloc | apply pw_below_drewN | apply below_drew1) | exact HB.out)⟩⟩
              case rest =>
                clear HC42
                try clear c1
                try clear c2
                try clear p2
                try clear c3
                try clear c4
                try clear c5
                try clear p6
                try clear c7
                try clear c20
                try clear c20b0
                try clear c20b1
                try clear c20b2
                try clear c21
                try clear c21b0
                try clear c21b1
                try clear c22
                try clear c22b0
                try clear c22b1
                try clear c22b2
                try clear c23
                try clear c23b0
                try clear c23b1
                try clear c23b2
                try clear c24
                try clear c24b0
                try clear c24b1
                try clear c24b2
                try clear c25
                try clear c25b0
                try clear c25b1
                try clear c25b2
                try clear c26
                try clear c26b0
                try clear c26b1
                try clear c26b2
                try clear c27
                try clear c28
                try clear c30
                try clear c34
                try clear c35
                try clear c36
                try clear c37
                try clear c37b0
                try clear c39
                try clear c40
                try clear c43
                try clear p2
                try clear p6
                obtain ⟨kq, x166_41, rfl, HA, HJ41, HB⟩ := hcut
                cases kq with
                | zero => exact absurd HA.out (by simp [laws_FnNumbersByDigits.j4])
                | succ kj41 =>
                  have H := HA.out
                  clear HA
                  simp only [laws_FnNumbersByDigits.j4] at H
                  have HC44 := Aside0.mk H
                  clear H
                  go_upto_if 166 with (fail)
                  go_cut [] (fun wc => ∃ (kq : Nat), Aside0 (laws_FnNumbersByDigits.j5 kq l1 = some r) ∧ Aside0 (kq ≤ kj41) ∧ Aside0 (Below w.heap.size w wc))
                  case first =>
                    have H := HC44.out
                    clear HC44
                    by_cases c45 : x166_41 = true
                    · subst c45
                      have H1 : ((impl_DigitSum.f kj41 t272 t273).bind fun bt290 => ((impl_DigitProduct.f kj41 t272 t273).bind fun bt292 => (if bt290.2 = true then (if bt292.2 = true then (if bt290.1 = 0 then (none) else (if (t278 != ((Int.tmod t272 bt290.1) == 0)) = true then (some false) else (if bt292.1 > 0 then (if bt292.1 = 0 then (none) else (if (t282 != ((Int.tmod t272 bt292.1) == 0)) = true then (some false) else (laws_FnNumbersByDigits.j5 kj41 l1))) else (if (t282 != false) = true then (some false) else (laws_FnNumbersByDigits.j5 kj41 l1))))) else (some false)) else (some false)))) = some r := by rw [if_pos rfl] at H; exact H
                      clear H
                      have H := H1
                      clear H1
                      replace H := Option.bind_eq_some_iff.mp H
                      obtain ⟨⟨t290, t291⟩, A460, H⟩ := H
                      replace H : ((impl_DigitProduct.f kj41 t272 t273).bind fun bt292 => (if t291 = true then (if bt292.2 = true then (if t290 = 0 then (none) else (if (t278 != ((Int.tmod t272 t290) == 0)) = true then (some false) else (if bt292.1 > 0 then (if bt292.1 = 0 then (none) else (if (t282 != ((Int.tmod t272 bt292.1) == 0)) = true then (some false) else (laws_FnNumbersByDigits.j5 kj41 l1))) else (if (t282 != false) = true then (some false) else (laws_FnNumbersByDigits.j5 kj41 l1))))) else (some false)) else (some false))) = some r := H
                      have A46 := Aside0.mk A460
                      clear A460
                      replace H := Option.bind_eq_some_iff.mp H
                      obtain ⟨⟨t292, t293⟩, A470, H⟩ := H
                      replace H : (if t291 = true then (if t293 = true then (if t290 = 0 then (none) else (if (t278 != ((Int.tmod t272 t290) == 0)) = true then (some false) else (if t292 > 0 then (if t292 = 0 then (none) else (if (t282 != ((Int.tmod t272 t292) == 0)) = true then (some false) else (laws_FnNumbersByDigits.j5 kj41 l1))) else (if (t282 != false) = true then (some false) else (laws_FnNumbersByDigits.j5 kj41 l1))))) else (some false)) else (some false)) = some r := H
                      have A47 := Aside0.mk A470
                      clear A470
                      by_cases c48 : t291 = true
                      · subst c48
                        have H1 : (if t293 = true then (if t290 = 0 then (none) else (if (t278 != ((Int.tmod t272 t290) == 0)) = true then (some false) else (if t292 > 0 then (if t292 = 0 then (none) else (if (t282 != ((Int.tmod t272 t292) == 0)) = true then (some false) else (laws_FnNumbersByDigits.j5 kj41 l1))) else (if (t282 != false) = true then (some false) else (laws_FnNumbersByDigits.j5 kj41 l1))))) else (some false)) = some r := by rw [if_pos rfl] at H; exact H
                        clear H
                        have H := H1
                        clear H1
                        by_cases c49 : t293 = true
                        · subst c49
                          have H1 : (if t290 = 0 then (none) else (if (t278 != ((Int.tmod t272 t290) == 0)) = true then (some false) else (if t292 > 0 then (if t292 = 0 then (none) else (if (t282 != ((Int.tmod t272 t292) == 0)) = true then (some false) else (laws_FnNumbersByDigits.j5 kj41 l1))) else (if (t282 != false) = true then (some false) else (laws_FnNumbersByDigits.j5 kj41 l1))))) = some r := by rw [if_pos rfl] at H; exact H
                          clear H
                          have H := H1
                          clear H1
                          by_cases c50 : t290 = 0
                          · rw [if_pos c50] at H
                            exact absurd H (by simp)
                          · rw [if_neg c50] at H
                            have c50b0 : (t290 == 0) = false := beq_eq_false_iff_ne.mpr c50
                            have c50b1 : (t290 != 0) = true := bne_iff_ne.mpr c50
                            (first | rw [c50b0] | (simp only [i64_w, i32_w]; rw [c50b0]) | skip)
                            by_cases c51 : (t278 != ((Int.tmod t272 t290) == 0)) = true
                            · rw [if_pos c51] at H
                              have c51b0 : (t278 != ((Int.tmod t272 t290) == 0)) = true := c51
                              (try (have c51b1 : decide (t278 = ((Int.tmod t272 t290) == 0)) = false := by simpa using c51))
                              (try (have c51b2 : (t278 == ((Int.tmod t272 t290) == 0)) = false := by simpa using c51))
                              (try (have c51b3 : ¬ (t278 = ((Int.tmod t272 t290) == 0)) := by simpa using c51))
                              clear c51
                              exact absurd (Option.some.inj H) (by rw [HR_.out]; decide)
                            · rw [if_neg c51] at H
                              have c51b0 : (t278 != ((Int.tmod t272 t290) == 0)) = false := by simpa using c51
                              (try (have c51b1 : decide (t278 = ((Int.tmod t272 t290) == 0)) = true := by simpa using c51))
                              (try (have c51b2 : (t278 == ((Int.tmod t272 t290) == 0)) = true := by simpa using c51))
                              clear c51
                              by_cases c52 : t292 > 0
                              · rw [if_pos c52] at H
                                have c52b0 : decide (0 < t292) = true := decide_eq_true c52
                                clear c52
                                by_cases c53 : t292 = 0
                                · rw [if_pos c53] at H
                                  exact absurd H (by simp)
                                · rw [if_neg c53] at H
                                  have c53b0 : (t292 == 0) = false := beq_eq_false_iff_ne.mpr c53
                                  have c53b1 : (t292 != 0) = true := bne_iff_ne.mpr c53
                                  by_cases c54 : (t282 != ((Int.tmod t272 t292) == 0)) = true
                                  · rw [if_pos c54] at H
                                    have c54b0 : (t282 != ((Int.tmod t272 t292) == 0)) = true := c54
                                    (try (have c54b1 : decide (t282 = ((Int.tmod t272 t292) == 0)) = false := by simpa using c54))
                                    (try (have c54b2 : (t282 == ((Int.tmod t272 t292) == 0)) = false := by simpa using c54))
                                    (try (have c54b3 : ¬ (t282 = ((Int.tmod t272 t292) == 0)) := by simpa using c54))
                                    clear c54
                                    exact absurd (Option.some.inj H) (by rw [HR_.out]; decide)
                                  · rw [if_neg c54] at H
                                    have c54b0 : (t282 != ((Int.tmod t272 t292) == 0)) = false := by simpa using c54
                                    (try (have c54b1 : decide (t282 = ((Int.tmod t272 t292) == 0)) = true := by simpa using c54))
                                    (try (have c54b2 : (t282 == ((Int.tmod t272 t292) == 0)) = true := by simpa using c54))
                                    clear c54
                                    as_aux_lemma =>
                                      have H' := Aside0.mk H
                                      clear H
                                      go_wp2_with (first | ((with_reducible refine gate_callee (f := 58) rfl ?_); refine goesL_ (some 170) rfl rfl Try.func58 (by kernel_rfl) rfl #[.int .i64 t272, .int .i64 t273] rfl (by (try simp only [List.map_toArray, List.map_cons, List.map_nil]); first | done | rfl | (simp only [List.length_drop, List.length_take]; rfl)) ?_; (with_reducible refine (impl_DigitSum.calls kj41 t272 t273 t290 true _ A46.out).mono ?_); rintro e w55 ⟨rfl, hb⟩; refine ⟨_, rfl, ?_⟩; have n0_ := Aside0.mk (below_step (by repeat (first | (with_reducible first | exact HB.out | apply below_alloc | apply pw_below_drewN | apply below_drew1) | exact HB.out)) hb); clear HB; have HB := n0_; clear n0_; (try clear hb); (try clear hb2); (try clear hk); (try clear hi)) | ((with_reducible refine gate_callee (f := 59) rfl ?_); refine goesL_ (some 176) rfl rfl Try.func59 (by kernel_rfl) rfl #[.int .i64 t272, .int .i64 t273] rfl (by (try simp only [List.map_toArray, List.map_cons, List.map_nil]); first | done | rfl | (simp only [List.length_drop, List.length_take]; rfl)) ?_; (with_reducible refine (impl_DigitProduct.calls kj41 t272 t273 t292 true _ A47.out).mono ?_); rintro e w56 ⟨rfl, hb⟩; refine ⟨_, rfl, ?_⟩; have n0_ := Aside0.mk (below_step (by repeat (first | (with_reducible first | exact HB.out | apply below_alloc | apply pw_below_drewN | apply below_drew1) | exact HB.out)) hb); clear HB; have HB := n0_; clear n0_; (try clear hb); (try clear hb2); (try clear hk); (try clear hi)))
                                      go_meet
                                      case rel => exact ⟨_, H', ⟨by have := HJ11.out; have := HJ28.out; have := HJ41.out; first | omega | exact Nat.le_refl _⟩, ⟨by repeat (first | (with_reducible first | exact HB.out | apply below_alloc | apply pw_below_drewN | apply below_drew1) | exact HB.out)⟩⟩
                              · rw [if_neg c52] at H
                                have c52b0 : decide (0 < t292) = false := decide_eq_false c52
                                clear c52
                                by_cases c57 : (t282 != false) = true
                                · rw [if_pos c57] at H
                                  have c57b0 : (t282 != false) = true := c57
                                  (try (have c57b1 : decide (t282 = false) = false := by simpa using c57))
                                  (try (have c57b2 : (t282 == false) = false := by simpa using c57))
                                  (try (have c57b3 : ¬ (t282 = false) := by simpa using c57))
                                  clear c57
                                  exact absurd (Option.some.inj H) (by rw [HR_.out]; decide)
                                · rw [if_neg c57] at H
                                  have c57b0 : (t282 != false) = false := by simpa using c57
                                  (try (have c57b1 : decide (t282 = false) = true := by simpa using c57))
                                  (try (have c57b2 : (t282 == false) = true := by simpa using c57))
                                  clear c57
                                  as_aux_lemma =>
                                    have H' := Aside0.mk H
                                    clear H
                                    go_wp2_with (first | ((with_reducible refine gate_callee (f := 58) rfl ?_); refine goesL_ (some 170) rfl rfl Try.func58 (by kernel_rfl) rfl #[.int .i64 t272, .int .i64 t273] rfl (by (try simp only [List.map_toArray, List.map_cons, List.map_nil]); first | done | rfl | (simp only [List.length_drop, List.length_take]; rfl)) ?_; (with_reducible refine (impl_DigitSum.calls kj41 t272 t273 t290 true _ A46.out).mono ?_); rintro e w58 ⟨rfl, hb⟩; refine ⟨_, rfl, ?_⟩; have n0_ := Aside0.mk (below_step (by repeat (first | (with_reducible first | exact HB.out | apply below_alloc | apply pw_below_drewN | apply below_drew1) | exact HB.out)) hb); clear HB; have HB := n0_; clear n0_; (try clear hb); (try clear hb2); (try clear hk); (try clear hi)) | ((with_reducible refine gate_callee (f := 59) rfl ?_); refine goesL_ (some 176) rfl rfl Try.func59 (by kernel_rfl) rfl #[.int .i64 t272, .int .i64 t273] rfl (by (try simp only [List.map_toArray, List.map_cons, List.map_nil]); first | done | rfl | (simp only [List.length_drop, List.length_take]; rfl)) ?_; (with_reducible refine (impl_DigitProduct.calls kj41 t272 t273 t292 true _ A47.out).mono ?_); rintro e w59 ⟨rfl, hb⟩; refine ⟨_, rfl, ?_⟩; have n0_ := Aside0.mk (below_step (by repeat (first | (with_reducible first | exact HB.out | apply below_alloc | apply pw_below_drewN | apply below_drew1) | exact HB.out)) hb); clear HB; have HB := n0_; clear n0_; (try clear hb); (try clear hb2); (try clear hk); (try clear hi)))
                                    go_meet
                                    case rel => exact ⟨_, H', ⟨by have := HJ11.out; have := HJ28.out; have := HJ41.out; first | omega | exact Nat.le_refl _⟩, ⟨by repeat (first | (with_reducible first | exact HB.out | apply below_alloc | apply pw_below_drewN | apply below_drew1) | exact HB.out)⟩⟩
                        · replace c49 := Bool.eq_false_iff.mpr c49
                          subst c49
                          have H1 : (some false) = some r := by rw [if_neg (show ¬ (false = true) by decide)] at H; exact H
                          clear H
                          have H := H1
                          clear H1
                          exact absurd (Option.some.inj H) (by rw [HR_.out]; decide)
                      · replace c48 := Bool.eq_false_iff.mpr c48
                        subst c48
                        have H1 : (some false) = some r := by rw [if_neg (show ¬ (false = true) by decide)] at H; exact H
                        clear H
                        have H := H1
                        clear H1
                        exact absurd (Option.some.inj H) (by rw [HR_.out]; decide)
                    · replace c45 := Bool.eq_false_iff.mpr c45
                      subst c45
                      have H1 : (laws_FnNumbersByDigits.j5 kj41 l1) = some r := by rw [if_neg (show ¬ (false = true) by decide)] at H; exact H
                      clear H
                      have H := H1
                      clear H1
                      as_aux_lemma =>
                        have H' := Aside0.mk H
                        clear H
                        go_wp2
                        go_meet
                        case rel => exact ⟨_, H', ⟨by have := HJ11.out; have := HJ28.out; have := HJ41.out; first | omega | exact Nat.le_refl _⟩, ⟨by repeat (first | (with_reducible first | exact HB.out | apply below_alloc | apply pw_below_drewN | apply below_drew1) | exact HB.out)⟩⟩
                  case rest =>
                    clear HC44
                    try clear c1
                    try clear c2
                    try clear p2
                    try clear c3
                    try clear c4
                    try clear c5
                    try clear p6
                    try clear c7
                    try clear c20
                    try clear c20b0
                    try clear c20b1
                    try clear c20b2
                    try clear c21
                    try clear c21b0
                    try clear c21b1
                    try clear c22
                    try clear c22b0
                    try clear c22b1
                    try clear c22b2
                    try clear c23
                    try clear c23b0
                    try clear c23b1
                    try clear c23b2
                    try clear c24
                    try clear c24b0
                    try clear c24b1
                    try clear c24b2
                    try clear c25
                    try clear c25b0
                    try clear c25b1
                    try clear c25b2
                    try clear c26
                    try clear c26b0
                    try clear c26b1
                    try clear c26b2
                    try clear c27
                    try clear c28
                    try clear c30
                    try clear c34
                    try clear c35
                    try clear c36
                    try clear c37
                    try clear c37b0
                    try clear c39
                    try clear c40
                    try clear c43
                    try clear c45
                    try clear c48
                    try clear c49
                    try clear c50
                    try clear c50b0
                    try clear c50b1
                    try clear c51
                    try clear c51b0
                    try clear c51b1
                    try clear c51b2
                    try clear c52
                    try clear c52b0
                    try clear c53
                    try clear c53b0
                    try clear c53b1
                    try clear c54
                    try clear c54b0
                    try clear c54b1
                    try clear c54b2
                    try clear c57
                    try clear c57b0
                    try clear c57b1
                    try clear c57b2
                    try clear c58
                    try clear c59
                    try clear p2
                    try clear p6
                    obtain ⟨kq, HA, HJ43, HB⟩ := hcut
                    cases kq with
                    | zero => exact absurd HA.out (by simp [laws_FnNumbersByDigits.j5])
                    | succ kj43 =>
                      have H := HA.out
                      clear HA
                      simp only [laws_FnNumbersByDigits.j5] at H
                      replace H := Option.bind_eq_some_iff.mp H
                      obtain ⟨⟨t294, t295⟩, A600, H⟩ := H
                      replace H : ((impl_SumProductNumbers.f kj43 t294 t295).bind fun bt296 => ((spec_SumProductNumbers.f kj43 t294 t295).bind fun bt300 => (if (bt296.2 != bt300.2) = true then (laws_FnNumbersByDigits.j6 kj43 t294 bt296.1 true) else ((laws_qSame.f kj43 bt296.1 bt300.1).bind fun t304 => (laws_FnNumbersByDigits.j6 kj43 t294 bt296.1 (!t304)))))) = some r := H
                      have A60 := Aside0.mk A600
                      clear A600
                      replace H := Option.bind_eq_some_iff.mp H
                      obtain ⟨⟨t296, t297⟩, A610, H⟩ := H
                      replace H : ((spec_SumProductNumbers.f kj43 t294 t295).bind fun bt300 => (if (t297 != bt300.2) = true then (laws_FnNumbersByDigits.j6 kj43 t294 t296 true) else ((laws_qSame.f kj43 t296 bt300.1).bind fun t304 => (laws_FnNumbersByDigits.j6 kj43 t294 t296 (!t304))))) = some r := H
                      have A61 := Aside0.mk A610
                      clear A610
                      replace H := Option.bind_eq_some_iff.mp H
                      obtain ⟨⟨t300, t301⟩, A620, H⟩ := H
                      replace H : (if (t297 != t301) = true then (laws_FnNumbersByDigits.j6 kj43 t294 t296 true) else ((laws_qSame.f kj43 t296 t300).bind fun t304 => (laws_FnNumbersByDigits.j6 kj43 t294 t296 (!t304)))) = some r := H
                      have A62 := Aside0.mk A620
                      clear A620
                      have HC63 := Aside0.mk H
                      clear H
                      go_upto_region 30 with (first | ((with_reducible refine gate_callee (f := 60) rfl ?_); refine goesL_ (some 207) rfl rfl Try.func60 (by kernel_rfl) rfl #[.slice A1 l1.length c1] rfl (by (try simp only [List.map_toArray, List.map_cons, List.map_nil]); first | done | rfl | (simp only [List.length_drop, List.length_take]; rfl)) ?_; (with_reducible refine (spec_DrawSumProductNumbers.calls _ _ l1 t294 t295 _ ?side1 ?side2 A60.out).mono ?_); (case side1 => repeat (first | exact (Kd.C_below HR1.out HB.out) | (with_reducible refine Kd.C_alloc ?_ _) | (with_reducible refine Kd.C_drewN ?_ _) | (with_reducible refine Kd.C_drew ?_))); (case side2 => exact HC1.out); rintro e w64 ⟨rfl, hb⟩; refine ⟨_, rfl, ?_⟩; have n0_ := Aside0.mk (below_step (by repeat (first | (with_reducible first | exact HB.out | apply below_alloc | apply pw_below_drewN | apply below_drew1) | exact HB.out)) hb); clear HB; have HB := n0_; clear n0_; (try clear hb); (try clear hb2); (try clear hk); (try clear hi)) | ((with_reducible refine gate_callee (f := 61) rfl ?_); refine goesL_ (some 213) rfl rfl Try.func61 (by kernel_rfl) rfl #[.int .i64 t294, .int .i64 t295] rfl (by (try simp only [List.map_toArray, List.map_cons, List.map_nil]); first | done | rfl | (simp only [List.length_drop, List.length_take]; rfl)) ?_; (with_reducible refine (impl_SumProductNumbers.calls kj43 t294 t295 t296 t297 _ A61.out).mono ?_); rintro e w65 ⟨v298, rfl, ho0, hb⟩; refine ⟨_, rfl, ?_⟩; have n0_ := Aside0.mk (Kd.R_lower ho0 (below_size (by repeat (first | (with_reducible first | exact HB.out | apply below_alloc | apply pw_below_drewN | apply below_drew1) | exact HB.out)))); have n1_ := Aside0.mk (below_step (by repeat (first | (with_reducible first | exact HB.out | apply below_alloc | apply pw_below_drewN | apply below_drew1) | exact HB.out)) hb); clear HB; have HO299 := n0_; have HB := n1_; clear n0_ n1_; (try clear hb); (try clear hb2); (try clear hk); (try clear hi); (try clear ho0)) | ((with_reducible refine gate_callee (f := 62) rfl ?_); refine goesL_ (some 219) rfl rfl Try.func62 (by kernel_rfl) rfl #[.int .i64 t294, .int .i64 t295] rfl (by (try simp only [List.map_toArray, List.map_cons, List.map_nil]); first | done | rfl | (simp only [List.length_drop, List.length_take]; rfl)) ?_; (with_reducible refine (spec_SumProductNumbers.calls kj43 t294 t295 t300 t301 _ A62.out).mono ?_); rintro e w66 ⟨v302, rfl, ho0, hb⟩; refine ⟨_, rfl, ?_⟩; have n0_ := Aside0.mk (Kd.R_elder' (by (with_reducible repeat (first | apply Kd.R_alloc | apply Kd.R_drewN | apply Kd.R_drew)); exact HO299.out) (Kd.R_base ho0) hb); have n1_ := Aside0.mk (Kd.R_lower (Kd.R_new' ho0 (Kd.R_lt (by (with_reducible repeat (first | apply Kd.R_alloc | apply Kd.R_drewN | apply Kd.R_drew)); exact HO299.out))) (below_size (by repeat (first | (with_reducible first | exact HB.out | apply below_alloc | apply pw_below_drewN | apply below_drew1) | exact HB.out)))); have n2_ := Aside0.mk (below_step (by repeat (first | (with_reducible first | exact HB.out | apply below_alloc | apply pw_below_drewN | apply below_drew1) | exact HB.out)) hb); clear HO299; clear HB; have HO299 := n0_; have HO303 := n1_; have HB := n2_; clear n0_ n1_ n2_; (try clear hb); (try clear hb2); (try clear hk); (try clear hi); (try clear ho0)))
                      (try simp only [Act.put, List.setIfInBounds_toArray, List.set_cons_zero, List.set_cons_succ])
                      go_cut [230] (fun v230 wc => ∃ (kq : Nat) (x230_62 : Bool), v230 = .bool x230_62 ∧ Aside0 (laws_FnNumbersByDigits.j6 kq t294 t296 x230_62 = some r) ∧ Aside0 (kq ≤ kj43) ∧ Aside0 (Kd.R (Kd.int .i64) 3 wc w.heap.size (fun _ => True) v298 t296) ∧ Aside0 (Below w.heap.size w wc))
                      case first =>
                        have H := HC63.out
                        clear HC63
                        by_cases c67 : (t297 != t301) = true
                        · rw [if_pos c67] at H
                          have c67b0 : (t297 != t301) = true := c67
                          (try (have c67b1 : decide (t297 = t301) = false := by simpa using c67))
                          (try (have c67b2 : (t297 == t301) = false := by simpa using c67))
                          (try (have c67b3 : ¬ (t297 = t301) := by simpa using c67))
                          clear c67
                          (first | rw [c67b0] | (simp only [i64_w, i32_w]; rw [c67b0]) | skip)
                          exact (laws_FnNumbersByDigits.j6_no HR_.out _ _ _ H).elim
                        · rw [if_neg c67] at H
                          have c67b0 : (t297 != t301) = false := by simpa using c67
                          (try (have c67b1 : decide (t297 = t301) = true := by simpa using c67))
                          (try (have c67b2 : (t297 == t301) = true := by simpa using c67))
                          clear c67
                          (first | rw [c67b0] | (simp only [i64_w, i32_w]; rw [c67b0]) | skip)
                          replace H := Option.bind_eq_some_iff.mp H
                          obtain ⟨t304, A680, H⟩ := H
                          replace H : (laws_FnNumbersByDigits.j6 kj43 t294 t296 (!t304)) = some r := H
                          have A68 := Aside0.mk A680
                          clear A680
                          as_aux_lemma =>
                            have H' := Aside0.mk H
                            clear H
                            obtain ⟨Ao69, co69, eo69⟩ := Kd.R_slice HO299.out
                            subst eo69
                            obtain ⟨Ao70, co70, eo70⟩ := Kd.R_slice HO303.out
                            subst eo70
                            go_wp2_with (first | (go_at_call 32; (with_reducible refine (laws_qSame.calls kj43 _ _ t296 _ _ t300 t304 _ ?side1 ?side2 ?side3 ?side4 A68.out).mono ?_); (case side1 => repeat (first | exact (Kd.R_reads' HO299.out).2.2 | (with_reducible refine Kd.C_alloc ?_ _) | (with_reducible refine Kd.C_drewN ?_ _) | (with_reducible refine Kd.C_drew ?_))); (case side2 => exact (Kd.R_reads' HO299.out).2.1); (case side3 => repeat (first | exact (Kd.R_reads' HO303.out).2.2 | (with_reducible refine Kd.C_alloc ?_ _) | (with_reducible refine Kd.C_drewN ?_ _) | (with_reducible refine Kd.C_drew ?_))); (case side4 => exact (Kd.R_reads' HO303.out).2.1); rintro e w' ⟨rfl, ⟨nd, rfl⟩⟩))
                            go_meet
                            case rel => exact ⟨_, (!t304), (by first | rfl | (simp; done) | (simp [*]; done)), H', ⟨by have := HJ11.out; have := HJ28.out; have := HJ41.out; have := HJ43.out; first | omega | exact Nat.le_refl _⟩, ⟨by (with_reducible repeat (first | apply Kd.R_alloc | apply Kd.R_drewN | apply Kd.R_drew)); exact Kd.R_mono HO299.out (fun _ hk => trivial)⟩, ⟨by repeat (first | (with_reducible first | exact HB.out | apply below_alloc | apply pw_below_drewN | apply below_drew1) | exact HB.out)⟩⟩
                      case rest =>
                        clear HC63
                        try clear c1
                        try clear c2
                        try clear p2
                        try clear c3
                        try clear c4
                        try clear c5
                        try clear c6
                        try clear p6
                        try clear c7
                        try clear c20
                        try clear c20b0
                        try clear c20b1
                        try clear c20b2
                        try clear c21
                        try clear c21b0
                        try clear c21b1
                        try clear c22
                        try clear c22b0
                        try clear c22b1
                        try clear c22b2
                        try clear c23
                        try clear c23b0
                        try clear c23b1
                        try clear c23b2
                        try clear c24
                        try clear c24b0
                        try clear c24b1
                        try clear c24b2
                        try clear c25
                        try clear c25b0
                        try clear c25b1
                        try clear c25b2
                        try clear c26
                        try clear c26b0
                        try clear c26b1
                        try clear c26b2
                        try clear c27
                        try clear c28
                        try clear c30
                        try clear c34
                        try clear c35
                        try clear c36
                        try clear c37
                        try clear c37b0
                        try clear c39
                        try clear c40
                        try clear c43
                        try clear c45
                        try clear c48
                        try clear c49
                        try clear c50
                        try clear c50b0
                        try clear c50b1
                        try clear c51
                        try clear c51b0
                        try clear c51b1
                        try clear c51b2
                        try clear c52
                        try clear c52b0
                        try clear c53
                        try clear c53b0
                        try clear c53b1
                        try clear c54
                        try clear c54b0
                        try clear c54b1
                        try clear c54b2
                        try clear c57
                        try clear c57b0
                        try clear c57b1
                        try clear c57b2
                        try clear c58
                        try clear c59
                        try clear c60
                        try clear c61
                        try clear c62
                        try clear p64
                        try clear c67
                        try clear c67b0
                        try clear c67b1
                        try clear c67b2
                        try clear p2
                        try clear p6
                        obtain ⟨kq, x230_62, rfl, HA, HJ62, HO_30, HB⟩ := hcut
                        cases kq with
                        | zero => exact absurd HA.out (by simp [laws_FnNumbersByDigits.j6])
                        | succ kj62 =>
                          have H := HA.out
                          clear HA
                          simp only [laws_FnNumbersByDigits.j6] at H
                          by_cases c71 : x230_62 = true
                          · subst c71
                            have H1 : (some false) = some r := by rw [if_pos rfl] at H; exact H
                            clear H
                            have H := H1
                            clear H1
                            exact absurd (Option.some.inj H) (by rw [HR_.out]; decide)
                          · replace c71 := Bool.eq_false_iff.mpr c71
                            subst c71
                            have H1 : (laws_FnNumbersByDigits.l1 kj62 t294 t296 t296 (t296.length : Int) 0) = some r := by rw [if_neg (show ¬ (false = true) by decide)] at H; exact H
                            clear H
                            have H := H1
                            clear H1
                            have H' := Aside0.mk H
                            clear H
                            obtain ⟨Ao72, co72, eo72⟩ := Kd.R_slice HO_30.out
                            subst eo72
                            go_wp2
                            go_loopg [233] kj62 (fun kq v233 w' => ∃ (x233_6 : Int), v233 = .int .i64 x233_6 ∧ Aside0 (laws_FnNumbersByDigits.l1 kq t294 t296 t296 (t296.length : Int) x233_6 = some r) ∧ Aside0 (kq ≤ kj62) ∧ Aside0 (Kd.R (Kd.int .i64) 3 w' w.heap.size (fun _ => True) (.slice Ao72 t296.length co72) t296) ∧ Aside0 (Kd.R (Kd.int .i64) 3 w' w.heap.size (fun _ => True) (.slice Ao72 t296.length co72) t296) ∧ Aside0 (Below w.heap.size w w'))
                            case atStart => exact ⟨(0), (by first | rfl | (simp; done) | (simp [*]; done)), H', ⟨Nat.le_refl _⟩, ⟨by (with_reducible repeat (first | apply Kd.R_alloc | apply Kd.R_drewN | apply Kd.R_drew)); exact HO_30.out⟩, ⟨by (with_reducible repeat (first | apply Kd.R_alloc | apply Kd.R_drewN | apply Kd.R_drew)); exact HO_30.out⟩, ⟨by repeat (first | (with_reducible first | exact HB.out | apply below_alloc | apply pw_below_drewN | apply below_drew1) | exact HB.out)⟩⟩
                            case round =>
                              clear H'
                              try clear c1
                              try clear c2
                              try clear p2
                              try clear c3
                              try clear c4
                              try clear c5
                              try clear c6
                              try clear p6
                              try clear c7
                              try clear c20
                              try clear c20b0
                              try clear c20b1
                              try clear c20b2
                              try clear c21
                              try clear c21b0
                              try clear c21b1
                              try clear c22
                              try clear c22b0
                              try clear c22b1
                              try clear c22b2
                              try clear c23
                              try clear c23b0
                              try clear c23b1
                              try clear c23b2
                              try clear c24
                              try clear c24b0
                              try clear c24b1
                              try clear c24b2
                              try clear c25
                              try clear c25b0
                              try clear c25b1
                              try clear c25b2
                              try clear c26
                              try clear c26b0
                              try clear c26b1
                              try clear c26b2
                              try clear c27
                              try clear c28
                              try clear c30
                              try clear c34
                              try clear c35
                              try clear c36
                              try clear c37
                              try clear c37b0
                              try clear c39
                              try clear c40
                              try clear c43
                              try clear c45
                              try clear c48
                              try clear c49
                              try clear c50
                              try clear c50b0
                              try clear c50b1
                              try clear c51
                              try clear c51b0
                              try clear c51b1
                              try clear c51b2
                              try clear c52
                              try clear c52b0
                              try clear c53
                              try clear c53b0
                              try clear c53b1
                              try clear c54
                              try clear c54b0
                              try clear c54b1
                              try clear c54b2
                              try clear c57
                              try clear c57b0
                              try clear c57b1
                              try clear c57b2
                              try clear c58
                              try clear c59
                              try clear c60
                              try clear c61
                              try clear c62
                              try clear p64
                              try clear c67
                              try clear c67b0
                              try clear c67b1
                              try clear c67b2
                              try clear c71
                              try clear p2
                              try clear p6
                              try clear p64
                              obtain ⟨x233_6, rfl, HA, HK6, HO_30, HO_231, HB⟩ := hrel
                              cases gk with
                              | zero => exact absurd HA.out (by simp [laws_FnNumbersByDigits.l1])
                              | succ k6 =>
                                have H := HA.out
                                clear HA
                                simp only [laws_FnNumbersByDigits.l1] at H
                                by_cases c73 : x233_6 < (t296.length : Int)
                                · rw [if_pos c73] at H
                                  have c73b0 : decide (x233_6 < (t296.length : Int)) = true := decide_eq_true c73
                                  clear c73
                                  by_cases c74 : 0 ≤ x233_6
                                  · rw [if_pos c74] at H
                                    have c74b0 : decide (0 ≤ x233_6) = true := decide_eq_true c74
                                    clear c74
                                    by_cases c75 : x233_6 < (t296.length : Int)
                                    · rw [if_pos c75] at H
                                      have c75b0 : decide (x233_6 < (t296.length : Int)) = true := decide_eq_true c75
                                      clear c75
                                      replace H := Option.bind_eq_some_iff.mp H
                                      obtain ⟨⟨t306, t307⟩, A760, H⟩ := H
                                      replace H : ((impl_DigitProduct.f k6 (rd t296 x233_6) t294).bind fun bt308 => ((impl_IsHarshad.f k6 (rd t296 x233_6) t294).bind fun bt310 => (if t307 = true then (if bt308.2 = true then (if bt310.2 = true then (if (wrap64 (t306 * bt308.1)) = (rd t296 x233_6) then (if bt310.1 = true then (if x233_6 > 0 then (if 0 ≤ (wrap64 (x233_6 - 1)) then (if (wrap64 (x233_6 - 1)) < (t296.length : Int) then (if (rd t296 (wrap64 (x233_6 - 1))) ≥ (rd t296 x233_6) then (some false) else (laws_FnNumbersByDigits.l1 k6 t294 t296 t296 (t296.length : Int) (wrap64 (x233_6 + 1)))) else (none)) else (none)) else (laws_FnNumbersByDigits.l1 k6 t294 t296 t296 (t296.length : Int) (wrap64 (x233_6 + 1)))) else (some false)) else (some false)) else (some false)) else (some false)) else (some false)))) = some r := H
                                      have A76 := Aside0.mk A760
                                      clear A760
                                      replace H := Option.bind_eq_some_iff.mp H
                                      obtain ⟨⟨t308, t309⟩, A770, H⟩ := H
                                      replace H : ((impl_IsHarshad.f k6 (rd t296 x233_6) t294).bind fun bt310 => (if t307 = true then (if t309 = true then (if bt310.2 = true then (if (wrap64 (t306 * t308)) = (rd t296 x233_6) then (if bt310.1 = true then (if x233_6 > 0 then (if 0 ≤ (wrap64 (x233_6 - 1)) then (if (wrap64 (x233_6 - 1)) < (t296.length : Int) then (if (rd t296 (wrap64 (x233_6 - 1))) ≥ (rd t296 x233_6) then (some false) else (laws_FnNumbersByDigits.l1 k6 t294 t296 t296 (t296.length : Int) (wrap64 (x233_6 + 1)))) else (none)) else (none)) else (laws_FnNumbersByDigits.l1 k6 t294 t296 t296 (t296.length : Int) (wrap64 (x233_6 + 1)))) else (some false)) else (some false)) else (some false)) else (some false)) else (some false))) = some r := H
                                      have A77 := Aside0.mk A770
                                      clear A770
                                      replace H := Option.bind_eq_some_iff.mp H
                                      obtain ⟨⟨t310, t311⟩, A780, H⟩ := H
                                      replace H : (if t307 = true then (if t309 = true then (if t311 = true then (if (wrap64 (t306 * t308)) = (rd t296 x233_6) then (if t310 = true then (if x233_6 > 0 then (if 0 ≤ (wrap64 (x233_6 - 1)) then (if (wrap64 (x233_6 - 1)) < (t296.length : Int) then (if (rd t296 (wrap64 (x233_6 - 1))) ≥ (rd t296 x233_6) then (some false) else (laws_FnNumbersByDigits.l1 k6 t294 t296 t296 (t296.length : Int) (wrap64 (x233_6 + 1)))) else (none)) else (none)) else (laws_FnNumbersByDigits.l1 k6 t294 t296 t296 (t296.length : Int) (wrap64 (x233_6 + 1)))) else (some false)) else (some false)) else (some false)) else (some false)) else (some false)) = some r := H
                                      have A78 := Aside0.mk A780
                                      clear A780
                                      by_cases c79 : t307 = true
                                      · subst c79
                                        have H1 : (if t309 = true then (if t311 = true then (if (wrap64 (t306 * t308)) = (rd t296 x233_6) then (if t310 = true then (if x233_6 > 0 then (if 0 ≤ (wrap64 (x233_6 - 1)) then (if (wrap64 (x233_6 - 1)) < (t296.length : Int) then (if (rd t296 (wrap64 (x233_6 - 1))) ≥ (rd t296 x233_6) then (some false) else (laws_FnNumbersByDigits.l1 k6 t294 t296 t296 (t296.length : Int) (wrap64 (x233_6 + 1)))) else (none)) else (none)) else (laws_FnNumbersByDigits.l1 k6 t294 t296 t296 (t296.length : Int) (wrap64 (x233_6 + 1)))) else (some false)) else (some false)) else (some false)) else (some false)) = some r := by rw [if_pos rfl] at H; exact H
                                        clear H
                                        have H := H1
                                        clear H1
                                        by_cases c80 : t309 = true
                                        · subst c80
                                          have H1 : (if t311 = true then (if (wrap64 (t306 * t308)) = (rd t296 x233_6) then (if t310 = true then (if x233_6 > 0 then (if 0 ≤ (wrap64 (x233_6 - 1)) then (if (wrap64 (x233_6 - 1)) < (t296.length : Int) then (if (rd t296 (wrap64 (x233_6 - 1))) ≥ (rd t296 x233_6) then (some false) else (laws_FnNumbersByDigits.l1 k6 t294 t296 t296 (t296.length : Int) (wrap64 (x233_6 + 1)))) else (none)) else (none)) else (laws_FnNumbersByDigits.l1 k6 t294 t296 t296 (t296.length : Int) (wrap64 (x233_6 + 1)))) else (some false)) else (some false)) else (some false)) = some r := by rw [if_pos rfl] at H; exact H
                                          clear H
                                          have H := H1
                                          clear H1
                                          by_cases c81 : t311 = true
                                          · subst c81
                                            have H1 : (if (wrap64 (t306 * t308)) = (rd t296 x233_6) then (if t310 = true then (if x233_6 > 0 then (if 0 ≤ (wrap64 (x233_6 - 1)) then (if (wrap64 (x233_6 - 1)) < (t296.length : Int) then (if (rd t296 (wrap64 (x233_6 - 1))) ≥ (rd t296 x233_6) then (some false) else (laws_FnNumbersByDigits.l1 k6 t294 t296 t296 (t296.length : Int) (wrap64 (x233_6 + 1)))) else (none)) else (none)) else (laws_FnNumbersByDigits.l1 k6 t294 t296 t296 (t296.length : Int) (wrap64 (x233_6 + 1)))) else (some false)) else (some false)) = some r := by rw [if_pos rfl] at H; exact H
                                            clear H
                                            have H := H1
                                            clear H1
                                            by_cases c82 : (wrap64 (t306 * t308)) = (rd t296 x233_6)
                                            · rw [if_pos c82] at H
                                              have c82b0 : ((wrap64 (t306 * t308)) == (rd t296 x233_6)) = true := beq_iff_eq.mpr c82
                                              have c82b1 : ((wrap64 (t306 * t308)) != (rd t296 x233_6)) = false := bne_eq_false_iff_eq.mpr c82
                                              clear c82
                                              by_cases c83 : t310 = true
                                              · subst c83
                                                have H1 : (if x233_6 > 0 then (if 0 ≤ (wrap64 (x233_6 - 1)) then (if (wrap64 (x233_6 - 1)) < (t296.length : Int) then (if (rd t296 (wrap64 (x233_6 - 1))) ≥ (rd t296 x233_6) then (some false) else (laws_FnNumbersByDigits.l1 k6 t294 t296 t296 (t296.length : Int) (wrap64 (x233_6 + 1)))) else (none)) else (none)) else (laws_FnNumbersByDigits.l1 k6 t294 t296 t296 (t296.length : Int) (wrap64 (x233_6 + 1)))) = some r := by rw [if_pos rfl] at H; exact H
                                                clear H
                                                have H := H1
                                                clear H1
                                                by_cases c84 : x233_6 > 0
                                                · rw [if_pos c84] at H
                                                  have c84b0 : decide (0 < x233_6) = true := decide_eq_true c84
                                                  clear c84
                                                  obtain ⟨ji85, hji85⟩ : ∃ j_ : Int, (wrap64 (x233_6 - 1)) = j_ := ⟨_, rfl⟩
                                                  replace H : (if 0 ≤ (ji85) then (if (ji85) < (t296.length : Int) then (if (rd t296 (ji85)) ≥ (rd t296 x233_6) then (some false) else (laws_FnNumbersByDigits.l1 k6 t294 t296 t296 (t296.length : Int) (wrap64 (x233_6 + 1)))) else (none)) else (none)) = some r := by first | (rw [hji85] at H; exact H) | (simp only [hji85] at H ⊢; exact H)
                                                  (try rw [hji85] at A76)
                                                  (try rw [hji85] at A77)
                                                  (try rw [hji85] at A78)
                                                  have hji85w : (IntKind.i64.wrap (x233_6 - 1)) = ji85 := (i64_w _).trans hji85
                                                  by_cases c86 : 0 ≤ (ji85)
                                                  · rw [if_pos c86] at H
                                                    have c86b0 : decide (0 ≤ (ji85)) = true := decide_eq_true c86
                                                    clear c86
                                                    by_cases c87 : (ji85) < (t296.length : Int)
                                                    · rw [if_pos c87] at H
                                                      have c87b0 : decide ((ji85) < (t296.length : Int)) = true := decide_eq_true c87
                                                      clear c87
                                                      by_cases c88 : (rd t296 (ji85)) ≥ (rd t296 x233_6)
                                                      · rw [if_pos c88] at H
                                                        have c88b0 : decide ((rd t296 x233_6) ≤ (rd t296 (ji85))) = true := decide_eq_true c88
                                                        clear c88
                                                        exact absurd (Option.some.inj H) (by rw [HR_.out]; decide)
                                                      · rw [if_neg c88] at H
                                                        have c88b0 : decide ((rd t296 x233_6) ≤ (rd t296 (ji85))) = false := decide_eq_false c88
                                                        clear c88
                                                        as_aux_lemma =>
                                                          have H' := Aside0.mk H
                                                          clear H
                                                          have p305 : 0 ≤ (x233_6 : Int) := of_decide_eq_true (by first | (with_reducible assumption) | assumption)
                                                          have q305 : x233_6 < (t296.length : Int) := of_decide_eq_true (by first | (with_reducible assumption) | assumption)
                                                          obtain ⟨ad305, e305, hx305_0⟩ := Kd.at_int (Kd.R_reads' HO_231.out).2.2 x233_6 p305 q305
                                                          cases e305
                                                          replace p305 := eq_true p305
                                                          replace q305 := eq_true q305
                                                          go_wp2_with (first | ((with_reducible refine gate_callee (f := 58) rfl ?_); refine goesL_ (some 241) rfl rfl Try.func58 (by kernel_rfl) rfl #[.int .i64 (rd t296 x233_6), .int .i64 t294] rfl (by (try simp only [List.map_toArray, List.map_cons, List.map_nil]); first | done | rfl | (simp only [List.length_drop, List.length_take]; rfl)) ?_; (with_reducible refine (impl_DigitSum.calls k6 (rd t296 x233_6) t294 t306 true _ A76.out).mono ?_); rintro e w89 ⟨rfl, hb⟩; refine ⟨_, rfl, ?_⟩; have n0_ := Aside0.mk (Kd.R_below (by (with_reducible repeat (first | apply Kd.R_alloc | apply Kd.R_drewN | apply Kd.R_drew)); exact HO_30.out) hb); have n1_ := Aside0.mk (Kd.R_below (by (with_reducible repeat (first | apply Kd.R_alloc | apply Kd.R_drewN | apply Kd.R_drew)); exact HO_231.out) hb); have n2_ := Aside0.mk (below_step (by repeat (first | (with_reducible first | exact HB.out | apply below_alloc | apply pw_below_drewN | apply below_drew1) | exact HB.out)) hb); clear HO_30; clear HO_231; clear HB; have HO_30 := n0_; have HO_231 := n1_; have HB := n2_; clear n0_ n1_ n2_; (try clear hb); (try clear hb2); (try clear hk); (try clear hi)) | ((with_reducible refine gate_callee (f := 59) rfl ?_); refine goesL_ (some 247) rfl rfl Try.func59 (by kernel_rfl) rfl #[.int .i64 (rd t296 x233_6), .int .i64 t294] rfl (by (try simp only [List.map_toArray, List.map_cons, List.map_nil]); first | done | rfl | (simp only [List.length_drop, List.length_take]; rfl)) ?_; (with_reducible refine (impl_DigitProduct.calls k6 (rd t296 x233_6) t294 t308 true _ A77.out).mono ?_); rintro e w90 ⟨rfl, hb⟩; refine ⟨_, rfl, ?_⟩; have n0_ := Aside0.mk (Kd.R_below (by (with_reducible repeat (first | apply Kd.R_alloc | apply Kd.R_drewN | apply Kd.R_drew)); exact HO_30.out) hb); have n1_ := Aside0.mk (Kd.R_below (by (with_reducible repeat (first | apply Kd.R_alloc | apply Kd.R_drewN | apply Kd.R_drew)); exact HO_231.out) hb); have n2_ := Aside0.mk (below_step (by repeat (first | (with_reducible first | exact HB.out | apply below_alloc | apply pw_below_drewN | apply below_drew1) | exact HB.out)) hb); clear HO_30; clear HO_231; clear HB; have HO_30 := n0_; have HO_231 := n1_; have HB := n2_; clear n0_ n1_ n2_; (try clear hb); (try clear hb2); (try clear hk); (try clear hi)) | ((with_reducible refine gate_callee (f := 54) rfl ?_); refine goesL_ (some 253) rfl rfl Try.func54 (by kernel_rfl) rfl #[.int .i64 (rd t296 x233_6), .int .i64 t294] rfl (by (try simp only [List.map_toArray, List.map_cons, List.map_nil]); first | done | rfl | (simp only [List.length_drop, List.length_take]; rfl)) ?_; (with_reducible refine (impl_IsHarshad.calls k6 (rd t296 x233_6) t294 true true _ A78.out).mono ?_); rintro e w91 ⟨rfl, hb⟩; refine ⟨_, rfl, ?_⟩; have n0_ := Aside0.mk (Kd.R_below (by (with_reducible repeat (first | apply Kd.R_alloc | apply Kd.R_drewN | apply Kd.R_drew)); exact HO_30.out) hb); have n1_ := Aside0.mk (Kd.R_below (by (with_reducible repeat (first | apply Kd.R_alloc | apply Kd.R_drewN | apply Kd.R_drew)); exact HO_231.out) hb); have n2_ := Aside0.mk (below_step (by repeat (first | (with_reducible first | exact HB.out | apply below_alloc | apply pw_below_drewN | apply below_drew1) | exact HB.out)) hb); clear HO_30; clear HO_231; clear HB; have HO_30 := n0_; have HO_231 := n1_; have HB := n2_; clear n0_ n1_ n2_; (try clear hb); (try clear hb2); (try clear hk); (try clear hi); have p312 : 0 ≤ ((ji85) : Int) := of_decide_eq_true (by first | (with_reducible assumption) | assumption); have q312 : (ji85) < (t296.length : Int) := of_decide_eq_true (by first | (with_reducible assumption) | assumption); obtain ⟨ad312, e312, hx312_0⟩ := Kd.at_int (Kd.R_reads' HO_30.out).2.2 (ji85) p312 q312; obtain rfl : ad305 = ad312 := (by injection e312); replace p312 := eq_true p312; replace q312 := eq_true q312))
                                                          go_roundg k6
                                                          case measure => have := HJ11.out; have := HJ28.out; have := HJ41.out; have := HJ43.out; have := HJ62.out; have := HK6.out; omega
                                                          case rel => exact ⟨(wrap64 (x233_6 + 1)), (by first | rfl | (simp; done) | (simp [*]; done)), H', ⟨by have := HJ11.out; have := HJ28.out; have := HJ41.out; have := HJ43.out; have := HJ62.out; have := HK6.out; omega⟩, ⟨by (with_reducible repeat (first | apply Kd.R_alloc | apply Kd.R_drewN | apply Kd.R_drew)); exact HO_30.out⟩, ⟨by (with_reducible repeat (first | apply Kd.R_alloc | apply Kd.R_drewN | apply Kd.R_drew)); exact HO_231.out⟩, ⟨by repeat (first | (with_reducible first | exact HB.out | apply below_alloc | apply pw_below_drewN | apply below_drew1) | exact HB.out)⟩⟩
                                                    · rw [if_neg c87] at H
                                                      exact absurd H (by simp)
                                                  · rw [if_neg c86] at H
                                                    exact absurd H (by simp)
                                                · rw [if_neg c84] at H
                                                  have c84b0 : decide (0 < x233_6) = false := decide_eq_false c84
                                                  clear c84
                                                  as_aux_lemma =>
                                                    have H' := Aside0.mk H
                                                    clear H
                                                    have p305 : 0 ≤ (x233_6 : Int) := of_decide_eq_true (by first | (with_reducible assumption) | assumption)
                                                    have q305 : x233_6 < (t296.length : Int) := of_decide_eq_true (by first | (with_reducible assumption) | assumption)
                                                    obtain ⟨ad305, e305, hx305_0⟩ := Kd.at_int (Kd.R_reads' HO_231.out).2.2 x233_6 p305 q305
                                                    cases e305
                                                    replace p305 := eq_true p305
                                                    replace q305 := eq_true q305
                                                    go_wp2_with (first | ((with_reducible refine gate_callee (f := 58) rfl ?_); refine goesL_ (some 241) rfl rfl Try.func58 (by kernel_rfl) rfl #[.int .i64 (rd t296 x233_6), .int .i64 t294] rfl (by (try simp only [List.map_toArray, List.map_cons, List.map_nil]); first | done | rfl | (simp only [List.length_drop, List.length_take]; rfl)) ?_; (with_reducible refine (impl_DigitSum.calls k6 (rd t296 x233_6) t294 t306 true _ A76.out).mono ?_); rintro e w92 ⟨rfl, hb⟩; refine ⟨_, rfl, ?_⟩; have n0_ := Aside0.mk (Kd.R_below (by (with_reducible repeat (first | apply Kd.R_alloc | apply Kd.R_drewN | apply Kd.R_drew)); exact HO_30.out) hb); have n1_ := Aside0.mk (Kd.R_below (by (with_reducible repeat (first | apply Kd.R_alloc | apply Kd.R_drewN | apply Kd.R_drew)); exact HO_231.out) hb); have n2_ := Aside0.mk (below_step (by repeat (first | (with_reducible first | exact HB.out | apply below_alloc | apply pw_below_drewN | apply below_drew1) | exact HB.out)) hb); clear HO_30; clear HO_231; clear HB; have HO_30 := n0_; have HO_231 := n1_; have HB := n2_; clear n0_ n1_ n2_; (try clear hb); (try clear hb2); (try clear hk); (try clear hi)) | ((with_reducible refine gate_callee (f := 59) rfl ?_); refine goesL_ (some 247) rfl rfl Try.func59 (by kernel_rfl) rfl #[.int .i64 (rd t296 x233_6), .int .i64 t294] rfl (by (try simp only [List.map_toArray, List.map_cons, List.map_nil]); first | done | rfl | (simp only [List.length_drop, List.length_take]; rfl)) ?_; (with_reducible refine (impl_DigitProduct.calls k6 (rd t296 x233_6) t294 t308 true _ A77.out).mono ?_); rintro e w93 ⟨rfl, hb⟩; refine ⟨_, rfl, ?_⟩; have n0_ := Aside0.mk (Kd.R_below (by (with_reducible repeat (first | apply Kd.R_alloc | apply Kd.R_drewN | apply Kd.R_drew)); exact HO_30.out) hb); have n1_ := Aside0.mk (Kd.R_below (by (with_reducible repeat (first | apply Kd.R_alloc | apply Kd.R_drewN | apply Kd.R_drew)); exact HO_231.out) hb); have n2_ := Aside0.mk (below_step (by repeat (first | (with_reducible first | exact HB.out | apply below_alloc | apply pw_below_drewN | apply below_drew1) | exact HB.out)) hb); clear HO_30; clear HO_231; clear HB; have HO_30 := n0_; have HO_231 := n1_; have HB := n2_; clear n0_ n1_ n2_; (try clear hb); (try clear hb2); (try clear hk); (try clear hi)) | ((with_reducible refine gate_callee (f := 54) rfl ?_); refine goesL_ (some 253) rfl rfl Try.func54 (by kernel_rfl) rfl #[.int .i64 (rd t296 x233_6), .int .i64 t294] rfl (by (try simp only [List.map_toArray, List.map_cons, List.map_nil]); first | done | rfl | (simp only [List.length_drop, List.length_take]; rfl)) ?_; (with_reducible refine (impl_IsHarshad.calls k6 (rd t296 x233_6) t294 true true _ A78.out).mono ?_); rintro e w94 ⟨rfl, hb⟩; refine ⟨_, rfl, ?_⟩; have n0_ := Aside0.mk (Kd.R_below (by (with_reducible repeat (first | apply Kd.R_alloc | apply Kd.R_drewN | apply Kd.R_drew)); exact HO_30.out) hb); have n1_ := Aside0.mk (Kd.R_below (by (with_reducible repeat (first | apply Kd.R_alloc | apply Kd.R_drewN | apply Kd.R_drew)); exact HO_231.out) hb); have n2_ := Aside0.mk (below_step (by repeat (first | (with_reducible first | exact HB.out | apply below_alloc | apply pw_below_drewN | apply below_drew1) | exact HB.out)) hb); clear HO_30; clear HO_231; clear HB; have HO_30 := n0_; have HO_231 := n1_; have HB := n2_; clear n0_ n1_ n2_; (try clear hb); (try clear hb2); (try clear hk); (try clear hi)))
                                                    go_roundg k6
                                                    case measure => have := HJ11.out; have := HJ28.out; have := HJ41.out; have := HJ43.out; have := HJ62.out; have := HK6.out; omega
                                                    case rel => exact ⟨(wrap64 (x233_6 + 1)), (by first | rfl | (simp; done) | (simp [*]; done)), H', ⟨by have := HJ11.out; have := HJ28.out; have := HJ41.out; have := HJ43.out; have := HJ62.out; have := HK6.out; omega⟩, ⟨by (with_reducible repeat (first | apply Kd.R_alloc | apply Kd.R_drewN | apply Kd.R_drew)); exact HO_30.out⟩, ⟨by (with_reducible repeat (first | apply Kd.R_alloc | apply Kd.R_drewN | apply Kd.R_drew)); exact HO_231.out⟩, ⟨by repeat (first | (with_reducible first | exact HB.out | apply below_alloc | apply pw_below_drewN | apply below_drew1) | exact HB.out)⟩⟩
                                              · replace c83 := Bool.eq_false_iff.mpr c83
                                                subst c83
                                                have H1 : (some false) = some r := by rw [if_neg (show ¬ (false = true) by decide)] at H; exact H
                                                clear H
                                                have H := H1
                                                clear H1
                                                exact absurd (Option.some.inj H) (by rw [HR_.out]; decide)
                                            · rw [if_neg c82] at H
                                              have c82b0 : ((wrap64 (t306 * t308)) == (rd t296 x233_6)) = false := beq_eq_false_iff_ne.mpr c82
                                              have c82b1 : ((wrap64 (t306 * t308)) != (rd t296 x233_6)) = true := bne_iff_ne.mpr c82
                                              exact absurd (Option.some.inj H) (by rw [HR_.out]; decide)
                                          · replace c81 := Bool.eq_false_iff.mpr c81
                                            subst c81
                                            have H1 : (some false) = some r := by rw [if_neg (show ¬ (false = true) by decide)] at H; exact H
                                            clear H
                                            have H := H1
                                            clear H1
                                            exact absurd (Option.some.inj H) (by rw [HR_.out]; decide)
                                        · replace c80 := Bool.eq_false_iff.mpr c80
                                          subst c80
                                          have H1 : (some false) = some r := by rw [if_neg (show ¬ (false = true) by decide)] at H; exact H
                                          clear H
                                          have H := H1
                                          clear H1
                                          exact absurd (Option.some.inj H) (by rw [HR_.out]; decide)
                                      · replace c79 := Bool.eq_false_iff.mpr c79
                                        subst c79
                                        have H1 : (some false) = some r := by rw [if_neg (show ¬ (false = true) by decide)] at H; exact H
                                        clear H
                                        have H := H1
                                        clear H1
                                        exact absurd (Option.some.inj H) (by rw [HR_.out]; decide)
                                    · rw [if_neg c75] at H
                                      exact absurd H (by simp)
                                  · rw [if_neg c74] at H
                                    exact absurd H (by simp)
                                · rw [if_neg c73] at H
                                  have c73b0 : decide (x233_6 < (t296.length : Int)) = false := decide_eq_false c73
                                  clear c73
                                  as_aux_lemma =>
                                    obtain rfl := Option.some.inj H
                                    go_wp2
                                    go_ret
                                    exact ⟨by first | rfl | (simp [errW_none, errW_some] <;> rfl) | (simp [*, errW_none, errW_some] <;> rfl), by repeat (first | (with_reducible first | exact HB.out | apply below_alloc | apply pw_below_drewN | apply below_drew1) | exact HB.out)⟩

/-- THE ONE PURE STATEMENT of laws_FnNumbersByDigits: yours. -/
def laws_FnNumbersByDigits.Pure : Prop := ∀ (l0 : List Int) (l1 : List Int), l0.length ≤ maxLen → l0.length * 1 ≤ 140737488351232 → (∀ x ∈ l0, (Lit.int .u8 x).wf = true) → l1.length ≤ maxLen → l1.length * 1 ≤ 140737488351232 → (∀ x ∈ l1, (Lit.int .u8 x).wf = true) → ∃ k, laws_FnNumbersByDigits.f k l0 l1 = some true
theorem laws_FnNumbersByDigits.walk (P : laws_FnNumbersByDigits.Pure) (a0 : Option Addr) (len0 cap0 : Nat) (z0 : List Int) (a1 : Option Addr) (len1 cap1 : Nat) (z1 : List Int) (w : World) (w0 : (a0 = none ∧ len0 = 0 ∧ cap0 = 0 ∧ z0 = []) ∨ ∃ x, a0 = some x ∧ len0 ≤ cap0 ∧ cap0 ≤ maxLen ∧ z0.length = cap0 ∧ (∀ i, i < z0.length → w.cell? (x.add i) = some (.int .u8 (z0.getD i 0))) ∧ ∀ n ∈ z0, (Lit.int .u8 n).wf = true) (y0 : len0 * 1 ≤ 140737488351232) (w1 : (a1 = none ∧ len1 = 0 ∧ cap1 = 0 ∧ z1 = []) ∨ ∃ x, a1 = some x ∧ len1 ≤ cap1 ∧ cap1 ≤ maxLen ∧ z1.length = cap1 ∧ (∀ i, i < z1.length → w.cell? (x.add i) = some (.int .u8 (z1.getD i 0))) ∧ ∀ n ∈ z1, (Lit.int .u8 n).wf = true) (y1 : len1 * 1 ≤ 140737488351232) :
    Calls Try.prog 7 #[.slice a0 len0 cap0, .slice a1 len1 cap1] w fun e w' => e = .returned (.bool true) ∧ Below w.heap.size w w' := by
  obtain ⟨l0, rfl, hr0, hm0, hw0, hc0⟩ := ReadsInt.ofRowC w0
  obtain ⟨l1, rfl, hr1, hm1, hw1, hc1⟩ := ReadsInt.ofRowC w1
  obtain ⟨k, h⟩ := P l0 l1 hm0 y0 hw0 hm1 y1 hw1
  refine (laws_FnNumbersByDigits.calls k _ _ l0 _ _ l1 true w (Kd.C_of_reads (d := (0 : Int)) (h1 := fun _ => rfl) hr0) hc0 (Kd.C_of_reads (d := (0 : Int)) (h1 := fun _ => rfl) hr1) hc1 h rfl).mono ?_
  rintro e w' ⟨rfl, hd⟩
  exact ⟨rfl, hd⟩

end Go.Proofs.Ytikkpehjleoplaa.PFnNumbersByDigits
