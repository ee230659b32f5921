-- out of the kit's print, turned by wip/own_print.py
import Derived.Test.YtikkpehjleoplaaPFnHappyCountedx0
import Derived.Test.YtikkpehjleoplaaPFnHappyCountedx1
import Derived.Test.YtikkpehjleoplaaPFnHappyCountedx3
import Derived.Test.YtikkpehjleoplaaPFnHappyCountedx4
import Derived.Test.YtikkpehjleoplaaPFnHappyCountedx5
import Derived.Test.YtikkpehjleoplaaPFnHappyCountedx6
import Derived.Test.YtikkpehjleoplaaPFnHappyCountedx7
namespace Go.Proofs.Ytikkpehjleoplaa.PFnHappyCounted
open Go.RowKit Go.Proofs.YtikkpehjleoplaaW.PrintWords Go.Proofs.YtikkpehjleoplaaW.PrintLast Go.Proofs.YtikkpehjleoplaaW.PrintMore
attribute [local go_sem] max2_int min2_int max_two min_two max_three min_three max_four min_four   -- for this text's walks alone
set_option linter.unusedVariables false
set_option linter.unusedSimpArgs false

/-! ### laws_FnHappyCounted: function 14 -/
mutual
def laws_FnHappyCounted.j0 : Nat → List Int → Int → Int → Int → Bool → List Int → Bool → Option (Bool)
  | 0, _, _, _, _, _, _, _ => none
  | k + 1, x1, x5, x6, x7, x8, x11, x95 => if x95 = true then (some false) else (if x8 = true then (laws_FnHappyCounted.l0 k x1 x5 x6 x7 x11 1 0 0) else (laws_FnHappyCounted.j4 k x1))
def laws_FnHappyCounted.j4 : Nat → List Int → Option (Bool)
  | 0, _ => none
  | k + 1, x1 => (spec_DrawHappyUpTo.f x1).bind fun bt345 => ((impl_HappyUpTo.f k bt345.1 bt345.2).bind fun bt347 => ((spec_HappyUpTo.f k bt345.1 bt345.2).bind fun bt351 => ((spec_DrawIsHappy.f k x1).bind fun bt355 => ((impl_IsHappy.f k bt355.1 bt355.2).bind fun bt357 => ((spec_IsHappy.f k bt355.1 bt355.2).bind fun bt359 => (if (bt347.2 != bt351.2) = true then (laws_FnHappyCounted.j5 k bt355.1 bt355.2 bt357.1 bt357.2 true) else ((laws_rSame.f k bt347.1 bt351.1).bind fun t361 => (if t361 = true then (if (bt357.2 != bt359.2) = true then (laws_FnHappyCounted.j5 k bt355.1 bt355.2 bt357.1 bt357.2 true) else (if (bt357.1 != bt359.1) = true then (laws_FnHappyCounted.j5 k bt355.1 bt355.2 bt357.1 bt357.2 true) else ((laws_rRising.f k bt347.1).bind fun t362 => (laws_FnHappyCounted.j5 k bt355.1 bt355.2 bt357.1 bt357.2 (!t362))))) else (laws_FnHappyCounted.j5 k bt355.1 bt355.2 bt357.1 bt357.2 true)))))))))
def laws_FnHappyCounted.j5 : Nat → Int → Int → Bool → Bool → Bool → Option (Bool)
  | 0, _, _, _, _, _ => none
  | k + 1, x30, x31, x32, x33, x221 => if x221 = true then (some false) else (if x33 = true then ((impl_PowerSum.f k x30 x31 2).bind fun bt363 => ((impl_IsHappy.f k bt363.1 x31).bind fun bt365 => (if bt363.2 = true then (if bt365.2 = true then (some (bt365.1 == x32)) else (some false)) else (some false)))) else (some true))
def laws_FnHappyCounted.l0 : Nat → List Int → Int → Int → Int → List Int → Int → Int → Int → Option (Bool)
  | 0, _, _, _, _, _, _, _, _ => none
  | k + 1, x1, x5, x6, x7, x11, x15, x16, x17 => if x17 < x5 then (laws_FnHappyCounted.l0 k x1 x5 x6 x7 x11 (wrap64 (x15 * x6)) x16 (wrap64 (x17 + 1))) else (laws_FnHappyCounted.l1 k x1 x5 x6 x7 x11 x15 x16 x11 (x11.length : Int) 0)
def laws_FnHappyCounted.l1 : Nat → List Int → Int → Int → Int → List Int → Int → Int → List Int → Int → Int → Option (Bool)
  | 0, _, _, _, _, _, _, _, _, _, _ => none
  | k + 1, x1, x5, x6, x7, x11, x15, x16, x105, x106, x107 => if x107 < x106 then (if 0 ≤ x107 then (if x107 < (x105.length : Int) then ((impl_IsHappy.f k x107 x6).bind fun bt338 => (if bt338.2 = true then (if bt338.1 = true then (laws_FnHappyCounted.l1 k x1 x5 x6 x7 x11 x15 (wrap64 (x16 + (rd x105 x107))) x105 x106 (wrap64 (x107 + 1))) else (laws_FnHappyCounted.l1 k x1 x5 x6 x7 x11 x15 x16 x105 x106 (wrap64 (x107 + 1)))) else (some false))) else (none)) else (none)) else ((laws_rSum.f k x11).bind fun t340 => (if t340 = x15 then (if x16 = x7 then (laws_FnHappyCounted.j3 k x1 x6 x7 x15 ((x11.length : Int) != (wrap64 ((wrap64 ((wrap64 (x5 * (wrap64 (x6 - 1)))) * (wrap64 (x6 - 1)))) + 1)))) else (laws_FnHappyCounted.j3 k x1 x6 x7 x15 true)) else (laws_FnHappyCounted.j3 k x1 x6 x7 x15 true)))
def laws_FnHappyCounted.j3 : Nat → List Int → Int → Int → Int → Bool → Option (Bool)
  | 0, _, _, _, _, _ => none
  | k + 1, x1, x6, x7, x15, x146 => if x146 = true then (some false) else (if x15 ≤ 2001 then ((impl_HappyUpTo.f k (wrap64 (x15 - 1)) x6).bind fun bt341 => (if bt341.2 = true then (if (bt341.1.length : Int) = x7 then (laws_FnHappyCounted.j4 k x1) else (some false)) else (some false))) else (laws_FnHappyCounted.j4 k x1))
end
def laws_FnHappyCounted.f (k : Nat) (l0 : List Int) (l1 : List Int) : Option (Bool) := (laws_big.f l0 l1).bind fun t321 => (if t321 = true then (some true) else ((spec_DrawCountHappy.f l0).bind fun bt322 => ((impl_CountHappy.f k bt322.1 bt322.2).bind fun bt324 => ((spec_CountHappy.f k bt322.1 bt322.2).bind fun bt326 => ((impl_SumsSpread.f k bt322.1 bt322.2).bind fun bt328 => ((spec_SumsSpread.f k bt322.1 bt322.2).bind fun bt332 => (if (bt324.2 != bt326.2) = true then (laws_FnHappyCounted.j0 k l1 bt322.1 bt322.2 bt324.1 bt324.2 bt328.1 true) else (if bt324.1 = bt326.1 then (if (bt328.2 != bt332.2) = true then (laws_FnHappyCounted.j0 k l1 bt322.1 bt322.2 bt324.1 bt324.2 bt328.1 true) else ((laws_rSame.f k bt328.1 bt332.1).bind fun t336 => (if t336 = true then (laws_FnHappyCounted.j0 k l1 bt322.1 bt322.2 bt324.1 bt324.2 bt328.1 (bt328.2 != bt324.2)) else (laws_FnHappyCounted.j0 k l1 bt322.1 bt322.2 bt324.1 bt324.2 bt328.1 true)))) else (laws_FnHappyCounted.j0 k l1 bt322.1 bt322.2 bt324.1 bt324.2 bt328.1 true)))))))))
theorem laws_FnHappyCounted.mono_l : ∀ k, (∀ y0 y1 y2 y3 y4 y5 y6, LeO (laws_FnHappyCounted.j0 k y0 y1 y2 y3 y4 y5 y6) (laws_FnHappyCounted.j0 (k + 1) y0 y1 y2 y3 y4 y5 y6)) ∧ (∀ y0, LeO (laws_FnHappyCounted.j4 k y0) (laws_FnHappyCounted.j4 (k + 1) y0)) ∧ (∀ y0 y1 y2 y3 y4, LeO (laws_FnHappyCounted.j5 k y0 y1 y2 y3 y4) (laws_FnHappyCounted.j5 (k + 1) y0 y1 y2 y3 y4)) ∧ (∀ y0 y1 y2 y3 y4 y5 y6 y7, LeO (laws_FnHappyCounted.l0 k y0 y1 y2 y3 y4 y5 y6 y7) (laws_FnHappyCounted.l0 (k + 1) y0 y1 y2 y3 y4 y5 y6 y7)) ∧ (∀ y0 y1 y2 y3 y4 y5 y6 y7 y8 y9, LeO (laws_FnHappyCounted.l1 k y0 y1 y2 y3 y4 y5 y6 y7 y8 y9) (laws_FnHappyCounted.l1 (k + 1) y0 y1 y2 y3 y4 y5 y6 y7 y8 y9)) ∧ (∀ y0 y1 y2 y3 y4, LeO (laws_FnHappyCounted.j3 k y0 y1 y2 y3 y4) (laws_FnHappyCounted.j3 (k + 1) y0 y1 y2 y3 y4))
  | 0 => ⟨fun _ _ _ _ _ _ _ r h => by simp [laws_FnHappyCounted.j0] at h, fun _ r h => by simp [laws_FnHappyCounted.j4] at h, fun _ _ _ _ _ r h => by simp [laws_FnHappyCounted.j5] at h, fun _ _ _ _ _ _ _ _ r h => by simp [laws_FnHappyCounted.l0] at h, fun _ _ _ _ _ _ _ _ _ _ r h => by simp [laws_FnHappyCounted.l1] at h, fun _ _ _ _ _ r h => by simp [laws_FnHappyCounted.j3] at h⟩
  | k + 1 => by
    obtain ⟨ih0, ih1, ih2, ih3, ih4, ih5⟩ := laws_FnHappyCounted.mono_l k
    refine ⟨?_, ?_, ?_, ?_, ?_, ?_⟩
    · intro y0 y1 y2 y3 y4 y5 y6
      unfold laws_FnHappyCounted.j0
      repeat' first
      | (with_reducible exact ih0 _ _ _ _ _ _ _)
      | (with_reducible exact ih1 _)
      | (with_reducible exact ih2 _ _ _ _ _)
      | (with_reducible exact ih3 _ _ _ _ _ _ _ _)
      | (with_reducible exact ih4 _ _ _ _ _ _ _ _ _ _)
      | (with_reducible exact ih5 _ _ _ _ _)
      | (with_reducible exact impl_CountHappy.mono _ _ _)
      | (with_reducible exact impl_HappyUpTo.mono _ _ _)
      | (with_reducible exact impl_IsHappy.mono _ _ _)
      | (with_reducible exact impl_PowerSum.mono _ _ _ _)
      | (with_reducible exact impl_SumsSpread.mono _ _ _)
      | (with_reducible exact laws_rRising.mono _ _)
      | (with_reducible exact laws_rSame.mono _ _ _)
      | (with_reducible exact laws_rSum.mono _ _)
      | (with_reducible exact spec_CountHappy.mono _ _ _)
      | (with_reducible exact spec_DrawIsHappy.mono _ _)
      | (with_reducible exact spec_HappyUpTo.mono _ _ _)
      | (with_reducible exact spec_IsHappy.mono _ _ _)
      | (with_reducible exact spec_SumsSpread.mono _ _ _)
      | (with_reducible exact LeO.refl _)
      | (with_reducible exact LeO.none _)
      | (with_reducible refine LeO.ite ?_ ?_)
      | (with_reducible refine LeO.bind ?_ (fun _ => ?_))
      | exact ih0 _ _ _ _ _ _ _
      | exact ih1 _
      | exact ih2 _ _ _ _ _
      | exact ih3 _ _ _ _ _ _ _ _
      | exact ih4 _ _ _ _ _ _ _ _ _ _
      | exact ih5 _ _ _ _ _
      | exact impl_CountHappy.mono _ _ _
      | exact impl_HappyUpTo.mono _ _ _
      | exact impl_IsHappy.mono _ _ _
      | exact impl_PowerSum.mono _ _ _ _
      | exact impl_SumsSpread.mono _ _ _
      | exact laws_rRising.mono _ _
      | exact laws_rSame.mono _ _ _
      | exact laws_rSum.mono _ _
      | exact spec_CountHappy.mono _ _ _
      | exact spec_DrawIsHappy.mono _ _
      | exact spec_HappyUpTo.mono _ _ _
      | exact spec_IsHappy.mono _ _ _
      | exact spec_SumsSpread.mono _ _ _
      | exact LeO.none _
      | refine LeO.ite ?_ ?_
      | refine LeO.bind ?_ (fun _ => ?_)
    · intro y0
      unfold laws_FnHappyCounted.j4
      repeat' first
      | (with_reducible exact ih0 _ _ _ _ _ _ _)
      | (with_reducible exact ih1 _)
      | (with_reducible exact ih2 _ _ _ _ _)
      | (with_reducible exact ih3 _ _ _ _ _ _ _ _)
      | (with_reducible exact ih4 _ _ _ _ _ _ _ _ _ _)
      | (with_reducible exact ih5 _ _ _ _ _)
      | (with_reducible exact impl_CountHappy.mono _ _ _)
      | (with_reducible exact impl_HappyUpTo.mono _ _ _)
      | (with_reducible exact impl_IsHappy.mono _ _ _)
      | (with_reducible exact impl_PowerSum.mono _ _ _ _)
      | (with_reducible exact impl_SumsSpread.mono _ _ _)
      | (with_reducible exact laws_rRising.mono _ _)
      | (with_reducible exact laws_rSame.mono _ _ _)
      | (with_reducible exact laws_rSum.mono _ _)
      | (with_reducible exact spec_CountHappy.mono _ _ _)
      | (with_reducible exact spec_DrawIsHappy.mono _ _)
      | (with_reducible exact spec_HappyUpTo.mono _ _ _)
      | (with_reducible exact spec_IsHappy.mono _ _ _)
      | (with_reducible exact spec_SumsSpread.mono _ _ _)
      | (with_reducible exact LeO.refl _)
      | (with_reducible exact LeO.none _)
      | (with_reducible refine LeO.ite ?_ ?_)
      | (with_reducible refine LeO.bind ?_ (fun _ => ?_))
      | exact ih0 _ _ _ _ _ _ _
      | exact ih1 _
      | exact ih2 _ _ _ _ _
      | exact ih3 _ _ _ _ _ _ _ _
      | exact ih4 _ _ _ _ _ _ _ _ _ _
      | exact ih5 _ _ _ _ _
      | exact impl_CountHappy.mono _ _ _
      | exact impl_HappyUpTo.mono _ _ _
      | exact impl_IsHappy.mono _ _ _
      | exact impl_PowerSum.mono _ _ _ _
      | exact impl_SumsSpread.mono _ _ _
      | exact laws_rRising.mono _ _
      | exact laws_rSame.mono _ _ _
      | exact laws_rSum.mono _ _
      | exact spec_CountHappy.mono _ _ _
      | exact spec_DrawIsHappy.mono _ _
      | exact spec_HappyUpTo.mono _ _ _
      | exact spec_IsHappy.mono _ _ _
      | exact spec_SumsSpread.mono _ _ _
      | exact LeO.none _
      | refine LeO.ite ?_ ?_
      | refine LeO.bind ?_ (fun _ => ?_)
    · intro y0 y1 y2 y3 y4
      unfold laws_FnHappyCounted.j5
      repeat' first
      | (with_reducible exact ih0 _ _ _ _ _ _ _)
      | (with_reducible exact ih1 _)
      | (with_reducible exact ih2 _ _ _ _ _)
      | (with_reducible exact ih3 _ _ _ _ _ _ _ _)
      | (with_reducible exact ih4 _ _ _ _ _ _ _ _ _ _)
      | (with_reducible exact ih5 _ _ _ _ _)
      | (with_reducible exact impl_CountHappy.mono _ _ _)
      | (with_reducible exact impl_HappyUpTo.mono _ _ _)
      | (with_reducible exact impl_IsHappy.mono _ _ _)
      | (with_reducible exact impl_PowerSum.mono _ _ _ _)
      | (with_reducible exact impl_SumsSpread.mono _ _ _)
      | (with_reducible exact laws_rRising.mono _ _)
      | (with_reducible exact laws_rSame.mono _ _ _)
      | (with_reducible exact laws_rSum.mono _ _)
      | (with_reducible exact spec_CountHappy.mono _ _ _)
      | (with_reducible exact spec_DrawIsHappy.mono _ _)
      | (with_reducible exact spec_HappyUpTo.mono _ _ _)
      | (with_reducible exact spec_IsHappy.mono _ _ _)
      | (with_reducible exact spec_SumsSpread.mono _ _ _)
      | (with_reducible exact LeO.refl _)
      | (with_reducible exact LeO.none _)
      | (with_reducible refine LeO.ite ?_ ?_)
      | (with_reducible refine LeO.bind ?_ (fun _ => ?_))
      | exact ih0 _ _ _ _ _ _ _
      | exact ih1 _
      | exact ih2 _ _ _ _ _
      | exact ih3 _ _ _ _ _ _ _ _
      | exact ih4 _ _ _ _ _ _ _ _ _ _
      | exact ih5 _ _ _ _ _
      | exact impl_CountHappy.mono _ _ _
      | exact impl_HappyUpTo.mono _ _ _
      | exact impl_IsHappy.mono _ _ _
      | exact impl_PowerSum.mono _ _ _ _
      | exact impl_SumsSpread.mono _ _ _
      | exact laws_rRising.mono _ _
      | exact laws_rSame.mono _ _ _
      | exact laws_rSum.mono _ _
      | exact spec_CountHappy.mono _ _ _
      | exact spec_DrawIsHappy.mono _ _
      | exact spec_HappyUpTo.mono _ _ _
      | exact spec_IsHappy.mono _ _ _
      | exact spec_SumsSpread.mono _ _ _
      | exact LeO.none _
      | refine LeO.ite ?_ ?_
      | refine LeO.bind ?_ (fun _ => ?_)
    · intro y0 y1 y2 y3 y4 y5 y6 y7
      unfold laws_FnHappyCounted.l0
      repeat' first
      | (with_reducible exact ih0 _ _ _ _ _ _ _)
      | (with_reducible exact ih1 _)
      | (with_reducible exact ih2 _ _ _ _ _)
      | (with_reducible exact ih3 _ _ _ _ _ _ _ _)
      | (with_reducible exact ih4 _ _ _ _ _ _ _ _ _ _)
      | (with_reducible exact ih5 _ _ _ _ _)
      | (with_reducible exact impl_CountHappy.mono _ _ _)
      | (with_reducible exact impl_HappyUpTo.mono _ _ _)
      | (with_reducible exact impl_IsHappy.mono _ _ _)
      | (with_reducible exact impl_PowerSum.mono _ _ _ _)
      | (with_reducible exact impl_SumsSpread.mono _ _ _)
      | (with_reducible exact laws_rRising.mono _ _)
      | (with_reducible exact laws_rSame.mono _ _ _)
      | (with_reducible exact laws_rSum.mono _ _)
      | (with_reducible exact spec_CountHappy.mono _ _ _)
      | (with_reducible exact spec_DrawIsHappy.mono _ _)
      | (with_reducible exact spec_HappyUpTo.mono _ _ _)
      | (with_reducible exact spec_IsHappy.mono _ _ _)
      | (with_reducible exact spec_SumsSpread.mono _ _ _)
      | (with_reducible exact LeO.refl _)
      | (with_reducible exact LeO.none _)
      | (with_reducible refine LeO.ite ?_ ?_)
      | (with_reducible refine LeO.bind ?_ (fun _ => ?_))
      | exact ih0 _ _ _ _ _ _ _
      | exact ih1 _
      | exact ih2 _ _ _ _ _
      | exact ih3 _ _ _ _ _ _ _ _
      | exact ih4 _ _ _ _ _ _ _ _ _ _
      | exact ih5 _ _ _ _ _
      | exact impl_CountHappy.mono _ _ _
      | exact impl_HappyUpTo.mono _ _ _
      | exact impl_IsHappy.mono _ _ _
      | exact impl_PowerSum.mono _ _ _ _
      | exact impl_SumsSpread.mono _ _ _
      | exact laws_rRising.mono _ _
      | exact laws_rSame.mono _ _ _
      | exact laws_rSum.mono _ _
      | exact spec_CountHappy.mono _ _ _
      | exact spec_DrawIsHappy.mono _ _
      | exact spec_HappyUpTo.mono _ _ _
      | exact spec_IsHappy.mono _ _ _
      | exact spec_SumsSpread.mono _ _ _
      | exact LeO.none _
      | refine LeO.ite ?_ ?_
      | refine LeO.bind ?_ (fun _ => ?_)
    · intro y0 y1 y2 y3 y4 y5 y6 y7 y8 y9
      unfold laws_FnHappyCounted.l1
      repeat' first
      | (with_reducible exact ih0 _ _ _ _ _ _ _)
      | (with_reducible exact ih1 _)
      | (with_reducible exact ih2 _ _ _ _ _)
      | (with_reducible exact ih3 _ _ _ _ _ _ _ _)
      | (with_reducible exact ih4 _ _ _ _ _ _ _ _ _ _)
      | (with_reducible exact ih5 _ _ _ _ _)
      | (with_reducible exact impl_CountHappy.mono _ _ _)
      | (with_reducible exact impl_HappyUpTo.mono _ _ _)
      | (with_reducible exact impl_IsHappy.mono _ _ _)
      | (with_reducible exact impl_PowerSum.mono _ _ _ _)
      | (with_reducible exact impl_SumsSpread.mono _ _ _)
      | (with_reducible exact laws_rRising.mono _ _)
      | (with_reducible exact laws_rSame.mono _ _ _)
      | (with_reducible exact laws_rSum.mono _ _)
      | (with_reducible exact spec_CountHappy.mono _ _ _)
      | (with_reducible exact spec_DrawIsHappy.mono _ _)
      | (with_reducible exact spec_HappyUpTo.mono _ _ _)
      | (with_reducible exact spec_IsHappy.mono _ _ _)
      | (with_reducible exact spec_SumsSpread.mono _ _ _)
      | (with_reducible exact LeO.refl _)
      | (with_reducible exact LeO.none _)
      | (with_reducible refine LeO.ite ?_ ?_)
      | (with_reducible refine LeO.bind ?_ (fun _ => ?_))
      | exact ih0 _ _ _ _ _ _ _
      | exact ih1 _
      | exact ih2 _ _ _ _ _
      | exact ih3 _ _ _ _ _ _ _ _
      | exact ih4 _ _ _ _ _ _ _ _ _ _
      | exact ih5 _ _ _ _ _
      | exact impl_CountHappy.mono _ _ _
      | exact impl_HappyUpTo.mono _ _ _
      | exact impl_IsHappy.mono _ _ _
      | exact impl_PowerSum.mono _ _ _ _
      | exact impl_SumsSpread.mono _ _ _
      | exact laws_rRising.mono _ _
      | exact laws_rSame.mono _ _ _
      | exact laws_rSum.mono _ _
      | exact spec_CountHappy.mono _ _ _
      | exact spec_DrawIsHappy.mono _ _
      | exact spec_HappyUpTo.mono _ _ _
      | exact spec_IsHappy.mono _ _ _
      | exact spec_SumsSpread.mono _ _ _
      | exact LeO.none _
      | refine LeO.ite ?_ ?_
      | refine LeO.bind ?_ (fun _ => ?_)
    · intro y0 y1 y2 y3 y4
      unfold laws_FnHappyCounted.j3
      repeat' first
      | (with_reducible exact ih0 _ _ _ _ _ _ _)
      | (with_reducible exact ih1 _)
      | (with_reducible exact ih2 _ _ _ _ _)
      | (with_reducible exact ih3 _ _ _ _ _ _ _ _)
      | (with_reducible exact ih4 _ _ _ _ _ _ _ _ _ _)
      | (with_reducible exact ih5 _ _ _ _ _)
      | (with_reducible exact impl_CountHappy.mono _ _ _)
      | (with_reducible exact impl_HappyUpTo.mono _ _ _)
      | (with_reducible exact impl_IsHappy.mono _ _ _)
      | (with_reducible exact impl_PowerSum.mono _ _ _ _)
      | (with_reducible exact impl_SumsSpread.mono _ _ _)
      | (with_reducible exact laws_rRising.mono _ _)
      | (with_reducible exact laws_rSame.mono _ _ _)
      | (with_reducible exact laws_rSum.mono _ _)
      | (with_reducible exact spec_CountHappy.mono _ _ _)
      | (with_reducible exact spec_DrawIsHappy.mono _ _)
      | (with_reducible exact spec_HappyUpTo.mono _ _ _)
      | (with_reducible exact spec_IsHappy.mono _ _ _)
      | (with_reducible exact spec_SumsSpread.mono _ _ _)
      | (with_reducible exact LeO.refl _)
      | (with_reducible exact LeO.none _)
      | (with_reducible refine LeO.ite ?_ ?_)
      | (with_reducible refine LeO.bind ?_ (fun _ => ?_))
      | exact ih0 _ _ _ _ _ _ _
      | exact ih1 _
      | exact ih2 _ _ _ _ _
      | exact ih3 _ _ _ _ _ _ _ _
      | exact ih4 _ _ _ _ _ _ _ _ _ _
      | exact ih5 _ _ _ _ _
      | exact impl_CountHappy.mono _ _ _
      | exact impl_HappyUpTo.mono _ _ _
      | exact impl_IsHappy.mono _ _ _
      | exact impl_PowerSum.mono _ _ _ _
      | exact impl_SumsSpread.mono _ _ _
      | exact laws_rRising.mono _ _
      | exact laws_rSame.mono _ _ _
      | exact laws_rSum.mono _ _
      | exact spec_CountHappy.mono _ _ _
      | exact spec_DrawIsHappy.mono _ _
      | exact spec_HappyUpTo.mono _ _ _
      | exact spec_IsHappy.mono _ _ _
      | exact spec_SumsSpread.mono _ _ _
      | exact LeO.none _
      | refine LeO.ite ?_ ?_
      | refine LeO.bind ?_ (fun _ => ?_)
theorem laws_FnHappyCounted.mono : ∀ a0 a1 k, LeO (laws_FnHappyCounted.f k a0 a1) (laws_FnHappyCounted.f (k + 1) a0 a1) := by
  intro a0 a1 k
  obtain ⟨ih0, ih1, ih2, ih3, ih4, ih5⟩ := laws_FnHappyCounted.mono_l k
  unfold laws_FnHappyCounted.f
  repeat' first
      | (with_reducible exact ih0 _ _ _ _ _ _ _)
      | (with_reducible exact ih1 _)
      | (with_reducible exact ih2 _ _ _ _ _)
      | (with_reducible exact ih3 _ _ _ _ _ _ _ _)
      | (with_reducible exact ih4 _ _ _ _ _ _ _ _ _ _)
      | (with_reducible exact ih5 _ _ _ _ _)
      | (with_reducible exact impl_CountHappy.mono _ _ _)
      | (with_reducible exact impl_HappyUpTo.mono _ _ _)
      | (with_reducible exact impl_IsHappy.mono _ _ _)
      | (with_reducible exact impl_PowerSum.mono _ _ _ _)
      | (with_reducible exact impl_SumsSpread.mono _ _ _)
      | (with_reducible exact laws_rRising.mono _ _)
      | (with_reducible exact laws_rSame.mono _ _ _)
      | (with_reducible exact laws_rSum.mono _ _)
      | (with_reducible exact spec_CountHappy.mono _ _ _)
      | (with_reducible exact spec_DrawIsHappy.mono _ _)
      | (with_reducible exact spec_HappyUpTo.mono _ _ _)
      | (with_reducible exact spec_IsHappy.mono _ _ _)
      | (with_reducible exact spec_SumsSpread.mono _ _ _)
      | (with_reducible exact LeO.refl _)
      | (with_reducible exact LeO.none _)
      | (with_reducible refine LeO.ite ?_ ?_)
      | (with_reducible refine LeO.bind ?_ (fun _ => ?_))
      | exact ih0 _ _ _ _ _ _ _
      | exact ih1 _
      | exact ih2 _ _ _ _ _
      | exact ih3 _ _ _ _ _ _ _ _
      | exact ih4 _ _ _ _ _ _ _ _ _ _
      | exact ih5 _ _ _ _ _
      | exact impl_CountHappy.mono _ _ _
      | exact impl_HappyUpTo.mono _ _ _
      | exact impl_IsHappy.mono _ _ _
      | exact impl_PowerSum.mono _ _ _ _
      | exact impl_SumsSpread.mono _ _ _
      | exact laws_rRising.mono _ _
      | exact laws_rSame.mono _ _ _
      | exact laws_rSum.mono _ _
      | exact spec_CountHappy.mono _ _ _
      | exact spec_DrawIsHappy.mono _ _
      | exact spec_HappyUpTo.mono _ _ _
      | exact spec_IsHappy.mono _ _ _
      | exact spec_SumsSpread.mono _ _ _
      | exact LeO.none _
      | refine LeO.ite ?_ ?_
      | refine LeO.bind ?_ (fun _ => ?_)
theorem laws_FnHappyCounted.j0_no {r : Bool} (hr : r = true) (k : Nat) (x1 : List Int) (x5 : Int) (x6 : Int) (x7 : Int) (x8 : Bool) (x11 : List Int) (h : laws_FnHappyCounted.j0 k x1 x5 x6 x7 x8 x11 true = some r) : False := by
  subst hr
  cases k with
  | zero => simp [laws_FnHappyCounted.j0] at h
  | succ k => simp [laws_FnHappyCounted.j0] at h
theorem laws_FnHappyCounted.j5_no {r : Bool} (hr : r = true) (k : Nat) (x30 : Int) (x31 : Int) (x32 : Bool) (x33 : Bool) (h : laws_FnHappyCounted.j5 k x30 x31 x32 x33 true = some r) : False := by
  subst hr
  cases k with
  | zero => simp [laws_FnHappyCounted.j5] at h
  | succ k => simp [laws_FnHappyCounted.j5] at h
theorem laws_FnHappyCounted.j3_no {r : Bool} (hr : r = true) (k : Nat) (x1 : List Int) (x6 : Int) (x7 : Int) (x15 : Int) (h : laws_FnHappyCounted.j3 k x1 x6 x7 x15 true = some r) : False := by
  subst hr
  cases k with
  | zero => simp [laws_FnHappyCounted.j3] at h
  | succ k => simp [laws_FnHappyCounted.j3] at h
set_option maxHeartbeats 8000000 in
set_option maxRecDepth 100000 in
theorem laws_FnHappyCounted.calls (k : Nat) (A0 : Option Addr) (c0 : Nat) (l0 : List Int) (A1 : Option Addr) (c1 : Nat) (l1 : List Int) (r : Bool) (w : World) (hr0 : Kd.C (Kd.int .u8) w A0 l0.length l0) (hc0 : l0.length ≤ c0) (hr1 : Kd.C (Kd.int .u8) w A1 l1.length l1) (hc1 : l1.length ≤ c1) (h : laws_FnHappyCounted.f k l0 l1 = some r) (hr_ : r = true) :
    Calls Try.prog 14 #[.slice A0 l0.length c0, .slice A1 l1.length c1] w fun e w' => e = .returned (.bool r) ∧ Below w.heap.size w w' := by
  have HR0 := Aside0.mk hr0
  have HC0 := Aside0.mk hc0
  clear hr0 hc0
  have HR1 := Aside0.mk hr1
  have HC1 := Aside0.mk hc1
  clear hr1 hc1
  have HB := Aside0.mk (Below.refl w.heap.size w)
  have H : ((laws_big.f l0 l1).bind fun t321 => (if t321 = true then (some true) else ((spec_DrawCountHappy.f l0).bind fun bt322 => ((impl_CountHappy.f k bt322.1 bt322.2).bind fun bt324 => ((spec_CountHappy.f k bt322.1 bt322.2).bind fun bt326 => ((impl_SumsSpread.f k bt322.1 bt322.2).bind fun bt328 => ((spec_SumsSpread.f k bt322.1 bt322.2).bind fun bt332 => (if (bt324.2 != bt326.2) = true then (laws_FnHappyCounted.j0 k l1 bt322.1 bt322.2 bt324.1 bt324.2 bt328.1 true) else (if bt324.1 = bt326.1 then (if (bt328.2 != bt332.2) = true then (laws_FnHappyCounted.j0 k l1 bt322.1 bt322.2 bt324.1 bt324.2 bt328.1 true) else ((laws_rSame.f k bt328.1 bt332.1).bind fun t336 => (if t336 = true then (laws_FnHappyCounted.j0 k l1 bt322.1 bt322.2 bt324.1 bt324.2 bt328.1 (bt328.2 != bt324.2)) else (laws_FnHappyCounted.j0 k l1 bt322.1 bt322.2 bt324.1 bt324.2 bt328.1 true)))) else (laws_FnHappyCounted.j0 k l1 bt322.1 bt322.2 bt324.1 bt324.2 bt328.1 true)))))))))) = some r := h
  clear h
  have HR_ := Aside0.mk hr_
  clear hr_
  replace H := Option.bind_eq_some_iff.mp H
  obtain ⟨t321, A30, H⟩ := H
  replace H : (if t321 = true then (some true) else ((spec_DrawCountHappy.f l0).bind fun bt322 => ((impl_CountHappy.f k bt322.1 bt322.2).bind fun bt324 => ((spec_CountHappy.f k bt322.1 bt322.2).bind fun bt326 => ((impl_SumsSpread.f k bt322.1 bt322.2).bind fun bt328 => ((spec_SumsSpread.f k bt322.1 bt322.2).bind fun bt332 => (if (bt324.2 != bt326.2) = true then (laws_FnHappyCounted.j0 k l1 bt322.1 bt322.2 bt324.1 bt324.2 bt328.1 true) else (if bt324.1 = bt326.1 then (if (bt328.2 != bt332.2) = true then (laws_FnHappyCounted.j0 k l1 bt322.1 bt322.2 bt324.1 bt324.2 bt328.1 true) else ((laws_rSame.f k bt328.1 bt332.1).bind fun t336 => (if t336 = true then (laws_FnHappyCounted.j0 k l1 bt322.1 bt322.2 bt324.1 bt324.2 bt328.1 (bt328.2 != bt324.2)) else (laws_FnHappyCounted.j0 k l1 bt322.1 bt322.2 bt324.1 bt324.2 bt328.1 true)))) else (laws_FnHappyCounted.j0 k l1 bt322.1 bt322.2 bt324.1 bt324.2 bt328.1 true))))))))) = some r := H
  have A3 := Aside0.mk A30
  clear A30
  by_cases c4 : t321 = true
  · subst c4
    have H1 : (some true) = some r := by rw [if_pos rfl] at H; exact H
    clear H
    have H := H1
    clear H1
    as_aux_lemma =>
      obtain rfl := Option.some.inj H
      go_enter Try.func14, Try.ntmps14
      go_wp2_with (first | ((with_reducible refine gate_callee (f := 25) rfl ?_); refine goesL_ (some 42) rfl rfl Try.func25 (by kernel_rfl) rfl #[.slice A0 l0.length c0, .slice A1 l1.length c1] rfl (by (try simp only [List.map_toArray, List.map_cons, List.map_nil]); first | done | rfl | (simp only [List.length_drop, List.length_take]; rfl)) ?_; (with_reducible refine (laws_big.calls _ _ l0 _ _ l1 true _ ?side1 ?side2 ?side3 ?side4 A3.out).mono ?_); (case side1 => repeat (first | exact HR0.out | (with_reducible refine Kd.C_alloc ?_ _) | (with_reducible refine Kd.C_drewN ?_ _) | (with_reducible refine Kd.C_drew ?_))); (case side2 => exact HC0.out); (case side3 => repeat (first | exact HR1.out | (with_reducible refine Kd.C_alloc ?_ _) | (with_reducible refine Kd.C_drewN ?_ _) | (with_reducible refine Kd.C_drew ?_))); (case side4 => exact HC1.out); rintro e w' ⟨rfl, ⟨nd, rfl⟩⟩; refine ⟨_, rfl, ?_⟩))
      go_ret
      exact ⟨by first | rfl | (simp [errW_none, errW_some] <;> rfl) | (simp [*, errW_none, errW_some] <;> rfl), by repeat (first | (with_reducible first | exact HB.out | apply below_alloc | apply pw_below_drewN | apply below_drew1) | exact HB.out)⟩
  · replace c4 := Bool.eq_false_iff.mpr c4
    subst c4
    have H1 : ((spec_DrawCountHappy.f l0).bind fun bt322 => ((impl_CountHappy.f k bt322.1 bt322.2).bind fun bt324 => ((spec_CountHappy.f k bt322.1 bt322.2).bind fun bt326 => ((impl_SumsSpread.f k bt322.1 bt322.2).bind fun bt328 => ((spec_SumsSpread.f k bt322.1 bt322.2).bind fun bt332 => (if (bt324.2 != bt326.2) = true then (laws_FnHappyCounted.j0 k l1 bt322.1 bt322.2 bt324.1 bt324.2 bt328.1 true) else (if bt324.1 = bt326.1 then (if (bt328.2 != bt332.2) = true then (laws_FnHappyCounted.j0 k l1 bt322.1 bt322.2 bt324.1 bt324.2 bt328.1 true) else ((laws_rSame.f k bt328.1 bt332.1).bind fun t336 => (if t336 = true then (laws_FnHappyCounted.j0 k l1 bt322.1 bt322.2 bt324.1 bt324.2 bt328.1 (bt328.2 != bt324.2)) else (laws_FnHappyCounted.j0 k l1 bt322.1 bt322.2 bt324.1 bt324.2 bt328.1 true)))) else (laws_FnHappyCounted.j0 k l1 bt322.1 bt322.2 bt324.1 bt324.2 bt328.1 true)))))))) = some r := by rw [if_neg (show ¬ (false = true) by decide)] at H; exact H
    clear H
    have H := H1
    clear H1
    replace H := Option.bind_eq_some_iff.mp H
    obtain ⟨⟨t322, t323⟩, A50, H⟩ := H
    replace H : ((impl_CountHappy.f k t322 t323).bind fun bt324 => ((spec_CountHappy.f k t322 t323).bind fun bt326 => ((impl_SumsSpread.f k t322 t323).bind fun bt328 => ((spec_SumsSpread.f k t322 t323).bind fun bt332 => (if (bt324.2 != bt326.2) = true then (laws_FnHappyCounted.j0 k l1 t322 t323 bt324.1 bt324.2 bt328.1 true) else (if bt324.1 = bt326.1 then (if (bt328.2 != bt332.2) = true then (laws_FnHappyCounted.j0 k l1 t322 t323 bt324.1 bt324.2 bt328.1 true) else ((laws_rSame.f k bt328.1 bt332.1).bind fun t336 => (if t336 = true then (laws_FnHappyCounted.j0 k l1 t322 t323 bt324.1 bt324.2 bt328.1 (bt328.2 != bt324.2)) else (laws_FnHappyCounted.j0 k l1 t322 t323 bt324.1 bt324.2 bt328.1 true)))) else (laws_FnHappyCounted.j0 k l1 t322 t323 bt324.1 bt324.2 bt328.1 true))))))) = some r := H
    have A5 := Aside0.mk A50
    clear A50
    replace H := Option.bind_eq_some_iff.mp H
    obtain ⟨⟨t324, t325⟩, A60, H⟩ := H
    replace H : ((spec_CountHappy.f k t322 t323).bind fun bt326 => ((impl_SumsSpread.f k t322 t323).bind fun bt328 => ((spec_SumsSpread.f k t322 t323).bind fun bt332 => (if (t325 != bt326.2) = true then (laws_FnHappyCounted.j0 k l1 t322 t323 t324 t325 bt328.1 true) else (if t324 = bt326.1 then (if (bt328.2 != bt332.2) = true then (laws_FnHappyCounted.j0 k l1 t322 t323 t324 t325 bt328.1 true) else ((laws_rSame.f k bt328.1 bt332.1).bind fun t336 => (if t336 = true then (laws_FnHappyCounted.j0 k l1 t322 t323 t324 t325 bt328.1 (bt328.2 != t325)) else (laws_FnHappyCounted.j0 k l1 t322 t323 t324 t325 bt328.1 true)))) else (laws_FnHappyCounted.j0 k l1 t322 t323 t324 t325 bt328.1 true)))))) = some r := H
    have A6 := Aside0.mk A60
    clear A60
    replace H := Option.bind_eq_some_iff.mp H
    obtain ⟨⟨t326, t327⟩, A70, H⟩ := H
    replace H : ((impl_SumsSpread.f k t322 t323).bind fun bt328 => ((spec_SumsSpread.f k t322 t323).bind fun bt332 => (if (t325 != t327) = true then (laws_FnHappyCounted.j0 k l1 t322 t323 t324 t325 bt328.1 true) else (if t324 = t326 then (if (bt328.2 != bt332.2) = true then (laws_FnHappyCounted.j0 k l1 t322 t323 t324 t325 bt328.1 true) else ((laws_rSame.f k bt328.1 bt332.1).bind fun t336 => (if t336 = true then (laws_FnHappyCounted.j0 k l1 t322 t323 t324 t325 bt328.1 (bt328.2 != t325)) else (laws_FnHappyCounted.j0 k l1 t322 t323 t324 t325 bt328.1 true)))) else (laws_FnHappyCounted.j0 k l1 t322 t323 t324 t325 bt328.1 true))))) = some r := H
    have A7 := Aside0.mk A70
    clear A70
    replace H := Option.bind_eq_some_iff.mp H
    obtain ⟨⟨t328, t329⟩, A80, H⟩ := H
    replace H : ((spec_SumsSpread.f k t322 t323).bind fun bt332 => (if (t325 != t327) = true then (laws_FnHappyCounted.j0 k l1 t322 t323 t324 t325 t328 true) else (if t324 = t326 then (if (t329 != bt332.2) = true then (laws_FnHappyCounted.j0 k l1 t322 t323 t324 t325 t328 true) else ((laws_rSame.f k t328 bt332.1).bind fun t336 => (if t336 = true then (laws_FnHappyCounted.j0 k l1 t322 t323 t324 t325 t328 (t329 != t325)) else (laws_FnHappyCounted.j0 k l1 t322 t323 t324 t325 t328 true)))) else (laws_FnHappyCounted.j0 k l1 t322 t323 t324 t325 t328 true)))) = some r := H
    have A8 := Aside0.mk A80
    clear A80
    replace H := Option.bind_eq_some_iff.mp H
    obtain ⟨⟨t332, t333⟩, A90, H⟩ := H
    replace H : (if (t325 != t327) = true then (laws_FnHappyCounted.j0 k l1 t322 t323 t324 t325 t328 true) else (if t324 = t326 then (if (t329 != t333) = true then (laws_FnHappyCounted.j0 k l1 t322 t323 t324 t325 t328 true) else ((laws_rSame.f k t328 t332).bind fun t336 => (if t336 = true then (laws_FnHappyCounted.j0 k l1 t322 t323 t324 t325 t328 (t329 != t325)) else (laws_FnHappyCounted.j0 k l1 t322 t323 t324 t325 t328 true)))) else (laws_FnHappyCounted.j0 k l1 t322 t323 t324 t325 t328 true))) = some r := H
    have A9 := Aside0.mk A90
    clear A90
    have HC10 := Aside0.mk H
    clear H
    go_enter Try.func14, Try.ntmps14
    go_upto_region 8 with (first | ((with_reducible refine gate_callee (f := 25) rfl ?_); refine goesL_ (some 42) rfl rfl Try.func25 (by kernel_rfl) rfl #[.slice A0 l0.length c0, .slice A1 l1.length c1] rfl (by (try simp only [List.map_toArray, List.map_cons, List.map_nil]); first | done | rfl | (simp only [List.length_drop, List.length_take]; rfl)) ?_; (with_reducible refine (laws_big.calls _ _ l0 _ _ l1 false _ ?side1 ?side2 ?side3 ?side4 A3.out).mono ?_); (case side1 => repeat (first | exact HR0.out | (with_reducible refine Kd.C_alloc ?_ _) | (with_reducible refine Kd.C_drewN ?_ _) | (with_reducible refine Kd.C_drew ?_))); (case side2 => exact HC0.out); (case side3 => repeat (first | exact HR1.out | (with_reducible refine Kd.C_alloc ?_ _) | (with_reducible refine Kd.C_drewN ?_ _) | (with_reducible refine Kd.C_drew ?_))); (case side4 => exact HC1.out); rintro e w' ⟨rfl, ⟨nd, rfl⟩⟩; refine ⟨_, rfl, ?_⟩) | ((with_reducible refine gate_callee (f := 118) rfl ?_); refine goesL_ (some 45) rfl rfl Try.func118 (by kernel_rfl) rfl #[.slice A0 l0.length c0] rfl (by (try simp only [List.map_toArray, List.map_cons, List.map_nil]); first | done | rfl | (simp only [List.length_drop, List.length_take]; rfl)) ?_; (with_reducible refine (spec_DrawCountHappy.calls _ _ l0 t322 t323 _ ?side1 ?side2 A5.out).mono ?_); (case side1 => repeat (first | exact HR0.out | (with_reducible refine Kd.C_alloc ?_ _) | (with_reducible refine Kd.C_drewN ?_ _) | (with_reducible refine Kd.C_drew ?_))); (case side2 => exact HC0.out); rintro e w11 ⟨rfl, hb⟩; refine ⟨_, rfl, ?_⟩; have n0_ := Aside0.mk (below_step (by repeat (first | (with_reducible first | exact HB.out | apply below_alloc | apply pw_below_drewN | apply below_drew1) | exact HB.out)) hb); clear HB; have HB := n0_; clear n0_; (try clear hb); (try clear hb2); (try clear hk); (try clear hi)) | ((with_reducible refine gate_callee (f := 119) rfl ?_); refine goesL_ (some 51) rfl rfl Try.func119 (by kernel_rfl) rfl #[.int .i64 t322, .int .i64 t323] rfl (by (try simp only [List.map_toArray, List.map_cons, List.map_nil]); first | done | rfl | (simp only [List.length_drop, List.length_take]; rfl)) ?_; (with_reducible refine (impl_CountHappy.calls k t322 t323 t324 t325 _ A6.out).mono ?_); rintro e w12 ⟨rfl, hb⟩; refine ⟨_, rfl, ?_⟩; have n0_ := Aside0.mk (below_step (by repeat (first | (with_reducible first | exact HB.out | apply below_alloc | apply pw_below_drewN | apply below_drew1) | exact HB.out)) hb); clear HB; have HB := n0_; clear n0_; (try clear hb); (try clear hb2); (try clear hk); (try clear hi)) | ((with_reducible refine gate_callee (f := 120) rfl ?_); refine goesL_ (some 57) rfl rfl Try.func120 (by kernel_rfl) rfl #[.int .i64 t322, .int .i64 t323] rfl (by (try simp only [List.map_toArray, List.map_cons, List.map_nil]); first | done | rfl | (simp only [List.length_drop, List.length_take]; rfl)) ?_; (with_reducible refine (spec_CountHappy.calls k t322 t323 t326 t327 _ A7.out).mono ?_); rintro e w13 ⟨rfl, hb⟩; refine ⟨_, rfl, ?_⟩; have n0_ := Aside0.mk (below_step (by repeat (first | (with_reducible first | exact HB.out | apply below_alloc | apply pw_below_drewN | apply below_drew1) | exact HB.out)) hb); clear HB; have HB := n0_; clear n0_; (try clear hb); (try clear hb2); (try clear hk); (try clear hi)) | ((with_reducible refine gate_callee (f := 121) rfl ?_); refine goesL_ (some 63) rfl rfl Try.func121 (by kernel_rfl) rfl #[.int .i64 t322, .int .i64 t323] rfl (by (try simp only [List.map_toArray, List.map_cons, List.map_nil]); first | done | rfl | (simp only [List.length_drop, List.length_take]; rfl)) ?_; (with_reducible refine (impl_SumsSpread.calls k t322 t323 t328 t329 _ A8.out).mono ?_); rintro e w14 ⟨v330, rfl, ho0, hb⟩; refine ⟨_, rfl, ?_⟩; have n0_ := Aside0.mk (Kd.R_lower ho0 (below_size (by repeat (first | (with_reducible first | exact HB.out | apply below_alloc | apply pw_below_drewN | apply below_drew1) | exact HB.out)))); have n1_ := Aside0.mk (below_step (by repeat (first | (with_reducible first | exact HB.out | apply below_alloc | apply pw_below_drewN | apply below_drew1) | exact HB.out)) hb); clear HB; have HO331 := n0_; have HB := n1_; clear n0_ n1_; (try clear hb); (try clear hb2); (try clear hk); (try clear hi); (try clear ho0)) | ((with_reducible refine gate_callee (f := 122) rfl ?_); refine goesL_ (some 69) rfl rfl Try.func122 (by kernel_rfl) rfl #[.int .i64 t322, .int .i64 t323] rfl (by (try simp only [List.map_toArray, List.map_cons, List.map_nil]); first | done | rfl | (simp only [List.length_drop, List.length_take]; rfl)) ?_; (with_reducible refine (spec_SumsSpread.calls k t322 t323 t332 t333 _ A9.out).mono ?_); rintro e w15 ⟨v334, rfl, ho0, hb⟩; refine ⟨_, rfl, ?_⟩; have n0_ := Aside0.mk (Kd.R_elder' (by (with_reducible repeat (first | apply Kd.R_alloc | apply Kd.R_drewN | apply Kd.R_drew)); exact HO331.out) (Kd.R_base ho0) hb); have n1_ := Aside0.mk (Kd.R_lower (Kd.R_new' ho0 (Kd.R_lt (by (with_reducible repeat (first | apply Kd.R_alloc | apply Kd.R_drewN | apply Kd.R_drew)); exact HO331.out))) (below_size (by repeat (first | (with_reducible first | exact HB.out | apply below_alloc | apply pw_below_drewN | apply below_drew1) | exact HB.out)))); have n2_ := Aside0.mk (below_step (by repeat (first | (with_reducible first | exact HB.out | apply below_alloc | apply pw_below_drewN | apply below_drew1) | exact HB.out)) hb); clear HO331; clear HB; have HO331 := n0_; have HO335 := n1_; have HB := n2_; clear n0_ n1_ n2_; (try clear hb); (try clear hb2); (try clear hk); (try clear hi); (try clear ho0)))
    (try simp only [Act.put, List.setIfInBounds_toArray, List.set_cons_zero, List.set_cons_succ])
    go_cut [95] (fun v95 wc => ∃ (kq : Nat) (x95_9 : Bool), v95 = .bool x95_9 ∧ Aside0 (laws_FnHappyCounted.j0 kq l1 t322 t323 t324 t325 t328 x95_9 = some r) ∧ Aside0 (kq ≤ k) ∧ Aside0 (Kd.R (Kd.int .i64) 3 wc w.heap.size (fun _ => True) v330 t328) ∧ Aside0 (Below w.heap.size w wc))
    case first =>
      as_aux_lemma =>
      have H := HC10.out
      clear HC10
      by_cases c16 : (t325 != t327) = true
      · rw [if_pos c16] at H
        have c16b0 : (t325 != t327) = true := c16
        (try (have c16b1 : decide (t325 = t327) = false := by simpa using c16))
        (try (have c16b2 : (t325 == t327) = false := by simpa using c16))
        (try (have c16b3 : ¬ (t325 = t327) := by simpa using c16))
        clear c16
        (first | rw [c16b0] | (simp only [i64_w, i32_w]; rw [c16b0]) | skip)
        exact (laws_FnHappyCounted.j0_no HR_.out _ _ _ _ _ _ _ H).elim
      · rw [if_neg c16] at H
        have c16b0 : (t325 != t327) = false := by simpa using c16
        (try (have c16b1 : decide (t325 = t327) = true := by simpa using c16))
        (try (have c16b2 : (t325 == t327) = true := by simpa using c16))
        clear c16
        (first | rw [c16b0] | (simp only [i64_w, i32_w]; rw [c16b0]) | skip)
        by_cases c17 : t324 = t326
        · rw [if_pos c17] at H
          have c17b0 : (t324 == t326) = true := beq_iff_eq.mpr c17
          have c17b1 : (t324 != t326) = false := bne_eq_false_iff_eq.mpr c17
          clear c17
          by_cases c18 : (t329 != t333) = true
          · rw [if_pos c18] at H
            have c18b0 : (t329 != t333) = true := c18
            (try (have c18b1 : decide (t329 = t333) = false := by simpa using c18))
            (try (have c18b2 : (t329 == t333) = false := by simpa using c18))
            (try (have c18b3 : ¬ (t329 = t333) := by simpa using c18))
            clear c18
            exact (laws_FnHappyCounted.j0_no HR_.out _ _ _ _ _ _ _ H).elim
          · rw [if_neg c18] at H
            have c18b0 : (t329 != t333) = false := by simpa using c18
            (try (have c18b1 : decide (t329 = t333) = true := by simpa using c18))
            (try (have c18b2 : (t329 == t333) = true := by simpa using c18))
            clear c18
            replace H := Option.bind_eq_some_iff.mp H
            obtain ⟨t336, A190, H⟩ := H
            replace H : (if t336 = true then (laws_FnHappyCounted.j0 k l1 t322 t323 t324 t325 t328 (t329 != t325)) else (laws_FnHappyCounted.j0 k l1 t322 t323 t324 t325 t328 true)) = some r := H
            have A19 := Aside0.mk A190
            clear A190
            by_cases c20 : t336 = true
            · subst c20
              have H1 : (laws_FnHappyCounted.j0 k l1 t322 t323 t324 t325 t328 (t329 != t325)) = some r := by rw [if_pos rfl] at H; exact H
              clear H
              have H := H1
              clear H1
              as_aux_lemma =>
                have H' := Aside0.mk H
                clear H
                obtain ⟨Ao21, co21, eo21⟩ := Kd.R_slice HO331.out
                subst eo21
                obtain ⟨Ao22, co22, eo22⟩ := Kd.R_slice HO335.out
                subst eo22
                go_wp2_with (first | (go_at_call 123; (with_reducible refine (laws_rSame.calls k _ _ t328 _ _ t332 true _ ?side1 ?side2 ?side3 ?side4 A19.out).mono ?_); (case side1 => repeat (first | exact (Kd.R_reads' HO331.out).2.2 | (with_reducible refine Kd.C_alloc ?_ _) | (with_reducible refine Kd.C_drewN ?_ _) | (with_reducible refine Kd.C_drew ?_))); (case side2 => exact (Kd.R_reads' HO331.out).2.1); (case side3 => repeat (first | exact (Kd.R_reads' HO335.out).2.2 | (with_reducible refine Kd.C_alloc ?_ _) | (with_reducible refine Kd.C_drewN ?_ _) | (with_reducible refine Kd.C_drew ?_))); (case side4 => exact (Kd.R_reads' HO335.out).2.1); rintro e w' ⟨rfl, ⟨nd, rfl⟩⟩))
                go_meet
                case rel => exact ⟨_, ((t329 != t325)), (by first | rfl | (simp; done) | (simp [*]; done)), H', ⟨by first | omega | exact Nat.le_refl _⟩, ⟨by (with_reducible repeat (first | apply Kd.R_alloc | apply Kd.R_drewN | apply Kd.R_drew)); exact Kd.R_mono HO331.out (fun _ hk => trivial)⟩, ⟨by repeat (first | (with_reducible first | exact HB.out | apply below_alloc | apply pw_below_drewN | apply below_drew1) | exact HB.out)⟩⟩
            · replace c20 := Bool.eq_false_iff.mpr c20
              subst c20
              have H1 : (laws_FnHappyCounted.j0 k l1 t322 t323 t324 t325 t328 true) = some r := by rw [if_neg (show ¬ (false = true) by decide)] at H; exact H
              clear H
              have H := H1
              clear H1
              exact (laws_FnHappyCounted.j0_no HR_.out _ _ _ _ _ _ _ H).elim
        · rw [if_neg c17] at H
          have c17b0 : (t324 == t326) = false := beq_eq_false_iff_ne.mpr c17
          have c17b1 : (t324 != t326) = true := bne_iff_ne.mpr c17
          exact (laws_FnHappyCounted.j0_no HR_.out _ _ _ _ _ _ _ H).elim
    case rest =>
      as_aux_lemma =>
      clear HC10
      try clear c1
      try clear c2
      try clear p2
      try clear c4
      try clear c11
      try clear c12
      try clear c14
      try clear c16
      try clear c16b0
      try clear c16b1
      try clear c16b2
      try clear c17
      try clear c17b0
      try clear c17b1
      try clear c18
      try clear c18b0
      try clear c18b1
      try clear c18b2
      try clear c20
      obtain ⟨kq, x95_9, rfl, HA, HJ9, HO_11, HB⟩ := hcut
      cases kq with
      | zero => exact absurd HA.out (by simp [laws_FnHappyCounted.j0])
      | succ kj9 =>
        have H := HA.out
        clear HA
        simp only [laws_FnHappyCounted.j0] at H
        by_cases c23 : x95_9 = true
        · subst c23
          have H1 : (some false) = some r := by rw [if_pos rfl] at H; exact H
          clear H
          have H := H1
          clear H1
          exact absurd (Option.some.inj H) (by rw [HR_.out]; decide)
        · replace c23 := Bool.eq_false_iff.mpr c23
          subst c23
          have H1 : (if t325 = true then (laws_FnHappyCounted.l0 kj9 l1 t322 t323 t324 t328 1 0 0) else (laws_FnHappyCounted.j4 kj9 l1)) = some r := by rw [if_neg (show ¬ (false = true) by decide)] at H; exact H
          clear H
          have H := H1
          clear H1
          have HC24 := Aside0.mk H
          clear H
          go_upto_if 96 with (fail)
          go_cut [] (fun wc => ∃ (kq : Nat), Aside0 (laws_FnHappyCounted.j4 kq l1 = some r) ∧ Aside0 (kq ≤ kj9) ∧ Aside0 (Below w.heap.size w wc))
          case first =>
            as_aux_lemma =>
            have H := HC24.out
            clear HC24
            by_cases c25 : t325 = true
            · subst c25
              have H1 : (laws_FnHappyCounted.l0 kj9 l1 t322 t323 t324 t328 1 0 0) = some r := by rw [if_pos rfl] at H; exact H
              clear H
              have H := H1
              clear H1
              have H' := Aside0.mk H
              clear H
              go_wp2
              go_loopg [15, 17] kj9 (fun kq v15 v17 w' => ∃ (x15_2 : Int) (x17_2 : Int), v15 = .int .i64 x15_2 ∧ v17 = .int .i64 x17_2 ∧ Aside0 (laws_FnHappyCounted.l0 kq l1 t322 t323 t324 t328 x15_2 0 x17_2 = some r) ∧ Aside0 (kq ≤ kj9) ∧ Aside0 (Kd.R (Kd.int .i64) 3 w' w.heap.size (fun _ => True) v330 t328) ∧ Aside0 (Below w.heap.size w w'))
              case atStart => exact ⟨(1), (0), (by first | rfl | (simp; done) | (simp [*]; done)), (by first | rfl | (simp; done) | (simp [*]; done)), H', ⟨Nat.le_refl _⟩, ⟨by (with_reducible repeat (first | apply Kd.R_alloc | apply Kd.R_drewN | apply Kd.R_drew)); exact HO_11.out⟩, ⟨by repeat (first | (with_reducible first | exact HB.out | apply below_alloc | apply pw_below_drewN | apply below_drew1) | exact HB.out)⟩⟩
              case round =>
                as_aux_lemma =>
                clear H'
                try clear c1
                try clear c2
                try clear p2
                try clear c4
                try clear c11
                try clear c12
                try clear c14
                try clear c16
                try clear c16b0
                try clear c16b1
                try clear c16b2
                try clear c17
                try clear c17b0
                try clear c17b1
                try clear c18
                try clear c18b0
                try clear c18b1
                try clear c18b2
                try clear c20
                try clear c23
                try clear c25
                try clear p2
                obtain ⟨x15_2, x17_2, rfl, rfl, HA, HK2, HO_11, HB⟩ := hrel
                cases gk with
                | zero => exact absurd HA.out (by simp [laws_FnHappyCounted.l0])
                | succ k2 =>
                  have H := HA.out
                  clear HA
                  simp only [laws_FnHappyCounted.l0] at H
                  by_cases c26 : x17_2 < t322
                  · rw [if_pos c26] at H
                    have c26b0 : decide (x17_2 < t322) = true := decide_eq_true c26
                    clear c26
                    (first | rw [c26b0] | (simp only [i64_w, i32_w]; rw [c26b0]) | skip)
                    as_aux_lemma =>
                      have H' := Aside0.mk H
                      clear H
                      go_wp2
                      go_roundg k2
                      case measure => have := HJ9.out; have := HK2.out; omega
                      case rel => exact ⟨(wrap64 (x15_2 * t323)), (wrap64 (x17_2 + 1)), (by first | rfl | (simp; done) | (simp [*]; done)), (by first | rfl | (simp; done) | (simp [*]; done)), H', ⟨by have := HJ9.out; have := HK2.out; omega⟩, ⟨by (with_reducible repeat (first | apply Kd.R_alloc | apply Kd.R_drewN | apply Kd.R_drew)); exact HO_11.out⟩, ⟨by repeat (first | (with_reducible first | exact HB.out | apply below_alloc | apply pw_below_drewN | apply below_drew1) | exact HB.out)⟩⟩
                  · rw [if_neg c26] at H
                    have c26b0 : decide (x17_2 < t322) = false := decide_eq_false c26
                    clear c26
                    (first | rw [c26b0] | (simp only [i64_w, i32_w]; rw [c26b0]) | skip)
                    have H' := Aside0.mk H
                    clear H
                    obtain ⟨Ao27, co27, eo27⟩ := Kd.R_slice HO_11.out
                    subst eo27
                    go_wp2
                    go_loopg [16, 107] k2 (fun kq v16 v107 w' => ∃ (x16_3 : Int) (x107_3 : Int), v16 = .int .i64 x16_3 ∧ v107 = .int .i64 x107_3 ∧ Aside0 (laws_FnHappyCounted.l1 kq l1 t322 t323 t324 t328 x15_2 x16_3 t328 (t328.length : Int) x107_3 = some r) ∧ Aside0 (kq ≤ k2) ∧ Aside0 (Kd.R (Kd.int .i64) 3 w' w.heap.size (fun _ => True) (.slice Ao27 t328.length co27) t328) ∧ Aside0 (Kd.R (Kd.int .i64) 3 w' w.heap.size (fun _ => True) (.slice Ao27 t328.length co27) t328) ∧ Aside0 (Below w.heap.size w w'))
                    case atStart => exact ⟨(0), (0), (by first | rfl | (simp; done) | (simp [*]; done)), (by first | rfl | (simp; done) | (simp [*]; done)), H', ⟨Nat.le_refl _⟩, ⟨by (with_reducible repeat (first | apply Kd.R_alloc | apply Kd.R_drewN | apply Kd.R_drew)); exact HO_11.out⟩, ⟨by (with_reducible repeat (first | apply Kd.R_alloc | apply Kd.R_drewN | apply Kd.R_drew)); exact HO_11.out⟩, ⟨by repeat (first | (with_reducible first | exact HB.out | apply below_alloc | apply pw_below_drewN | apply below_drew1) | exact HB.out)⟩⟩
                    case round =>
                      as_aux_lemma =>
                      clear H'
                      try clear c1
                      try clear c2
                      try clear p2
                      try clear c4
                      try clear p6
                      try clear c11
                      try clear c12
                      try clear c14
                      try clear c16
                      try clear c16b0
                      try clear c16b1
                      try clear c16b2
                      try clear c17
                      try clear c17b0
                      try clear c17b1
                      try clear c18
                      try clear c18b0
                      try clear c18b1
                      try clear c18b2
                      try clear c20
                      try clear c23
                      try clear c25
                      try clear c26
                      try clear c26b0
                      try clear p2
                      obtain ⟨x16_3, x107_3, rfl, rfl, HA, HK3, HO_11, HO_105, HB⟩ := hrel
                      cases gk with
                      | zero => exact absurd HA.out (by simp [laws_FnHappyCounted.l1])
                      | succ k3 =>
                        have H := HA.out
                        clear HA
                        simp only [laws_FnHappyCounted.l1] at H
                        by_cases c28 : x107_3 < (t328.length : Int)
                        · rw [if_pos c28] at H
                          have c28b0 : decide (x107_3 < (t328.length : Int)) = true := decide_eq_true c28
                          clear c28
                          by_cases c29 : 0 ≤ x107_3
                          · rw [if_pos c29] at H
                            have c29b0 : decide (0 ≤ x107_3) = true := decide_eq_true c29
                            clear c29
                            by_cases c30 : x107_3 < (t328.length : Int)
                            · rw [if_pos c30] at H
                              have c30b0 : decide (x107_3 < (t328.length : Int)) = true := decide_eq_true c30
                              clear c30
                              replace H := Option.bind_eq_some_iff.mp H
                              obtain ⟨⟨t338, t339⟩, A310, H⟩ := H
                              replace H : (if t339 = true then (if t338 = true then (laws_FnHappyCounted.l1 k3 l1 t322 t323 t324 t328 x15_2 (wrap64 (x16_3 + (rd t328 x107_3))) t328 (t328.length : Int) (wrap64 (x107_3 + 1))) else (laws_FnHappyCounted.l1 k3 l1 t322 t323 t324 t328 x15_2 x16_3 t328 (t328.length : Int) (wrap64 (x107_3 + 1)))) else (some false)) = some r := H
                              have A31 := Aside0.mk A310
                              clear A310
                              by_cases c32 : t339 = true
                              · subst c32
                                have H1 : (if t338 = true then (laws_FnHappyCounted.l1 k3 l1 t322 t323 t324 t328 x15_2 (wrap64 (x16_3 + (rd t328 x107_3))) t328 (t328.length : Int) (wrap64 (x107_3 + 1))) else (laws_FnHappyCounted.l1 k3 l1 t322 t323 t324 t328 x15_2 x16_3 t328 (t328.length : Int) (wrap64 (x107_3 + 1)))) = some r := by rw [if_pos rfl] at H; exact H
                                clear H
                                have H := H1
                                clear H1
                                by_cases c33 : t338 = true
                                · subst c33
                                  have H1 : (laws_FnHappyCounted.l1 k3 l1 t322 t323 t324 t328 x15_2 (wrap64 (x16_3 + (rd t328 x107_3))) t328 (t328.length : Int) (wrap64 (x107_3 + 1))) = some r := by rw [if_pos rfl] at H; exact H
                                  clear H
                                  have H := H1
                                  clear H1
                                  as_aux_lemma =>
                                    have H' := Aside0.mk H
                                    clear H
                                    have p337 : 0 ≤ (x107_3 : Int) := of_decide_eq_true (by first | (with_reducible assumption) | assumption)
                                    have q337 : x107_3 < (t328.length : Int) := of_decide_eq_true (by first | (with_reducible assumption) | assumption)
                                    obtain ⟨ad337, e337, hx337_0⟩ := Kd.at_int (Kd.R_reads' HO_105.out).2.2 x107_3 p337 q337
                                    cases e337
                                    replace p337 := eq_true p337
                                    replace q337 := eq_true q337
                                    go_wp2_with (first | ((with_reducible refine gate_callee (f := 124) rfl ?_); refine goesL_ (some 115) rfl rfl Try.func124 (by kernel_rfl) rfl #[.int .i64 x107_3, .int .i64 t323] rfl (by (try simp only [List.map_toArray, List.map_cons, List.map_nil]); first | done | rfl | (simp only [List.length_drop, List.length_take]; rfl)) ?_; (with_reducible refine (impl_IsHappy.calls k3 x107_3 t323 true true _ A31.out).mono ?_); rintro e w34 ⟨rfl, hb⟩; refine ⟨_, rfl, ?_⟩; have n0_ := Aside0.mk (Kd.R_below (by (with_reducible repeat (first | apply Kd.R_alloc | apply Kd.R_drewN | apply Kd.R_drew)); exact HO_11.out) hb); have n1_ := Aside0.mk (Kd.R_below (by (with_reducible repeat (first | apply Kd.R_alloc | apply Kd.R_drewN | apply Kd.R_drew)); exact HO_105.out) hb); have n2_ := Aside0.mk (below_step (by repeat (first | (with_reducible first | exact HB.out | apply below_alloc | apply pw_below_drewN | apply below_drew1) | exact HB.out)) hb); clear HO_11; clear HO_105; clear HB; have HO_11 := n0_; have HO_105 := n1_; have HB := n2_; clear n0_ n1_ n2_; (try clear hb); (try clear hb2); (try clear hk); (try clear hi)))
                                    go_roundg k3
                                    case measure => have := HJ9.out; have := HK2.out; have := HK3.out; omega
                                    case rel => exact ⟨(wrap64 (x16_3 + (rd t328 x107_3))), (wrap64 (x107_3 + 1)), (by first | rfl | (simp; done) | (simp [*]; done)), (by first | rfl | (simp; done) | (simp [*]; done)), H', ⟨by have := HJ9.out; have := HK2.out; have := HK3.out; omega⟩, ⟨by (with_reducible repeat (first | apply Kd.R_alloc | apply Kd.R_drewN | apply Kd.R_drew)); exact HO_11.out⟩, ⟨by (with_reducible repeat (first | apply Kd.R_alloc | apply Kd.R_drewN | apply Kd.R_drew)); exact HO_105.out⟩, ⟨by repeat (first | (with_reducible first | exact HB.out | apply below_alloc | apply pw_below_drewN | apply below_drew1) | exact HB.out)⟩⟩
                                · replace c33 := Bool.eq_false_iff.mpr c33
                                  subst c33
                                  have H1 : (laws_FnHappyCounted.l1 k3 l1 t322 t323 t324 t328 x15_2 x16_3 t328 (t328.length : Int) (wrap64 (x107_3 + 1))) = some r := by rw [if_neg (show ¬ (false = true) by decide)] at H; exact H
                                  clear H
                                  have H := H1
                                  clear H1
                                  as_aux_lemma =>
                                    have H' := Aside0.mk H
                                    clear H
                                    have p337 : 0 ≤ (x107_3 : Int) := of_decide_eq_true (by first | (with_reducible assumption) | assumption)
                                    have q337 : x107_3 < (t328.length : Int) := of_decide_eq_true (by first | (with_reducible assumption) | assumption)
                                    obtain ⟨ad337, e337, hx337_0⟩ := Kd.at_int (Kd.R_reads' HO_105.out).2.2 x107_3 p337 q337
                                    cases e337
                                    replace p337 := eq_true p337
                                    replace q337 := eq_true q337
                                    go_wp2_with (first | ((with_reducible refine gate_callee (f := 124) rfl ?_); refine goesL_ (some 115) rfl rfl Try.func124 (by kernel_rfl) rfl #[.int .i64 x107_3, .int .i64 t323] rfl (by (try simp only [List.map_toArray, List.map_cons, List.map_nil]); first | done | rfl | (simp only [List.length_drop, List.length_take]; rfl)) ?_; (with_reducible refine (impl_IsHappy.calls k3 x107_3 t323 false true _ A31.out).mono ?_); rintro e w35 ⟨rfl, hb⟩; refine ⟨_, rfl, ?_⟩; have n0_ := Aside0.mk (Kd.R_below (by (with_reducible repeat (first | apply Kd.R_alloc | apply Kd.R_drewN | apply Kd.R_drew)); exact HO_11.out) hb); have n1_ := Aside0.mk (Kd.R_below (by (with_reducible repeat (first | apply Kd.R_alloc | apply Kd.R_drewN | apply Kd.R_drew)); exact HO_105.out) hb); have n2_ := Aside0.mk (below_step (by repeat (first | (with_reducible first | exact HB.out | apply below_alloc | apply pw_below_drewN | apply below_drew1) | exact HB.out)) hb); clear HO_11; clear HO_105; clear HB; have HO_11 := n0_; have HO_105 := n1_; have HB := n2_; clear n0_ n1_ n2_; (try clear hb); (try clear hb2); (try clear hk); (try clear hi)))
                                    go_roundg k3
                                    case measure => have := HJ9.out; have := HK2.out; have := HK3.out; omega
                                    case rel => exact ⟨(x16_3), (wrap64 (x107_3 + 1)), (by first | rfl | (simp; done) | (simp [*]; done)), (by first | rfl | (simp; done) | (simp [*]; done)), H', ⟨by have := HJ9.out; have := HK2.out; have := HK3.out; omega⟩, ⟨by (with_reducible repeat (first | apply Kd.R_alloc | apply Kd.R_drewN | apply Kd.R_drew)); exact HO_11.out⟩, ⟨by (with_reducible repeat (first | apply Kd.R_alloc | apply Kd.R_drewN | apply Kd.R_drew)); exact HO_105.out⟩, ⟨by repeat (first | (with_reducible first | exact HB.out | apply below_alloc | apply pw_below_drewN | apply below_drew1) | exact HB.out)⟩⟩
                              · replace c32 := Bool.eq_false_iff.mpr c32
                                subst c32
                                have H1 : (some false) = some r := by rw [if_neg (show ¬ (false = true) by decide)] at H; exact H
                                clear H
                                have H := H1
                                clear H1
                                exact absurd (Option.some.inj H) (by rw [HR_.out]; decide)
                            · rw [if_neg c30] at H
                              exact absurd H (by simp)
                          · rw [if_neg c29] at H
                            exact absurd H (by simp)
                        · rw [if_neg c28] at H
                          have c28b0 : decide (x107_3 < (t328.length : Int)) = false := decide_eq_false c28
                          clear c28
                          have HC36 := Aside0.mk H
                          clear H
                          go_upto_region 25 with (fail)
                          go_cut [146] (fun v146 wc => ∃ (kq : Nat) (x146_35 : Bool), v146 = .bool x146_35 ∧ Aside0 (laws_FnHappyCounted.j3 kq l1 t323 t324 x15_2 x146_35 = some r) ∧ Aside0 (kq ≤ k3) ∧ Aside0 (Below w.heap.size w wc))
                          case first =>
                            as_aux_lemma =>
                            have H := HC36.out
                            clear HC36
                            replace H := Option.bind_eq_some_iff.mp H
                            obtain ⟨t340, A370, H⟩ := H
                            replace H : (if t340 = x15_2 then (if x16_3 = t324 then (laws_FnHappyCounted.j3 k3 l1 t323 t324 x15_2 ((t328.length : Int) != (wrap64 ((wrap64 ((wrap64 (t322 * (wrap64 (t323 - 1)))) * (wrap64 (t323 - 1)))) + 1)))) else (laws_FnHappyCounted.j3 k3 l1 t323 t324 x15_2 true)) else (laws_FnHappyCounted.j3 k3 l1 t323 t324 x15_2 true)) = some r := H
                            have A37 := Aside0.mk A370
                            clear A370
                            by_cases c38 : t340 = x15_2
                            · rw [if_pos c38] at H
                              have c38b0 : (t340 == x15_2) = true := beq_iff_eq.mpr c38
                              have c38b1 : (t340 != x15_2) = false := bne_eq_false_iff_eq.mpr c38
                              clear c38
                              (first | rw [c38b0] | (simp only [i64_w, i32_w]; rw [c38b0]) | skip)
                              by_cases c39 : x16_3 = t324
                              · rw [if_pos c39] at H
                                have c39b0 : (x16_3 == t324) = true := beq_iff_eq.mpr c39
                                have c39b1 : (x16_3 != t324) = false := bne_eq_false_iff_eq.mpr c39
                                clear c39
                                as_aux_lemma =>
                                  have H' := Aside0.mk H
                                  clear H
                                  go_wp2_with (first | ((with_reducible refine gate_callee (f := 125) rfl ?_); refine goesL_ (some 126) rfl rfl Try.func125 (by kernel_rfl) rfl #[.slice Ao27 t328.length co27] rfl (by (try simp only [List.map_toArray, List.map_cons, List.map_nil]); first | done | rfl | (simp only [List.length_drop, List.length_take]; rfl)) ?_; (with_reducible refine (laws_rSum.calls k3 _ _ t328 t340 _ ?side1 ?side2 A37.out).mono ?_); (case side1 => repeat (first | exact (Kd.R_reads' HO_11.out).2.2 | (with_reducible refine Kd.C_alloc ?_ _) | (with_reducible refine Kd.C_drewN ?_ _) | (with_reducible refine Kd.C_drew ?_))); (case side2 => exact (Kd.R_reads' HO_11.out).2.1); rintro e w' ⟨rfl, ⟨nd, rfl⟩⟩; refine ⟨_, rfl, ?_⟩))
                                  go_meet
                                  case rel => exact ⟨_, (((t328.length : Int) != (wrap64 ((wrap64 ((wrap64 (t322 * (wrap64 (t323 - 1)))) * (wrap64 (t323 - 1)))) + 1)))), (by first | rfl | (simp; done) | (simp [*]; done)), H', ⟨by have := HJ9.out; have := HK2.out; have := HK3.out; first | omega | exact Nat.le_refl _⟩, ⟨by repeat (first | (with_reducible first | exact HB.out | apply below_alloc | apply pw_below_drewN | apply below_drew1) | exact HB.out)⟩⟩
                              · rw [if_neg c39] at H
                                have c39b0 : (x16_3 == t324) = false := beq_eq_false_iff_ne.mpr c39
                                have c39b1 : (x16_3 != t324) = true := bne_iff_ne.mpr c39
                                exact (laws_FnHappyCounted.j3_no HR_.out _ _ _ _ _ H).elim
                            · rw [if_neg c38] at H
                              have c38b0 : (t340 == x15_2) = false := beq_eq_false_iff_ne.mpr c38
                              have c38b1 : (t340 != x15_2) = true := bne_iff_ne.mpr c38
                              (first | rw [c38b0] | (simp only [i64_w, i32_w]; rw [c38b0]) | skip)
                              exact (laws_FnHappyCounted.j3_no HR_.out _ _ _ _ _ H).elim
                          case rest =>
                            as_aux_lemma =>
                            clear HC36
                            try clear c1
                            try clear c2
                            try clear p2
                            try clear c3
                            try clear p3
                            try clear q3
                            try clear hx3
                            try clear c4
                            try clear p6
                            try clear c11
                            try clear c12
                            try clear c14
                            try clear c16
                            try clear c16b0
                            try clear c16b1
                            try clear c16b2
                            try clear c17
                            try clear c17b0
                            try clear c17b1
                            try clear c18
                            try clear c18b0
                            try clear c18b1
                            try clear c18b2
                            try clear c20
                            try clear c23
                            try clear c25
                            try clear c26
                            try clear c26b0
                            try clear c28
                            try clear c28b0
                            try clear c29
                            try clear c29b0
                            try clear c30
                            try clear c30b0
                            try clear c32
                            try clear c33
                            try clear p33
                            try clear q33
                            try clear hx33
                            try clear c38
                            try clear c38b0
                            try clear c38b1
                            try clear c39
                            try clear c39b0
                            try clear c39b1
                            try clear hx337_0
                            try clear p2
                            try clear p337
                            try clear p6
                            try clear q337
                            obtain ⟨kq, x146_35, rfl, HA, HJ35, HB⟩ := hcut
                            cases kq with
                            | zero => exact absurd HA.out (by simp [laws_FnHappyCounted.j3])
                            | succ kj35 =>
                              have H := HA.out
                              clear HA
                              simp only [laws_FnHappyCounted.j3] at H
                              by_cases c40 : x146_35 = true
                              · subst c40
                                have H1 : (some false) = some r := by rw [if_pos rfl] at H; exact H
                                clear H
                                have H := H1
                                clear H1
                                exact absurd (Option.some.inj H) (by rw [HR_.out]; decide)
                              · replace c40 := Bool.eq_false_iff.mpr c40
                                subst c40
                                have H1 : (if x15_2 ≤ 2001 then ((impl_HappyUpTo.f kj35 (wrap64 (x15_2 - 1)) t323).bind fun bt341 => (if bt341.2 = true then (if (bt341.1.length : Int) = t324 then (laws_FnHappyCounted.j4 kj35 l1) else (some false)) else (some false))) else (laws_FnHappyCounted.j4 kj35 l1)) = some r := by rw [if_neg (show ¬ (false = true) by decide)] at H; exact H
                                clear H
                                have H := H1
                                clear H1
                                by_cases c41 : x15_2 ≤ 2001
                                · rw [if_pos c41] at H
                                  have c41b0 : decide (x15_2 ≤ 2001) = true := decide_eq_true c41
                                  clear c41
                                  replace H := Option.bind_eq_some_iff.mp H
                                  obtain ⟨⟨t341, t342⟩, A420, H⟩ := H
                                  replace H : (if t342 = true then (if (t341.length : Int) = t324 then (laws_FnHappyCounted.j4 kj35 l1) else (some false)) else (some false)) = some r := H
                                  have A42 := Aside0.mk A420
                                  clear A420
                                  by_cases c43 : t342 = true
                                  · subst c43
                                    have H1 : (if (t341.length : Int) = t324 then (laws_FnHappyCounted.j4 kj35 l1) else (some false)) = some r := by rw [if_pos rfl] at H; exact H
                                    clear H
                                    have H := H1
                                    clear H1
                                    by_cases c44 : (t341.length : Int) = t324
                                    · rw [if_pos c44] at H
                                      have c44b0 : ((t341.length : Int) == t324) = true := beq_iff_eq.mpr c44
                                      have c44b1 : ((t341.length : Int) != t324) = false := bne_eq_false_iff_eq.mpr c44
                                      clear c44
                                      as_aux_lemma =>
                                        have H' := Aside0.mk H
                                        clear H
                                        go_wp2_with (first | ((with_reducible refine gate_callee (f := 126) rfl ?_); refine goesL_ (some 153) rfl rfl Try.func126 (by kernel_rfl) rfl #[.int .i64 (wrap64 (x15_2 - 1)), .int .i64 t323] rfl (by (try simp only [List.map_toArray, List.map_cons, List.map_nil]); first | done | rfl | (simp only [List.length_drop, List.length_take]; rfl)) ?_; (with_reducible refine (impl_HappyUpTo.calls kj35 (wrap64 (x15_2 - 1)) t323 t341 true _ A42.out).mono ?_); rintro e w45 ⟨v343, rfl, ho0, hb⟩; refine ⟨_, rfl, ?_⟩; have n0_ := Aside0.mk (Kd.R_lower ho0 (below_size (by repeat (first | (with_reducible first | exact HB.out | apply below_alloc | apply pw_below_drewN | apply below_drew1) | exact HB.out)))); have n1_ := Aside0.mk (below_step (by repeat (first | (with_reducible first | exact HB.out | apply below_alloc | apply pw_below_drewN | apply below_drew1) | exact HB.out)) hb); clear HB; have HO344 := n0_; have HB := n1_; clear n0_ n1_; (try clear hb); (try clear hb2); (try clear hk); (try clear hi); (try clear ho0); obtain ⟨Ao46, co46, eo46⟩ := Kd.R_slice HO344.out; subst eo46))
                                        go_meet
                                        case rel => exact ⟨_, H', ⟨by have := HJ9.out; have := HK2.out; have := HK3.out; have := HJ35.out; first | omega | exact Nat.le_refl _⟩, ⟨by repeat (first | (with_reducible first | exact HB.out | apply below_alloc | apply pw_below_drewN | apply below_drew1) | exact HB.out)⟩⟩
                                    · rw [if_neg c44] at H
                                      have c44b0 : ((t341.length : Int) == t324) = false := beq_eq_false_iff_ne.mpr c44
                                      have c44b1 : ((t341.length : Int) != t324) = true := bne_iff_ne.mpr c44
                                      exact absurd (Option.some.inj H) (by rw [HR_.out]; decide)
                                  · replace c43 := Bool.eq_false_iff.mpr c43
                                    subst c43
                                    have H1 : (some false) = some r := by rw [if_neg (show ¬ (false = true) by decide)] at H; exact H
                                    clear H
                                    have H := H1
                                    clear H1
                                    exact absurd (Option.some.inj H) (by rw [HR_.out]; decide)
                                · rw [if_neg c41] at H
                                  have c41b0 : decide (x15_2 ≤ 2001) = false := decide_eq_false c41
                                  clear c41
                                  as_aux_lemma =>
                                    have H' := Aside0.mk H
                                    clear H
                                    go_wp2
                                    go_meet
                                    case rel => exact ⟨_, H', ⟨by have := HJ9.out; have := HK2.out; have := HK3.out; have := HJ35.out; first | omega | exact Nat.le_refl _⟩, ⟨by repeat (first | (with_reducible first | exact HB.out | apply below_alloc | apply pw_below_drewN | apply below_drew1) | exact HB.out)⟩⟩
            · replace c25 := Bool.eq_false_iff.mpr c25
              subst c25
              have H1 : (laws_FnHappyCounted.j4 kj9 l1) = some r := by rw [if_neg (show ¬ (false = true) by decide)] at H; exact H
              clear H
              have H := H1
              clear H1
              as_aux_lemma =>
                have H' := Aside0.mk H
                clear H
                go_wp2
                go_meet
                case rel => exact ⟨_, H', ⟨by have := HJ9.out; first | omega | exact Nat.le_refl _⟩, ⟨by repeat (first | (with_reducible first | exact HB.out | apply below_alloc | apply pw_below_drewN | apply below_drew1) | exact HB.out)⟩⟩
          case rest =>
            as_aux_lemma =>
            clear HC24
            try clear c1
            try clear c2
            try clear p2
            try clear c3
            try clear p3
            try clear q3
            try clear hx3
            try clear c4
            try clear p6
            try clear c11
            try clear c12
            try clear c14
            try clear c16
            try clear c16b0
            try clear c16b1
            try clear c16b2
            try clear c17
            try clear c17b0
            try clear c17b1
            try clear c18
            try clear c18b0
            try clear c18b1
            try clear c18b2
            try clear c20
            try clear c23
            try clear c25
            try clear c26
            try clear c26b0
            try clear c28
            try clear c28b0
            try clear c29
            try clear c29b0
            try clear c30
            try clear c30b0
            try clear c32
            try clear c33
            try clear p33
            try clear q33
            try clear hx33
            try clear c38
            try clear c38b0
            try clear c38b1
            try clear c39
            try clear c39b0
            try clear c39b1
            try clear c40
            try clear c41
            try clear c41b0
            try clear c43
            try clear c44
            try clear c44b0
            try clear c44b1
            try clear hx337_0
            try clear p2
            try clear p3
            try clear p33
            try clear p337
            try clear p6
            try clear q3
            try clear q33
            try clear q337
            obtain ⟨kq, HA, HJ23, HB⟩ := hcut
            cases kq with
            | zero => exact absurd HA.out (by simp [laws_FnHappyCounted.j4])
            | succ kj23 =>
              have H := HA.out
              clear HA
              simp only [laws_FnHappyCounted.j4] at H
              replace H := Option.bind_eq_some_iff.mp H
              obtain ⟨⟨t345, t346⟩, A470, H⟩ := H
              replace H : ((impl_HappyUpTo.f kj23 t345 t346).bind fun bt347 => ((spec_HappyUpTo.f kj23 t345 t346).bind fun bt351 => ((spec_DrawIsHappy.f kj23 l1).bind fun bt355 => ((impl_IsHappy.f kj23 bt355.1 bt355.2).bind fun bt357 => ((spec_IsHappy.f kj23 bt355.1 bt355.2).bind fun bt359 => (if (bt347.2 != bt351.2) = true then (laws_FnHappyCounted.j5 kj23 bt355.1 bt355.2 bt357.1 bt357.2 true) else ((laws_rSame.f kj23 bt347.1 bt351.1).bind fun t361 => (if t361 = true then (if (bt357.2 != bt359.2) = true then (laws_FnHappyCounted.j5 kj23 bt355.1 bt355.2 bt357.1 bt357.2 true) else (if (bt357.1 != bt359.1) = true then (laws_FnHappyCounted.j5 kj23 bt355.1 bt355.2 bt357.1 bt357.2 true) else ((laws_rRising.f kj23 bt347.1).bind fun t362 => (laws_FnHappyCounted.j5 kj23 bt355.1 bt355.2 bt357.1 bt357.2 (!t362))))) else (laws_FnHappyCounted.j5 kj23 bt355.1 bt355.2 bt357.1 bt357.2 true))))))))) = some r := H
              have A47 := Aside0.mk A470
              clear A470
              replace H := Option.bind_eq_some_iff.mp H
              obtain ⟨⟨t347, t348⟩, A480, H⟩ := H
              replace H : ((spec_HappyUpTo.f kj23 t345 t346).bind fun bt351 => ((spec_DrawIsHappy.f kj23 l1).bind fun bt355 => ((impl_IsHappy.f kj23 bt355.1 bt355.2).bind fun bt357 => ((spec_IsHappy.f kj23 bt355.1 bt355.2).bind fun bt359 => (if (t348 != bt351.2) = true then (laws_FnHappyCounted.j5 kj23 bt355.1 bt355.2 bt357.1 bt357.2 true) else ((laws_rSame.f kj23 t347 bt351.1).bind fun t361 => (if t361 = true then (if (bt357.2 != bt359.2) = true then (laws_FnHappyCounted.j5 kj23 bt355.1 bt355.2 bt357.1 bt357.2 true) else (if (bt357.1 != bt359.1) = true then (laws_FnHappyCounted.j5 kj23 bt355.1 bt355.2 bt357.1 bt357.2 true) else ((laws_rRising.f kj23 t347).bind fun t362 => (laws_FnHappyCounted.j5 kj23 bt355.1 bt355.2 bt357.1 bt357.2 (!t362))))) else (laws_FnHappyCounted.j5 kj23 bt355.1 bt355.2 bt357.1 bt357.2 true)))))))) = some r := H
              have A48 := Aside0.mk A480
              clear A480
              replace H := Option.bind_eq_some_iff.mp H
              obtain ⟨⟨t351, t352⟩, A490, H⟩ := H
              replace H : ((spec_DrawIsHappy.f kj23 l1).bind fun bt355 => ((impl_IsHappy.f kj23 bt355.1 bt355.2).bind fun bt357 => ((spec_IsHappy.f kj23 bt355.1 bt355.2).bind fun bt359 => (if (t348 != t352) = true then (laws_FnHappyCounted.j5 kj23 bt355.1 bt355.2 bt357.1 bt357.2 true) else ((laws_rSame.f kj23 t347 t351).bind fun t361 => (if t361 = true then (if (bt357.2 != bt359.2) = true then (laws_FnHappyCounted.j5 kj23 bt355.1 bt355.2 bt357.1 bt357.2 true) else (if (bt357.1 != bt359.1) = true then (laws_FnHappyCounted.j5 kj23 bt355.1 bt355.2 bt357.1 bt357.2 true) else ((laws_rRising.f kj23 t347).bind fun t362 => (laws_FnHappyCounted.j5 kj23 bt355.1 bt355.2 bt357.1 bt357.2 (!t362))))) else (laws_FnHappyCounted.j5 kj23 bt355.1 bt355.2 bt357.1 bt357.2 true))))))) = some r := H
              have A49 := Aside0.mk A490
              clear A490
              replace H := Option.bind_eq_some_iff.mp H
              obtain ⟨⟨t355, t356⟩, A500, H⟩ := H
              replace H : ((impl_IsHappy.f kj23 t355 t356).bind fun bt357 => ((spec_IsHappy.f kj23 t355 t356).bind fun bt359 => (if (t348 != t352) = true then (laws_FnHappyCounted.j5 kj23 t355 t356 bt357.1 bt357.2 true) else ((laws_rSame.f kj23 t347 t351).bind fun t361 => (if t361 = true then (if (bt357.2 != bt359.2) = true then (laws_FnHappyCounted.j5 kj23 t355 t356 bt357.1 bt357.2 true) else (if (bt357.1 != bt359.1) = true then (laws_FnHappyCounted.j5 kj23 t355 t356 bt357.1 bt357.2 true) else ((laws_rRising.f kj23 t347).bind fun t362 => (laws_FnHappyCounted.j5 kj23 t355 t356 bt357.1 bt357.2 (!t362))))) else (laws_FnHappyCounted.j5 kj23 t355 t356 bt357.1 bt357.2 true)))))) = some r := H
              have A50 := Aside0.mk A500
              clear A500
              replace H := Option.bind_eq_some_iff.mp H
              obtain ⟨⟨t357, t358⟩, A510, H⟩ := H
              replace H : ((spec_IsHappy.f kj23 t355 t356).bind fun bt359 => (if (t348 != t352) = true then (laws_FnHappyCounted.j5 kj23 t355 t356 t357 t358 true) else ((laws_rSame.f kj23 t347 t351).bind fun t361 => (if t361 = true then (if (t358 != bt359.2) = true then (laws_FnHappyCounted.j5 kj23 t355 t356 t357 t358 true) else (if (t357 != bt359.1) = true then (laws_FnHappyCounted.j5 kj23 t355 t356 t357 t358 true) else ((laws_rRising.f kj23 t347).bind fun t362 => (laws_FnHappyCounted.j5 kj23 t355 t356 t357 t358 (!t362))))) else (laws_FnHappyCounted.j5 kj23 t355 t356 t357 t358 true))))) = some r := H
              have A51 := Aside0.mk A510
              clear A510
              replace H := Option.bind_eq_some_iff.mp H
              obtain ⟨⟨t359, t360⟩, A520, H⟩ := H
              replace H : (if (t348 != t352) = true then (laws_FnHappyCounted.j5 kj23 t355 t356 t357 t358 true) else ((laws_rSame.f kj23 t347 t351).bind fun t361 => (if t361 = true then (if (t358 != t360) = true then (laws_FnHappyCounted.j5 kj23 t355 t356 t357 t358 true) else (if (t357 != t359) = true then (laws_FnHappyCounted.j5 kj23 t355 t356 t357 t358 true) else ((laws_rRising.f kj23 t347).bind fun t362 => (laws_FnHappyCounted.j5 kj23 t355 t356 t357 t358 (!t362))))) else (laws_FnHappyCounted.j5 kj23 t355 t356 t357 t358 true)))) = some r := H
              have A52 := Aside0.mk A520
              clear A520
              have HC53 := Aside0.mk H
              clear H
              go_upto_region 37 with (first | ((with_reducible refine gate_callee (f := 127) rfl ?_); refine goesL_ (some 166) rfl rfl Try.func127 (by kernel_rfl) rfl #[.slice A1 l1.length c1] rfl (by (try simp only [List.map_toArray, List.map_cons, List.map_nil]); first | done | rfl | (simp only [List.length_drop, List.length_take]; rfl)) ?_; (with_reducible refine (spec_DrawHappyUpTo.calls _ _ l1 t345 t346 _ ?side1 ?side2 A47.out).mono ?_); (case side1 => repeat (first | exact (Kd.C_below HR1.out HB.out) | (with_reducible refine Kd.C_alloc ?_ _) | (with_reducible refine Kd.C_drewN ?_ _) | (with_reducible refine Kd.C_drew ?_))); (case side2 => exact HC1.out); rintro e w54 ⟨rfl, hb⟩; refine ⟨_, rfl, ?_⟩; have n0_ := Aside0.mk (below_step (by repeat (first | (with_reducible first | exact HB.out | apply below_alloc | apply pw_below_drewN | apply below_drew1) | exact HB.out)) hb); clear HB; have HB := n0_; clear n0_; (try clear hb); (try clear hb2); (try clear hk); (try clear hi)) | ((with_reducible refine gate_callee (f := 126) rfl ?_); refine goesL_ (some 172) rfl rfl Try.func126 (by kernel_rfl) rfl #[.int .i64 t345, .int .i64 t346] rfl (by (try simp only [List.map_toArray, List.map_cons, List.map_nil]); first | done | rfl | (simp only [List.length_drop, List.length_take]; rfl)) ?_; (with_reducible refine (impl_HappyUpTo.calls kj23 t345 t346 t347 t348 _ A48.out).mono ?_); rintro e w55 ⟨v349, rfl, ho0, hb⟩; refine ⟨_, rfl, ?_⟩; have n0_ := Aside0.mk (Kd.R_lower ho0 (below_size (by repeat (first | (with_reducible first | exact HB.out | apply below_alloc | apply pw_below_drewN | apply below_drew1) | exact HB.out)))); have n1_ := Aside0.mk (below_step (by repeat (first | (with_reducible first | exact HB.out | apply below_alloc | apply pw_below_drewN | apply below_drew1) | exact HB.out)) hb); clear HB; have HO350 := n0_; have HB := n1_; clear n0_ n1_; (try clear hb); (try clear hb2); (try clear hk); (try clear hi); (try clear ho0)) | ((with_reducible refine gate_callee (f := 128) rfl ?_); refine goesL_ (some 178) rfl rfl Try.func128 (by kernel_rfl) rfl #[.int .i64 t345, .int .i64 t346] rfl (by (try simp only [List.map_toArray, List.map_cons, List.map_nil]); first | done | rfl | (simp only [List.length_drop, List.length_take]; rfl)) ?_; (with_reducible refine (spec_HappyUpTo.calls kj23 t345 t346 t351 t352 _ A49.out).mono ?_); rintro e w56 ⟨v353, rfl, ho0, hb⟩; refine ⟨_, rfl, ?_⟩; have n0_ := Aside0.mk (Kd.R_elder' (by (with_reducible repeat (first | apply Kd.R_alloc | apply Kd.R_drewN | apply Kd.R_drew)); exact HO350.out) (Kd.R_base ho0) hb); have n1_ := Aside0.mk (Kd.R_lower (Kd.R_new' ho0 (Kd.R_lt (by (with_reducible repeat (first | apply Kd.R_alloc | apply Kd.R_drewN | apply Kd.R_drew)); exact HO350.out))) (below_size (by repeat (first | (with_reducible first | exact HB.out | apply below_alloc | apply pw_below_drewN | apply below_drew1) | exact HB.out)))); have n2_ := Aside0.mk (below_step (by repeat (first | (with_reducible first | exact HB.out | apply below_alloc | apply pw_below_drewN | apply below_drew1) | exact HB.out)) hb); clear HO350; clear HB; have HO350 := n0_; have HO354 := n1_; have HB := n2_; clear n0_ n1_ n2_; (try clear hb); (try clear hb2); (try clear hk); (try clear hi); (try clear ho0)) | ((with_reducible refine gate_callee (f := 129) rfl ?_); refine goesL_ (some 183) rfl rfl Try.func129 (by kernel_rfl) rfl #[.slice A1 l1.length c1] rfl (by (try simp only [List.map_toArray, List.map_cons, List.map_nil]); first | done | rfl | (simp only [List.length_drop, List.length_take]; rfl)) ?_; (with_reducible refine (spec_DrawIsHappy.calls kj23 _ _ l1 t355 t356 _ ?side1 ?side2 A50.out).mono ?_); (case side1 => repeat (first | exact (Kd.C_below HR1.out HB.out) | (with_reducible refine Kd.C_alloc ?_ _) | (with_reducible refine Kd.C_drewN ?_ _) | (with_reducible refine Kd.C_drew ?_))); (case side2 => exact HC1.out); rintro e w57 ⟨rfl, hb⟩; refine ⟨_, rfl, ?_⟩; have n0_ := Aside0.mk (Kd.R_below (by (with_reducible repeat (first | apply Kd.R_alloc | apply Kd.R_drewN | apply Kd.R_drew)); exact HO350.out) hb); have n1_ := Aside0.mk (Kd.R_below (by (with_reducible repeat (first | apply Kd.R_alloc | apply Kd.R_drewN | apply Kd.R_drew)); exact HO354.out) hb); have n2_ := Aside0.mk (below_step (by repeat (first | (with_reducible first | exact HB.out | apply below_alloc | apply pw_below_drewN | apply below_drew1) | exact HB.out)) hb); clear HO350; clear HO354; clear HB; have HO350 := n0_; have HO354 := n1_; have HB := n2_; clear n0_ n1_ n2_; (try clear hb); (try clear hb2); (try clear hk); (try clear hi)) | ((with_reducible refine gate_callee (f := 124) rfl ?_); refine goesL_ (some 189) rfl rfl Try.func124 (by kernel_rfl) rfl #[.int .i64 t355, .int .i64 t356] rfl (by (try simp only [List.map_toArray, List.map_cons, List.map_nil]); first | done | rfl | (simp only [List.length_drop, List.length_take]; rfl)) ?_; (with_reducible refine (impl_IsHappy.calls kj23 t355 t356 t357 t358 _ A51.out).mono ?_); rintro e w58 ⟨rfl, hb⟩; refine ⟨_, rfl, ?_⟩; have n0_ := Aside0.mk (Kd.R_below (by (with_reducible repeat (first | apply Kd.R_alloc | apply Kd.R_drewN | apply Kd.R_drew)); exact HO350.out) hb); have n1_ := Aside0.mk (Kd.R_below (by (with_reducible repeat (first | apply Kd.R_alloc | apply Kd.R_drewN | apply Kd.R_drew)); exact HO354.out) hb); have n2_ := Aside0.mk (below_step (by repeat (first | (with_reducible first | exact HB.out | apply below_alloc | apply pw_below_drewN | apply below_drew1) | exact HB.out)) hb); clear HO350; clear HO354; clear HB; have HO350 := n0_; have HO354 := n1_; have HB := n2_; clear n0_ n1_ n2_; (try clear hb); (try clear hb2); (try clear hk); (try clear hi)) | ((with_reducible refine gate_callee (f := 130) rfl ?_); refine goesL_ (some 195) rfl rfl Try.func130 (by kernel_rfl) rfl #[.int .i64 t355, .int .i64 t356] rfl (by (try simp only [List.map_toArray, List.map_cons, List.map_nil]); first | done | rfl | (simp only [List.length_drop, List.length_take]; rfl)) ?_; (with_reducible refine (spec_IsHappy.calls kj23 t355 t356 t359 t360 _ A52.out).mono ?_); rintro e w59 ⟨rfl, hb⟩; refine ⟨_, rfl, ?_⟩; have n0_ := Aside0.mk (Kd.R_below (by (with_reducible repeat (first | apply Kd.R_alloc | apply Kd.R_drewN | apply Kd.R_drew)); exact HO350.out) hb); have n1_ := Aside0.mk (Kd.R_below (by (with_reducible repeat (first | apply Kd.R_alloc | apply Kd.R_drewN | apply Kd.R_drew)); exact HO354.out) hb); have n2_ := Aside0.mk (below_step (by repeat (first | (with_reducible first | exact HB.out | apply below_alloc | apply pw_below_drewN | apply below_drew1) | exact HB.out)) hb); clear HO350; clear HO354; clear HB; have HO350 := n0_; have HO354 := n1_; have HB := n2_; clear n0_ n1_ n2_; (try clear hb); (try clear hb2); (try clear hk); (try clear hi)))
              (try simp only [Act.put, List.setIfInBounds_toArray, List.set_cons_zero, List.set_cons_succ])
              go_cut [221] (fun v221 wc => ∃ (kq : Nat) (x221_52 : Bool), v221 = .bool x221_52 ∧ Aside0 (laws_FnHappyCounted.j5 kq t355 t356 t357 t358 x221_52 = some r) ∧ Aside0 (kq ≤ kj23) ∧ Aside0 (Below w.heap.size w wc))
              case first =>
                as_aux_lemma =>
                have H := HC53.out
                clear HC53
                by_cases c60 : (t348 != t352) = true
                · rw [if_pos c60] at H
                  have c60b0 : (t348 != t352) = true := c60
                  (try (have c60b1 : decide (t348 = t352) = false := by simpa using c60))
                  (try (have c60b2 : (t348 == t352) = false := by simpa using c60))
                  (try (have c60b3 : ¬ (t348 = t352) := by simpa using c60))
                  clear c60
                  (first | rw [c60b0] | (simp only [i64_w, i32_w]; rw [c60b0]) | skip)
                  exact (laws_FnHappyCounted.j5_no HR_.out _ _ _ _ _ H).elim
                · rw [if_neg c60] at H
                  have c60b0 : (t348 != t352) = false := by simpa using c60
                  (try (have c60b1 : decide (t348 = t352) = true := by simpa using c60))
                  (try (have c60b2 : (t348 == t352) = true := by simpa using c60))
                  clear c60
                  (first | rw [c60b0] | (simp only [i64_w, i32_w]; rw [c60b0]) | skip)
                  replace H := Option.bind_eq_some_iff.mp H
                  obtain ⟨t361, A610, H⟩ := H
                  replace H : (if t361 = true then (if (t358 != t360) = true then (laws_FnHappyCounted.j5 kj23 t355 t356 t357 t358 true) else (if (t357 != t359) = true then (laws_FnHappyCounted.j5 kj23 t355 t356 t357 t358 true) else ((laws_rRising.f kj23 t347).bind fun t362 => (laws_FnHappyCounted.j5 kj23 t355 t356 t357 t358 (!t362))))) else (laws_FnHappyCounted.j5 kj23 t355 t356 t357 t358 true)) = some r := H
                  have A61 := Aside0.mk A610
                  clear A610
                  by_cases c62 : t361 = true
                  · subst c62
                    have H1 : (if (t358 != t360) = true then (laws_FnHappyCounted.j5 kj23 t355 t356 t357 t358 true) else (if (t357 != t359) = true then (laws_FnHappyCounted.j5 kj23 t355 t356 t357 t358 true) else ((laws_rRising.f kj23 t347).bind fun t362 => (laws_FnHappyCounted.j5 kj23 t355 t356 t357 t358 (!t362))))) = some r := by rw [if_pos rfl] at H; exact H
                    clear H
                    have H := H1
                    clear H1
                    by_cases c63 : (t358 != t360) = true
                    · rw [if_pos c63] at H
                      have c63b0 : (t358 != t360) = true := c63
                      (try (have c63b1 : decide (t358 = t360) = false := by simpa using c63))
                      (try (have c63b2 : (t358 == t360) = false := by simpa using c63))
                      (try (have c63b3 : ¬ (t358 = t360) := by simpa using c63))
                      clear c63
                      exact (laws_FnHappyCounted.j5_no HR_.out _ _ _ _ _ H).elim
                    · rw [if_neg c63] at H
                      have c63b0 : (t358 != t360) = false := by simpa using c63
                      (try (have c63b1 : decide (t358 = t360) = true := by simpa using c63))
                      (try (have c63b2 : (t358 == t360) = true := by simpa using c63))
                      clear c63
                      by_cases c64 : (t357 != t359) = true
                      · rw [if_pos c64] at H
                        have c64b0 : (t357 != t359) = true := c64
                        (try (have c64b1 : decide (t357 = t359) = false := by simpa using c64))
                        (try (have c64b2 : (t357 == t359) = false := by simpa using c64))
                        (try (have c64b3 : ¬ (t357 = t359) := by simpa using c64))
                        clear c64
                        exact (laws_FnHappyCounted.j5_no HR_.out _ _ _ _ _ H).elim
                      · rw [if_neg c64] at H
                        have c64b0 : (t357 != t359) = false := by simpa using c64
                        (try (have c64b1 : decide (t357 = t359) = true := by simpa using c64))
                        (try (have c64b2 : (t357 == t359) = true := by simpa using c64))
                        clear c64
                        replace H := Option.bind_eq_some_iff.mp H
                        obtain ⟨t362, A650, H⟩ := H
                        replace H : (laws_FnHappyCounted.j5 kj23 t355 t356 t357 t358 (!t362)) = some r := H
                        have A65 := Aside0.mk A650
                        clear A650
                        as_aux_lemma =>
                          have H' := Aside0.mk H
                          clear H
                          obtain ⟨Ao66, co66, eo66⟩ := Kd.R_slice HO350.out
                          subst eo66
                          obtain ⟨Ao67, co67, eo67⟩ := Kd.R_slice HO354.out
                          subst eo67
                          go_wp2_with (first | (go_at_call 123; (with_reducible refine (laws_rSame.calls kj23 _ _ t347 _ _ t351 true _ ?side1 ?side2 ?side3 ?side4 A61.out).mono ?_); (case side1 => repeat (first | exact (Kd.R_reads' HO350.out).2.2 | (with_reducible refine Kd.C_alloc ?_ _) | (with_reducible refine Kd.C_drewN ?_ _) | (with_reducible refine Kd.C_drew ?_))); (case side2 => exact (Kd.R_reads' HO350.out).2.1); (case side3 => repeat (first | exact (Kd.R_reads' HO354.out).2.2 | (with_reducible refine Kd.C_alloc ?_ _) | (with_reducible refine Kd.C_drewN ?_ _) | (with_reducible refine Kd.C_drew ?_))); (case side4 => exact (Kd.R_reads' HO354.out).2.1); rintro e w' ⟨rfl, ⟨nd, rfl⟩⟩) | (go_at_call 131; (with_reducible refine (laws_rRising.calls kj23 _ _ t347 t362 _ ?side1 ?side2 A65.out).mono ?_); (case side1 => repeat (first | exact (Kd.R_reads' HO350.out).2.2 | (with_reducible refine Kd.C_alloc ?_ _) | (with_reducible refine Kd.C_drewN ?_ _) | (with_reducible refine Kd.C_drew ?_))); (case side2 => exact (Kd.R_reads' HO350.out).2.1); rintro e w' ⟨rfl, ⟨nd, rfl⟩⟩))
                          go_meet
                          case rel => exact ⟨_, (!t362), (by first | rfl | (simp; done) | (simp [*]; done)), H', ⟨by have := HJ9.out; have := HJ23.out; first | omega | exact Nat.le_refl _⟩, ⟨by repeat (first | (with_reducible first | exact HB.out | apply below_alloc | apply pw_below_drewN | apply below_drew1) | exact HB.out)⟩⟩
                  · replace c62 := Bool.eq_false_iff.mpr c62
                    subst c62
                    have H1 : (laws_FnHappyCounted.j5 kj23 t355 t356 t357 t358 true) = some r := by rw [if_neg (show ¬ (false = true) by decide)] at H; exact H
                    clear H
                    have H := H1
                    clear H1
                    exact (laws_FnHappyCounted.j5_no HR_.out _ _ _ _ _ H).elim
              case rest =>
                as_aux_lemma =>
                clear HC53
                try clear c1
                try clear c2
                try clear p2
                try clear c3
                try clear p3
                try clear q3
                try clear hx3
                try clear c4
                try clear c6
                try clear p6
                try clear c11
                try clear c12
                try clear c13
                try clear c14
                try clear c16
                try clear c16b0
                try clear c16b1
                try clear c16b2
                try clear c17
                try clear c17b0
                try clear c17b1
                try clear c18
                try clear c18b0
                try clear c18b1
                try clear c18b2
                try clear c20
                try clear c23
                try clear c25
                try clear c26
                try clear c26b0
                try clear c28
                try clear c28b0
                try clear c29
                try clear c29b0
                try clear c30
                try clear c30b0
                try clear c32
                try clear c33
                try clear p33
                try clear q33
                try clear hx33
                try clear c38
                try clear c38b0
                try clear c38b1
                try clear c39
                try clear c39b0
                try clear c39b1
                try clear c40
                try clear c41
                try clear c41b0
                try clear c43
                try clear c44
                try clear c44b0
                try clear c44b1
                try clear c60
                try clear c60b0
                try clear c60b1
                try clear c60b2
                try clear c62
                try clear c63
                try clear c63b0
                try clear c63b1
                try clear c63b2
                try clear c64
                try clear c64b0
                try clear c64b1
                try clear c64b2
                try clear p64
                try clear hx337_0
                try clear p2
                try clear p3
                try clear p33
                try clear p337
                try clear p6
                try clear q3
                try clear q33
                try clear q337
                obtain ⟨kq, x221_52, rfl, HA, HJ52, HB⟩ := hcut
                cases kq with
                | zero => exact absurd HA.out (by simp [laws_FnHappyCounted.j5])
                | succ kj52 =>
                  have H := HA.out
                  clear HA
                  simp only [laws_FnHappyCounted.j5] at H
                  by_cases c68 : x221_52 = true
                  · subst c68
                    have H1 : (some false) = some r := by rw [if_pos rfl] at H; exact H
                    clear H
                    have H := H1
                    clear H1
                    exact absurd (Option.some.inj H) (by rw [HR_.out]; decide)
                  · replace c68 := Bool.eq_false_iff.mpr c68
                    subst c68
                    have H1 : (if t358 = true then ((impl_PowerSum.f kj52 t355 t356 2).bind fun bt363 => ((impl_IsHappy.f kj52 bt363.1 t356).bind fun bt365 => (if bt363.2 = true then (if bt365.2 = true then (some (bt365.1 == t357)) else (some false)) else (some false)))) else (some true)) = some r := by rw [if_neg (show ¬ (false = true) by decide)] at H; exact H
                    clear H
                    have H := H1
                    clear H1
                    by_cases c69 : t358 = true
                    · subst c69
                      have H1 : ((impl_PowerSum.f kj52 t355 t356 2).bind fun bt363 => ((impl_IsHappy.f kj52 bt363.1 t356).bind fun bt365 => (if bt363.2 = true then (if bt365.2 = true then (some (bt365.1 == t357)) else (some false)) else (some false)))) = some r := by rw [if_pos rfl] at H; exact H
                      clear H
                      have H := H1
                      clear H1
                      replace H := Option.bind_eq_some_iff.mp H
                      obtain ⟨⟨t363, t364⟩, A700, H⟩ := H
                      replace H : ((impl_IsHappy.f kj52 t363 t356).bind fun bt365 => (if t364 = true then (if bt365.2 = true then (some (bt365.1 == t357)) else (some false)) else (some false))) = some r := H
                      have A70 := Aside0.mk A700
                      clear A700
                      replace H := Option.bind_eq_some_iff.mp H
                      obtain ⟨⟨t365, t366⟩, A710, H⟩ := H
                      replace H : (if t364 = true then (if t366 = true then (some (t365 == t357)) else (some false)) else (some false)) = some r := H
                      have A71 := Aside0.mk A710
                      clear A710
                      by_cases c72 : t364 = true
                      · subst c72
                        have H1 : (if t366 = true then (some (t365 == t357)) else (some false)) = some r := by rw [if_pos rfl] at H; exact H
                        clear H
                        have H := H1
                        clear H1
                        by_cases c73 : t366 = true
                        · subst c73
                          have H1 : (some (t365 == t357)) = some r := by rw [if_pos rfl] at H; exact H
                          clear H
                          have H := H1
                          clear H1
                          as_aux_lemma =>
                            obtain rfl := Option.some.inj H
                            go_wp2_with (first | ((with_reducible refine gate_callee (f := 132) rfl ?_); refine goesL_ (some 226) rfl rfl Try.func132 (by kernel_rfl) rfl #[.int .i64 t355, .int .i64 t356, .int .i64 2] rfl (by (try simp only [List.map_toArray, List.map_cons, List.map_nil]); first | done | rfl | (simp only [List.length_drop, List.length_take]; rfl)) ?_; (with_reducible refine (impl_PowerSum.calls kj52 t355 t356 2 t363 true _ A70.out).mono ?_); rintro e w74 ⟨rfl, hb⟩; refine ⟨_, rfl, ?_⟩; have n0_ := Aside0.mk (below_step (by repeat (first | (with_reducible first | exact HB.out | apply below_alloc | apply pw_below_drewN | apply below_drew1) | exact HB.out)) hb); clear HB; have HB := n0_; clear n0_; (try clear hb); (try clear hb2); (try clear hk); (try clear hi)) | ((with_reducible refine gate_callee (f := 124) rfl ?_); refine goesL_ (some 232) rfl rfl Try.func124 (by kernel_rfl) rfl #[.int .i64 t363, .int .i64 t356] rfl (by (try simp only [List.map_toArray, List.map_cons, List.map_nil]); first | done | rfl | (simp only [List.length_drop, List.length_take]; rfl)) ?_; (with_reducible refine (impl_IsHappy.calls kj52 t363 t356 t365 true _ A71.out).mono ?_); rintro e w75 ⟨rfl, hb⟩; refine ⟨_, rfl, ?_⟩; have n0_ := Aside0.mk (below_step (by repeat (first | (with_reducible first | exact HB.out | apply below_alloc | apply pw_below_drewN | apply below_drew1) | exact HB.out)) hb); clear HB; have HB := n0_; clear n0_; (try clear hb); (try clear hb2); (try clear hk); (try clear hi)))
                            go_ret
                            exact ⟨by first | rfl | (simp [errW_none, errW_some] <;> rfl) | (simp [*, errW_none, errW_some] <;> rfl), by repeat (first | (with_reducible first | exact HB.out | apply below_alloc | apply pw_below_drewN | apply below_drew1) | exact HB.out)⟩
                        · replace c73 := Bool.eq_false_iff.mpr c73
                          subst c73
                          have H1 : (some false) = some r := by rw [if_neg (show ¬ (false = true) by decide)] at H; exact H
                          clear H
                          have H := H1
                          clear H1
                          exact absurd (Option.some.inj H) (by rw [HR_.out]; decide)
                      · replace c72 := Bool.eq_false_iff.mpr c72
                        subst c72
                        have H1 : (some false) = some r := by rw [if_neg (show ¬ (false = true) by decide)] at H; exact H
                        clear H
                        have H := H1
                        clear H1
                        exact absurd (Option.some.inj H) (by rw [HR_.out]; decide)
                    · replace c69 := Bool.eq_false_iff.mpr c69
                      subst c69
                      have H1 : (some true) = some r := by rw [if_neg (show ¬ (false = true) by decide)] at H; exact H
                      clear H
                      have H := H1
                      clear H1
                      as_aux_lemma =>
                        obtain rfl := Option.some.inj H
                        go_wp2
                        go_ret
                        exact ⟨by first | rfl | (simp [errW_none, errW_some] <;> rfl) | (simp [*, errW_none, errW_some] <;> rfl), by repeat (first | (with_reducible first | exact HB.out | apply below_alloc | apply pw_below_drewN | apply below_drew1) | exact HB.out)⟩

/-- THE ONE PURE STATEMENT of laws_FnHappyCounted: yours. -/
def laws_FnHappyCounted.Pure : Prop := ∀ (l0 : List Int) (l1 : List Int), l0.length ≤ maxLen → l0.length * 1 ≤ 140737488351232 → (∀ x ∈ l0, (Lit.int .u8 x).wf = true) → l1.length ≤ maxLen → l1.length * 1 ≤ 140737488351232 → (∀ x ∈ l1, (Lit.int .u8 x).wf = true) → ∃ k, laws_FnHappyCounted.f k l0 l1 = some true
theorem laws_FnHappyCounted.walk (P : laws_FnHappyCounted.Pure) (a0 : Option Addr) (len0 cap0 : Nat) (z0 : List Int) (a1 : Option Addr) (len1 cap1 : Nat) (z1 : List Int) (w : World) (w0 : (a0 = none ∧ len0 = 0 ∧ cap0 = 0 ∧ z0 = []) ∨ ∃ x, a0 = some x ∧ len0 ≤ cap0 ∧ cap0 ≤ maxLen ∧ z0.length = cap0 ∧ (∀ i, i < z0.length → w.cell? (x.add i) = some (.int .u8 (z0.getD i 0))) ∧ ∀ n ∈ z0, (Lit.int .u8 n).wf = true) (y0 : len0 * 1 ≤ 140737488351232) (w1 : (a1 = none ∧ len1 = 0 ∧ cap1 = 0 ∧ z1 = []) ∨ ∃ x, a1 = some x ∧ len1 ≤ cap1 ∧ cap1 ≤ maxLen ∧ z1.length = cap1 ∧ (∀ i, i < z1.length → w.cell? (x.add i) = some (.int .u8 (z1.getD i 0))) ∧ ∀ n ∈ z1, (Lit.int .u8 n).wf = true) (y1 : len1 * 1 ≤ 140737488351232) :
    Calls Try.prog 14 #[.slice a0 len0 cap0, .slice a1 len1 cap1] w fun e w' => e = .returned (.bool true) ∧ Below w.heap.size w w' := by
  obtain ⟨l0, rfl, hr0, hm0, hw0, hc0⟩ := ReadsInt.ofRowC w0
  obtain ⟨l1, rfl, hr1, hm1, hw1, hc1⟩ := ReadsInt.ofRowC w1
  obtain ⟨k, h⟩ := P l0 l1 hm0 y0 hw0 hm1 y1 hw1
  refine (laws_FnHappyCounted.calls k _ _ l0 _ _ l1 true w (Kd.C_of_reads (d := (0 : Int)) (h1 := fun _ => rfl) hr0) hc0 (Kd.C_of_reads (d := (0 : Int)) (h1 := fun _ => rfl) hr1) hc1 h rfl).mono ?_
  rintro e w' ⟨rfl, hd⟩
  exact ⟨rfl, hd⟩

end Go.Proofs.Ytikkpehjleoplaa.PFnHappyCounted
