-- out of the kit's print, turned by wip/own_print.py
import Derived.Test.YtiheocddlopfcaaPFnPowerRunsEndx0
import Derived.Test.YtiheocddlopfcaaPFnPowerRunsEndx1
import Derived.Test.YtiheocddlopfcaaPFnPowerRunsEndx2
import Derived.Test.YtiheocddlopfcaaPFnPowerRunsEndx3
import Derived.Test.YtiheocddlopfcaaPFnPowerRunsEndx4
import Derived.Test.YtiheocddlopfcaaPFnPowerRunsEndx5
import Derived.Test.YtiheocddlopfcaaPFnPowerRunsEndx6
namespace Go.Proofs.Ytiheocddlopfcaa.PFnPowerRunsEnd
open Go.RowKit Go.Proofs.YtiheocddlopfcaaW.PrintWords Go.Proofs.YtiheocddlopfcaaW.PrintLast Go.Proofs.YtiheocddlopfcaaW.PrintMore
attribute [local go_sem] max2_int min2_int max_two min_two max_three min_three max_four min_four   -- for this text's walks alone
set_option linter.unusedVariables false
set_option linter.unusedSimpArgs false

/-! ### laws_FnPowerRunsEnd: function 10 -/
mutual
def laws_FnPowerRunsEnd.j0 : Nat → List Int → Int → Int → Int → List Int → Bool → Int → Int → Int → Bool → Option (Bool)
  | 0, _, _, _, _, _, _, _, _, _, _ => none
  | k + 1, x1, x5, x6, x7, x8, x9, x12, x13, x18, x154 => if x154 = true then (some false) else (if x9 = true then (if (wrap64 (x12 + x13)) = (x8.length : Int) then (if 0 < (x8.length : Int) then (if (rd x8 0) = x5 then (if 0 ≤ x12 then (if x12 ≤ (x8.length : Int) then ((laws_rHas.f k (x8.drop (x12 : Int).toNat) x18).bind fun t350 => (laws_FnPowerRunsEnd.j1 k x1 x5 x6 x7 x8 x12 x18 (!t350))) else (none)) else (none)) else (laws_FnPowerRunsEnd.j1 k x1 x5 x6 x7 x8 x12 x18 true)) else (none)) else (laws_FnPowerRunsEnd.j1 k x1 x5 x6 x7 x8 x12 x18 true)) else (laws_FnPowerRunsEnd.j4 k x1))
def laws_FnPowerRunsEnd.j4 : Nat → List Int → Option (Bool)
  | 0, _ => none
  | k + 1, x1 => (spec_DrawFallsFrom.f x1).bind fun bt365 => ((impl_FallsFrom.f k bt365.1 bt365.2).bind fun bt367 => ((spec_FallsFrom.f k bt365.1 bt365.2).bind fun bt369 => ((impl_GreatestSum.f k bt365.1 bt365.2).bind fun bt371 => ((spec_GreatestSum.f k bt365.1 bt365.2).bind fun bt373 => (if (bt367.2 != bt369.2) = true then (laws_FnPowerRunsEnd.j5 k x1 true) else (if bt367.1 = bt369.1 then (if (bt371.2 != bt373.2) = true then (laws_FnPowerRunsEnd.j5 k x1 true) else (if bt371.1 = bt373.1 then (laws_FnPowerRunsEnd.j5 k x1 (bt371.2 != bt367.2)) else (laws_FnPowerRunsEnd.j5 k x1 true))) else (laws_FnPowerRunsEnd.j5 k x1 true)))))))
def laws_FnPowerRunsEnd.j5 : Nat → List Int → Bool → Option (Bool)
  | 0, _, _ => none
  | k + 1, x1, x325 => if x325 = true then (some false) else ((spec_DrawPowerSum.f k x1).bind fun bt375 => ((impl_PowerSum.f k bt375.1 bt375.2.1 bt375.2.2).bind fun bt378 => ((spec_PowerSum.f k bt375.1 bt375.2.1 bt375.2.2).bind fun bt380 => (if (bt378.2 != bt380.2) = true then (laws_FnPowerRunsEnd.j6 k bt375.1 bt375.2.1 bt375.2.2 bt378.1 bt378.2 true) else (laws_FnPowerRunsEnd.j6 k bt375.1 bt375.2.1 bt375.2.2 bt378.1 bt378.2 (bt378.1 != bt380.1))))))
def laws_FnPowerRunsEnd.j6 : Nat → Int → Int → Int → Int → Bool → Bool → Option (Bool)
  | 0, _, _, _, _, _, _ => none
  | k + 1, x45, x46, x47, x48, x49, x353 => if x353 = true then (some false) else (if x49 = true then ((impl_FallsFrom.f k x46 x47).bind fun bt382 => ((impl_CountDigits.f k x45 x46).bind fun bt384 => ((impl_GreatestSum.f k x46 x47).bind fun bt386 => (if bt382.2 = true then (if bt384.2 = true then (if bt386.2 = true then (if bt384.1 < bt382.1 then (if bt384.1 ≥ bt382.1 then (some true) else (some (decide (x48 ≤ bt386.1)))) else (if x48 < x45 then (if bt384.1 ≥ bt382.1 then (some true) else (some (decide (x48 ≤ bt386.1)))) else (some false))) else (some false)) else (some false)) else (some false))))) else (some true))
def laws_FnPowerRunsEnd.j1 : Nat → List Int → Int → Int → Int → List Int → Int → Int → Bool → Option (Bool)
  | 0, _, _, _, _, _, _, _, _ => none
  | k + 1, x1, x5, x6, x7, x8, x12, x18, x176 => if x176 = true then (some false) else (laws_FnPowerRunsEnd.l0 k x1 x5 x6 x7 x8 x12 x18 x8 (x8.length : Int) 0)
def laws_FnPowerRunsEnd.l0 : Nat → List Int → Int → Int → Int → List Int → Int → Int → List Int → Int → Int → Option (Bool)
  | 0, _, _, _, _, _, _, _, _, _, _ => none
  | k + 1, x1, x5, x6, x7, x8, x12, x18, x177, x178, x179 => if x179 < x178 then (if 0 ≤ x179 then (if x179 < (x177.length : Int) then ((impl_PowerSum.f k (rd x177 x179) x6 x7).bind fun bt352 => (if (wrap64 (x179 + 1)) < (x8.length : Int) then (if bt352.2 = true then (if 0 ≤ (wrap64 (x179 + 1)) then (if bt352.1 = (rd x8 (wrap64 (x179 + 1))) then (if x179 ≥ x12 then (if (rd x177 x179) < x18 then (some false) else (laws_FnPowerRunsEnd.l0 k x1 x5 x6 x7 x8 x12 x18 x177 x178 (wrap64 (x179 + 1)))) else (laws_FnPowerRunsEnd.l0 k x1 x5 x6 x7 x8 x12 x18 x177 x178 (wrap64 (x179 + 1)))) else (some false)) else (none)) else (some false)) else (if bt352.2 = true then (if 0 ≤ x12 then (if x12 < (x8.length : Int) then (if bt352.1 = (rd x8 x12) then (if x179 ≥ x12 then (if (rd x177 x179) < x18 then (some false) else (laws_FnPowerRunsEnd.l0 k x1 x5 x6 x7 x8 x12 x18 x177 x178 (wrap64 (x179 + 1)))) else (laws_FnPowerRunsEnd.l0 k x1 x5 x6 x7 x8 x12 x18 x177 x178 (wrap64 (x179 + 1)))) else (some false)) else (none)) else (none)) else (some false)))) else (none)) else (none)) else ((impl_GreatestSum.f k x6 x7).bind fun bt356 => (if bt356.2 = true then (if (x8.length : Int) > x12 then (if 0 ≤ x12 then (if x12 < (x8.length : Int) then (laws_FnPowerRunsEnd.j3 k x1 x5 x6 x7 (decide ((rd x8 x12) > bt356.1))) else (none)) else (none)) else (laws_FnPowerRunsEnd.j3 k x1 x5 x6 x7 false)) else (laws_FnPowerRunsEnd.j3 k x1 x5 x6 x7 true)))
def laws_FnPowerRunsEnd.j3 : Nat → List Int → Int → Int → Int → Bool → Option (Bool)
  | 0, _, _, _, _, _ => none
  | k + 1, x1, x5, x6, x7, x241 => if x241 = true then (some false) else ((impl_SortedUp.f k x5 x6).bind fun bt359 => (if bt359.2 = true then ((impl_PowerSum.f k bt359.1 x6 x7).bind fun bt361 => ((impl_PowerSum.f k x5 x6 x7).bind fun bt363 => (if bt361.2 = true then (if bt363.2 = true then (if bt361.1 = bt363.1 then (laws_FnPowerRunsEnd.j4 k x1) else (some false)) else (some false)) else (some false)))) else (laws_FnPowerRunsEnd.j4 k x1)))
end
def laws_FnPowerRunsEnd.f (k : Nat) (l0 : List Int) (l1 : List Int) : Option (Bool) := (laws_big.f l0 l1).bind fun t322 => (if t322 = true then (some true) else ((spec_DrawPowerRun.f k l0).bind fun bt323 => ((impl_PowerRun.f k bt323.1 bt323.2.1 bt323.2.2).bind fun bt326 => ((spec_PowerRun.f k bt323.1 bt323.2.1 bt323.2.2).bind fun bt330 => ((impl_PowerTail.f k bt323.1 bt323.2.1 bt323.2.2).bind fun bt334 => ((spec_PowerTail.f k bt323.1 bt323.2.1 bt323.2.2).bind fun bt337 => ((impl_EndsIn.f k bt323.1 bt323.2.1 bt323.2.2).bind fun bt340 => ((spec_EndsIn.f k bt323.1 bt323.2.1 bt323.2.2).bind fun bt342 => (if (bt326.2 != bt330.2) = true then (laws_FnPowerRunsEnd.j0 k l1 bt323.1 bt323.2.1 bt323.2.2 bt326.1 bt326.2 bt334.1 bt334.2.1 bt340.1 true) else ((laws_rSame.f k bt326.1 bt330.1).bind fun t344 => (if t344 = true then (if (bt334.2.2 != bt337.2.2) = true then (laws_FnPowerRunsEnd.j0 k l1 bt323.1 bt323.2.1 bt323.2.2 bt326.1 bt326.2 bt334.1 bt334.2.1 bt340.1 true) else (if bt334.1 = bt337.1 then (if bt334.2.1 = bt337.2.1 then (if (bt340.2 != bt342.2) = true then (laws_FnPowerRunsEnd.j0 k l1 bt323.1 bt323.2.1 bt323.2.2 bt326.1 bt326.2 bt334.1 bt334.2.1 bt340.1 true) else (if bt340.1 = bt342.1 then (if (bt334.2.2 != bt326.2) = true then (laws_FnPowerRunsEnd.j0 k l1 bt323.1 bt323.2.1 bt323.2.2 bt326.1 bt326.2 bt334.1 bt334.2.1 bt340.1 true) else (laws_FnPowerRunsEnd.j0 k l1 bt323.1 bt323.2.1 bt323.2.2 bt326.1 bt326.2 bt334.1 bt334.2.1 bt340.1 (bt340.2 != bt326.2))) else (laws_FnPowerRunsEnd.j0 k l1 bt323.1 bt323.2.1 bt323.2.2 bt326.1 bt326.2 bt334.1 bt334.2.1 bt340.1 true))) else (laws_FnPowerRunsEnd.j0 k l1 bt323.1 bt323.2.1 bt323.2.2 bt326.1 bt326.2 bt334.1 bt334.2.1 bt340.1 true)) else (laws_FnPowerRunsEnd.j0 k l1 bt323.1 bt323.2.1 bt323.2.2 bt326.1 bt326.2 bt334.1 bt334.2.1 bt340.1 true))) else (laws_FnPowerRunsEnd.j0 k l1 bt323.1 bt323.2.1 bt323.2.2 bt326.1 bt326.2 bt334.1 bt334.2.1 bt340.1 true))))))))))))
theorem laws_FnPowerRunsEnd.mono_l : ∀ k, (∀ y0 y1 y2 y3 y4 y5 y6 y7 y8 y9, LeO (laws_FnPowerRunsEnd.j0 k y0 y1 y2 y3 y4 y5 y6 y7 y8 y9) (laws_FnPowerRunsEnd.j0 (k + 1) y0 y1 y2 y3 y4 y5 y6 y7 y8 y9)) ∧ (∀ y0, LeO (laws_FnPowerRunsEnd.j4 k y0) (laws_FnPowerRunsEnd.j4 (k + 1) y0)) ∧ (∀ y0 y1, LeO (laws_FnPowerRunsEnd.j5 k y0 y1) (laws_FnPowerRunsEnd.j5 (k + 1) y0 y1)) ∧ (∀ y0 y1 y2 y3 y4 y5, LeO (laws_FnPowerRunsEnd.j6 k y0 y1 y2 y3 y4 y5) (laws_FnPowerRunsEnd.j6 (k + 1) y0 y1 y2 y3 y4 y5)) ∧ (∀ y0 y1 y2 y3 y4 y5 y6 y7, LeO (laws_FnPowerRunsEnd.j1 k y0 y1 y2 y3 y4 y5 y6 y7) (laws_FnPowerRunsEnd.j1 (k + 1) y0 y1 y2 y3 y4 y5 y6 y7)) ∧ (∀ y0 y1 y2 y3 y4 y5 y6 y7 y8 y9, LeO (laws_FnPowerRunsEnd.l0 k y0 y1 y2 y3 y4 y5 y6 y7 y8 y9) (laws_FnPowerRunsEnd.l0 (k + 1) y0 y1 y2 y3 y4 y5 y6 y7 y8 y9)) ∧ (∀ y0 y1 y2 y3 y4, LeO (laws_FnPowerRunsEnd.j3 k y0 y1 y2 y3 y4) (laws_FnPowerRunsEnd.j3 (k + 1) y0 y1 y2 y3 y4))
  | 0 => ⟨fun _ _ _ _ _ _ _ _ _ _ r h => by simp [laws_FnPowerRunsEnd.j0] at h, fun _ r h => by simp [laws_FnPowerRunsEnd.j4] at h, fun _ _ r h => by simp [laws_FnPowerRunsEnd.j5] at h, fun _ _ _ _ _ _ r h => by simp [laws_FnPowerRunsEnd.j6] at h, fun _ _ _ _ _ _ _ _ r h => by simp [laws_FnPowerRunsEnd.j1] at h, fun _ _ _ _ _ _ _ _ _ _ r h => by simp [laws_FnPowerRunsEnd.l0] at h, fun _ _ _ _ _ r h => by simp [laws_FnPowerRunsEnd.j3] at h⟩
  | k + 1 => by
    obtain ⟨ih0, ih1, ih2, ih3, ih4, ih5, ih6⟩ := laws_FnPowerRunsEnd.mono_l k
    refine ⟨?_, ?_, ?_, ?_, ?_, ?_, ?_⟩
    · intro y0 y1 y2 y3 y4 y5 y6 y7 y8 y9
      unfold laws_FnPowerRunsEnd.j0
      repeat' first
      | (with_reducible exact ih0 _ _ _ _ _ _ _ _ _ _)
      | (with_reducible exact ih1 _)
      | (with_reducible exact ih2 _ _)
      | (with_reducible exact ih3 _ _ _ _ _ _)
      | (with_reducible exact ih4 _ _ _ _ _ _ _ _)
      | (with_reducible exact ih5 _ _ _ _ _ _ _ _ _ _)
      | (with_reducible exact ih6 _ _ _ _ _)
      | (with_reducible exact impl_CountDigits.mono _ _ _)
      | (with_reducible exact impl_EndsIn.mono _ _ _ _)
      | (with_reducible exact impl_FallsFrom.mono _ _ _)
      | (with_reducible exact impl_GreatestSum.mono _ _ _)
      | (with_reducible exact impl_PowerRun.mono _ _ _ _)
      | (with_reducible exact impl_PowerSum.mono _ _ _ _)
      | (with_reducible exact impl_PowerTail.mono _ _ _ _)
      | (with_reducible exact impl_SortedUp.mono _ _ _)
      | (with_reducible exact laws_rHas.mono _ _ _)
      | (with_reducible exact laws_rSame.mono _ _ _)
      | (with_reducible exact spec_DrawPowerRun.mono _ _)
      | (with_reducible exact spec_DrawPowerSum.mono _ _)
      | (with_reducible exact spec_EndsIn.mono _ _ _ _)
      | (with_reducible exact spec_FallsFrom.mono _ _ _)
      | (with_reducible exact spec_GreatestSum.mono _ _ _)
      | (with_reducible exact spec_PowerRun.mono _ _ _ _)
      | (with_reducible exact spec_PowerSum.mono _ _ _ _)
      | (with_reducible exact spec_PowerTail.mono _ _ _ _)
      | (with_reducible exact LeO.refl _)
      | (with_reducible exact LeO.none _)
      | (with_reducible refine LeO.ite ?_ ?_)
      | (with_reducible refine LeO.bind ?_ (fun _ => ?_))
      | exact ih0 _ _ _ _ _ _ _ _ _ _
      | exact ih1 _
      | exact ih2 _ _
      | exact ih3 _ _ _ _ _ _
      | exact ih4 _ _ _ _ _ _ _ _
      | exact ih5 _ _ _ _ _ _ _ _ _ _
      | exact ih6 _ _ _ _ _
      | exact impl_CountDigits.mono _ _ _
      | exact impl_EndsIn.mono _ _ _ _
      | exact impl_FallsFrom.mono _ _ _
      | exact impl_GreatestSum.mono _ _ _
      | exact impl_PowerRun.mono _ _ _ _
      | exact impl_PowerSum.mono _ _ _ _
      | exact impl_PowerTail.mono _ _ _ _
      | exact impl_SortedUp.mono _ _ _
      | exact laws_rHas.mono _ _ _
      | exact laws_rSame.mono _ _ _
      | exact spec_DrawPowerRun.mono _ _
      | exact spec_DrawPowerSum.mono _ _
      | exact spec_EndsIn.mono _ _ _ _
      | exact spec_FallsFrom.mono _ _ _
      | exact spec_GreatestSum.mono _ _ _
      | exact spec_PowerRun.mono _ _ _ _
      | exact spec_PowerSum.mono _ _ _ _
      | exact spec_PowerTail.mono _ _ _ _
      | exact LeO.none _
      | refine LeO.ite ?_ ?_
      | refine LeO.bind ?_ (fun _ => ?_)
    · intro y0
      unfold laws_FnPowerRunsEnd.j4
      repeat' first
      | (with_reducible exact ih0 _ _ _ _ _ _ _ _ _ _)
      | (with_reducible exact ih1 _)
      | (with_reducible exact ih2 _ _)
      | (with_reducible exact ih3 _ _ _ _ _ _)
      | (with_reducible exact ih4 _ _ _ _ _ _ _ _)
      | (with_reducible exact ih5 _ _ _ _ _ _ _ _ _ _)
      | (with_reducible exact ih6 _ _ _ _ _)
      | (with_reducible exact impl_CountDigits.mono _ _ _)
      | (with_reducible exact impl_EndsIn.mono _ _ _ _)
      | (with_reducible exact impl_FallsFrom.mono _ _ _)
      | (with_reducible exact impl_GreatestSum.mono _ _ _)
      | (with_reducible exact impl_PowerRun.mono _ _ _ _)
      | (with_reducible exact impl_PowerSum.mono _ _ _ _)
      | (with_reducible exact impl_PowerTail.mono _ _ _ _)
      | (with_reducible exact impl_SortedUp.mono _ _ _)
      | (with_reducible exact laws_rHas.mono _ _ _)
      | (with_reducible exact laws_rSame.mono _ _ _)
      | (with_reducible exact spec_DrawPowerRun.mono _ _)
      | (with_reducible exact spec_DrawPowerSum.mono _ _)
      | (with_reducible exact spec_EndsIn.mono _ _ _ _)
      | (with_reducible exact spec_FallsFrom.mono _ _ _)
      | (with_reducible exact spec_GreatestSum.mono _ _ _)
      | (with_reducible exact spec_PowerRun.mono _ _ _ _)
      | (with_reducible exact spec_PowerSum.mono _ _ _ _)
      | (with_reducible exact spec_PowerTail.mono _ _ _ _)
      | (with_reducible exact LeO.refl _)
      | (with_reducible exact LeO.none _)
      | (with_reducible refine LeO.ite ?_ ?_)
      | (with_reducible refine LeO.bind ?_ (fun _ => ?_))
      | exact ih0 _ _ _ _ _ _ _ _ _ _
      | exact ih1 _
      | exact ih2 _ _
      | exact ih3 _ _ _ _ _ _
      | exact ih4 _ _ _ _ _ _ _ _
      | exact ih5 _ _ _ _ _ _ _ _ _ _
      | exact ih6 _ _ _ _ _
      | exact impl_CountDigits.mono _ _ _
      | exact impl_EndsIn.mono _ _ _ _
      | exact impl_FallsFrom.mono _ _ _
      | exact impl_GreatestSum.mono _ _ _
      | exact impl_PowerRun.mono _ _ _ _
      | exact impl_PowerSum.mono _ _ _ _
      | exact impl_PowerTail.mono _ _ _ _
      | exact impl_SortedUp.mono _ _ _
      | exact laws_rHas.mono _ _ _
      | exact laws_rSame.mono _ _ _
      | exact spec_DrawPowerRun.mono _ _
      | exact spec_DrawPowerSum.mono _ _
      | exact spec_EndsIn.mono _ _ _ _
      | exact spec_FallsFrom.mono _ _ _
      | exact spec_GreatestSum.mono _ _ _
      | exact spec_PowerRun.mono _ _ _ _
      | exact spec_PowerSum.mono _ _ _ _
      | exact spec_PowerTail.mono _ _ _ _
      | exact LeO.none _
      | refine LeO.ite ?_ ?_
      | refine LeO.bind ?_ (fun _ => ?_)
    · intro y0 y1
      unfold laws_FnPowerRunsEnd.j5
      repeat' first
      | (with_reducible exact ih0 _ _ _ _ _ _ _ _ _ _)
      | (with_reducible exact ih1 _)
      | (with_reducible exact ih2 _ _)
      | (with_reducible exact ih3 _ _ _ _ _ _)
      | (with_reducible exact ih4 _ _ _ _ _ _ _ _)
      | (with_reducible exact ih5 _ _ _ _ _ _ _ _ _ _)
      | (with_reducible exact ih6 _ _ _ _ _)
      | (with_reducible exact impl_CountDigits.mono _ _ _)
      | (with_reducible exact impl_EndsIn.mono _ _ _ _)
      | (with_reducible exact impl_FallsFrom.mono _ _ _)
      | (with_reducible exact impl_GreatestSum.mono _ _ _)
      | (with_reducible exact impl_PowerRun.mono _ _ _ _)
      | (with_reducible exact impl_PowerSum.mono _ _ _ _)
      | (with_reducible exact impl_PowerTail.mono _ _ _ _)
      | (with_reducible exact impl_SortedUp.mono _ _ _)
      | (with_reducible exact laws_rHas.mono _ _ _)
      | (with_reducible exact laws_rSame.mono _ _ _)
      | (with_reducible exact spec_DrawPowerRun.mono _ _)
      | (with_reducible exact spec_DrawPowerSum.mono _ _)
      | (with_reducible exact spec_EndsIn.mono _ _ _ _)
      | (with_reducible exact spec_FallsFrom.mono _ _ _)
      | (with_reducible exact spec_GreatestSum.mono _ _ _)
      | (with_reducible exact spec_PowerRun.mono _ _ _ _)
      | (with_reducible exact spec_PowerSum.mono _ _ _ _)
      | (with_reducible exact spec_PowerTail.mono _ _ _ _)
      | (with_reducible exact LeO.refl _)
      | (with_reducible exact LeO.none _)
      | (with_reducible refine LeO.ite ?_ ?_)
      | (with_reducible refine LeO.bind ?_ (fun _ => ?_))
      | exact ih0 _ _ _ _ _ _ _ _ _ _
      | exact ih1 _
      | exact ih2 _ _
      | exact ih3 _ _ _ _ _ _
      | exact ih4 _ _ _ _ _ _ _ _
      | exact ih5 _ _ _ _ _ _ _ _ _ _
      | exact ih6 _ _ _ _ _
      | exact impl_CountDigits.mono _ _ _
      | exact impl_EndsIn.mono _ _ _ _
      | exact impl_FallsFrom.mono _ _ _
      | exact impl_GreatestSum.mono _ _ _
      | exact impl_PowerRun.mono _ _ _ _
      | exact impl_PowerSum.mono _ _ _ _
      | exact impl_PowerTail.mono _ _ _ _
      | exact impl_SortedUp.mono _ _ _
      | exact laws_rHas.mono _ _ _
      | exact laws_rSame.mono _ _ _
      | exact spec_DrawPowerRun.mono _ _
      | exact spec_DrawPowerSum.mono _ _
      | exact spec_EndsIn.mono _ _ _ _
      | exact spec_FallsFrom.mono _ _ _
      | exact spec_GreatestSum.mono _ _ _
      | exact spec_PowerRun.mono _ _ _ _
      | exact spec_PowerSum.mono _ _ _ _
      | exact spec_PowerTail.mono _ _ _ _
      | exact LeO.none _
      | refine LeO.ite ?_ ?_
      | refine LeO.bind ?_ (fun _ => ?_)
    · intro y0 y1 y2 y3 y4 y5
      unfold laws_FnPowerRunsEnd.j6
      repeat' first
      | (with_reducible exact ih0 _ _ _ _ _ _ _ _ _ _)
      | (with_reducible exact ih1 _)
      | (with_reducible exact ih2 _ _)
      | (with_reducible exact ih3 _ _ _ _ _ _)
      | (with_reducible exact ih4 _ _ _ _ _ _ _ _)
      | (with_reducible exact ih5 _ _ _ _ _ _ _ _ _ _)
      | (with_reducible exact ih6 _ _ _ _ _)
      | (with_reducible exact impl_CountDigits.mono _ _ _)
      | (with_reducible exact impl_EndsIn.mono _ _ _ _)
      | (with_reducible exact impl_FallsFrom.mono _ _ _)
      | (with_reducible exact impl_GreatestSum.mono _ _ _)
      | (with_reducible exact impl_PowerRun.mono _ _ _ _)
      | (with_reducible exact impl_PowerSum.mono _ _ _ _)
      | (with_reducible exact impl_PowerTail.mono _ _ _ _)
      | (with_reducible exact impl_SortedUp.mono _ _ _)
      | (with_reducible exact laws_rHas.mono _ _ _)
      | (with_reducible exact laws_rSame.mono _ _ _)
      | (with_reducible exact spec_DrawPowerRun.mono _ _)
      | (with_reducible exact spec_DrawPowerSum.mono _ _)
      | (with_reducible exact spec_EndsIn.mono _ _ _ _)
      | (with_reducible exact spec_FallsFrom.mono _ _ _)
      | (with_reducible exact spec_GreatestSum.mono _ _ _)
      | (with_reducible exact spec_PowerRun.mono _ _ _ _)
      | (with_reducible exact spec_PowerSum.mono _ _ _ _)
      | (with_reducible exact spec_PowerTail.mono _ _ _ _)
      | (with_reducible exact LeO.refl _)
      | (with_reducible exact LeO.none _)
      | (with_reducible refine LeO.ite ?_ ?_)
      | (with_reducible refine LeO.bind ?_ (fun _ => ?_))
      | exact ih0 _ _ _ _ _ _ _ _ _ _
      | exact ih1 _
      | exact ih2 _ _
      | exact ih3 _ _ _ _ _ _
      | exact ih4 _ _ _ _ _ _ _ _
      | exact ih5 _ _ _ _ _ _ _ _ _ _
      | exact ih6 _ _ _ _ _
      | exact impl_CountDigits.mono _ _ _
      | exact impl_EndsIn.mono _ _ _ _
      | exact impl_FallsFrom.mono _ _ _
      | exact impl_GreatestSum.mono _ _ _
      | exact impl_PowerRun.mono _ _ _ _
      | exact impl_PowerSum.mono _ _ _ _
      | exact impl_PowerTail.mono _ _ _ _
      | exact impl_SortedUp.mono _ _ _
      | exact laws_rHas.mono _ _ _
      | exact laws_rSame.mono _ _ _
      | exact spec_DrawPowerRun.mono _ _
      | exact spec_DrawPowerSum.mono _ _
      | exact spec_EndsIn.mono _ _ _ _
      | exact spec_FallsFrom.mono _ _ _
      | exact spec_GreatestSum.mono _ _ _
      | exact spec_PowerRun.mono _ _ _ _
      | exact spec_PowerSum.mono _ _ _ _
      | exact spec_PowerTail.mono _ _ _ _
      | exact LeO.none _
      | refine LeO.ite ?_ ?_
      | refine LeO.bind ?_ (fun _ => ?_)
    · intro y0 y1 y2 y3 y4 y5 y6 y7
      unfold laws_FnPowerRunsEnd.j1
      repeat' first
      | (with_reducible exact ih0 _ _ _ _ _ _ _ _ _ _)
      | (with_reducible exact ih1 _)
      | (with_reducible exact ih2 _ _)
      | (with_reducible exact ih3 _ _ _ _ _ _)
      | (with_reducible exact ih4 _ _ _ _ _ _ _ _)
      | (with_reducible exact ih5 _ _ _ _ _ _ _ _ _ _)
      | (with_reducible exact ih6 _ _ _ _ _)
      | (with_reducible exact impl_CountDigits.mono _ _ _)
      | (with_reducible exact impl_EndsIn.mono _ _ _ _)
      | (with_reducible exact impl_FallsFrom.mono _ _ _)
      | (with_reducible exact impl_GreatestSum.mono _ _ _)
      | (with_reducible exact impl_PowerRun.mono _ _ _ _)
      | (with_reducible exact impl_PowerSum.mono _ _ _ _)
      | (with_reducible exact impl_PowerTail.mono _ _ _ _)
      | (with_reducible exact impl_SortedUp.mono _ _ _)
      | (with_reducible exact laws_rHas.mono _ _ _)
      | (with_reducible exact laws_rSame.mono _ _ _)
      | (with_reducible exact spec_DrawPowerRun.mono _ _)
      | (with_reducible exact spec_DrawPowerSum.mono _ _)
      | (with_reducible exact spec_EndsIn.mono _ _ _ _)
      | (with_reducible exact spec_FallsFrom.mono _ _ _)
      | (with_reducible exact spec_GreatestSum.mono _ _ _)
      | (with_reducible exact spec_PowerRun.mono _ _ _ _)
      | (with_reducible exact spec_PowerSum.mono _ _ _ _)
      | (with_reducible exact spec_PowerTail.mono _ _ _ _)
      | (with_reducible exact LeO.refl _)
      | (with_reducible exact LeO.none _)
      | (with_reducible refine LeO.ite ?_ ?_)
      | (with_reducible refine LeO.bind ?_ (fun _ => ?_))
      | exact ih0 _ _ _ _ _ _ _ _ _ _
      | exact ih1 _
      | exact ih2 _ _
      | exact ih3 _ _ _ _ _ _
      | exact ih4 _ _ _ _ _ _ _ _
      | exact ih5 _ _ _ _ _ _ _ _ _ _
      | exact ih6 _ _ _ _ _
      | exact impl_CountDigits.mono _ _ _
      | exact impl_EndsIn.mono _ _ _ _
      | exact impl_FallsFrom.mono _ _ _
      | exact impl_GreatestSum.mono _ _ _
      | exact impl_PowerRun.mono _ _ _ _
      | exact impl_PowerSum.mono _ _ _ _
      | exact impl_PowerTail.mono _ _ _ _
      | exact impl_SortedUp.mono _ _ _
      | exact laws_rHas.mono _ _ _
      | exact laws_rSame.mono _ _ _
      | exact spec_DrawPowerRun.mono _ _
      | exact spec_DrawPowerSum.mono _ _
      | exact spec_EndsIn.mono _ _ _ _
      | exact spec_FallsFrom.mono _ _ _
      | exact spec_GreatestSum.mono _ _ _
      | exact spec_PowerRun.mono _ _ _ _
      | exact spec_PowerSum.mono _ _ _ _
      | exact spec_PowerTail.mono _ _ _ _
      | exact LeO.none _
      | refine LeO.ite ?_ ?_
      | refine LeO.bind ?_ (fun _ => ?_)
    · intro y0 y1 y2 y3 y4 y5 y6 y7 y8 y9
      unfold laws_FnPowerRunsEnd.l0
      repeat' first
      | (with_reducible exact ih0 _ _ _ _ _ _ _ _ _ _)
      | (with_reducible exact ih1 _)
      | (with_reducible exact ih2 _ _)
      | (with_reducible exact ih3 _ _ _ _ _ _)
      | (with_reducible exact ih4 _ _ _ _ _ _ _ _)
      | (with_reducible exact ih5 _ _ _ _ _ _ _ _ _ _)
      | (with_reducible exact ih6 _ _ _ _ _)
      | (with_reducible exact impl_CountDigits.mono _ _ _)
      | (with_reducible exact impl_EndsIn.mono _ _ _ _)
      | (with_reducible exact impl_FallsFrom.mono _ _ _)
      | (with_reducible exact impl_GreatestSum.mono _ _ _)
      | (with_reducible exact impl_PowerRun.mono _ _ _ _)
      | (with_reducible exact impl_PowerSum.mono _ _ _ _)
      | (with_reducible exact impl_PowerTail.mono _ _ _ _)
      | (with_reducible exact impl_SortedUp.mono _ _ _)
      | (with_reducible exact laws_rHas.mono _ _ _)
      | (with_reducible exact laws_rSame.mono _ _ _)
      | (with_reducible exact spec_DrawPowerRun.mono _ _)
      | (with_reducible exact spec_DrawPowerSum.mono _ _)
      | (with_reducible exact spec_EndsIn.mono _ _ _ _)
      | (with_reducible exact spec_FallsFrom.mono _ _ _)
      | (with_reducible exact spec_GreatestSum.mono _ _ _)
      | (with_reducible exact spec_PowerRun.mono _ _ _ _)
      | (with_reducible exact spec_PowerSum.mono _ _ _ _)
      | (with_reducible exact spec_PowerTail.mono _ _ _ _)
      | (with_reducible exact LeO.refl _)
      | (with_reducible exact LeO.none _)
      | (with_reducible refine LeO.ite ?_ ?_)
      | (with_reducible refine LeO.bind ?_ (fun _ => ?_))
      | exact ih0 _ _ _ _ _ _ _ _ _ _
      | exact ih1 _
      | exact ih2 _ _
      | exact ih3 _ _ _ _ _ _
      | exact ih4 _ _ _ _ _ _ _ _
      | exact ih5 _ _ _ _ _ _ _ _ _ _
      | exact ih6 _ _ _ _ _
      | exact impl_CountDigits.mono _ _ _
      | exact impl_EndsIn.mono _ _ _ _
      | exact impl_FallsFrom.mono _ _ _
      | exact impl_GreatestSum.mono _ _ _
      | exact impl_PowerRun.mono _ _ _ _
      | exact impl_PowerSum.mono _ _ _ _
      | exact impl_PowerTail.mono _ _ _ _
      | exact impl_SortedUp.mono _ _ _
      | exact laws_rHas.mono _ _ _
      | exact laws_rSame.mono _ _ _
      | exact spec_DrawPowerRun.mono _ _
      | exact spec_DrawPowerSum.mono _ _
      | exact spec_EndsIn.mono _ _ _ _
      | exact spec_FallsFrom.mono _ _ _
      | exact spec_GreatestSum.mono _ _ _
      | exact spec_PowerRun.mono _ _ _ _
      | exact spec_PowerSum.mono _ _ _ _
      | exact spec_PowerTail.mono _ _ _ _
      | exact LeO.none _
      | refine LeO.ite ?_ ?_
      | refine LeO.bind ?_ (fun _ => ?_)
    · intro y0 y1 y2 y3 y4
      unfold laws_FnPowerRunsEnd.j3
      repeat' first
      | (with_reducible exact ih0 _ _ _ _ _ _ _ _ _ _)
      | (with_reducible exact ih1 _)
      | (with_reducible exact ih2 _ _)
      | (with_reducible exact ih3 _ _ _ _ _ _)
      | (with_reducible exact ih4 _ _ _ _ _ _ _ _)
      | (with_reducible exact ih5 _ _ _ _ _ _ _ _ _ _)
      | (with_reducible exact ih6 _ _ _ _ _)
      | (with_reducible exact impl_CountDigits.mono _ _ _)
      | (with_reducible exact impl_EndsIn.mono _ _ _ _)
      | (with_reducible exact impl_FallsFrom.mono _ _ _)
      | (with_reducible exact impl_GreatestSum.mono _ _ _)
      | (with_reducible exact impl_PowerRun.mono _ _ _ _)
      | (with_reducible exact impl_PowerSum.mono _ _ _ _)
      | (with_reducible exact impl_PowerTail.mono _ _ _ _)
      | (with_reducible exact impl_SortedUp.mono _ _ _)
      | (with_reducible exact laws_rHas.mono _ _ _)
      | (with_reducible exact laws_rSame.mono _ _ _)
      | (with_reducible exact spec_DrawPowerRun.mono _ _)
      | (with_reducible exact spec_DrawPowerSum.mono _ _)
      | (with_reducible exact spec_EndsIn.mono _ _ _ _)
      | (with_reducible exact spec_FallsFrom.mono _ _ _)
      | (with_reducible exact spec_GreatestSum.mono _ _ _)
      | (with_reducible exact spec_PowerRun.mono _ _ _ _)
      | (with_reducible exact spec_PowerSum.mono _ _ _ _)
      | (with_reducible exact spec_PowerTail.mono _ _ _ _)
      | (with_reducible exact LeO.refl _)
      | (with_reducible exact LeO.none _)
      | (with_reducible refine LeO.ite ?_ ?_)
      | (with_reducible refine LeO.bind ?_ (fun _ => ?_))
      | exact ih0 _ _ _ _ _ _ _ _ _ _
      | exact ih1 _
      | exact ih2 _ _
      | exact ih3 _ _ _ _ _ _
      | exact ih4 _ _ _ _ _ _ _ _
      | exact ih5 _ _ _ _ _ _ _ _ _ _
      | exact ih6 _ _ _ _ _
      | exact impl_CountDigits.mono _ _ _
      | exact impl_EndsIn.mono _ _ _ _
      | exact impl_FallsFrom.mono _ _ _
      | exact impl_GreatestSum.mono _ _ _
      | exact impl_PowerRun.mono _ _ _ _
      | exact impl_PowerSum.mono _ _ _ _
      | exact impl_PowerTail.mono _ _ _ _
      | exact impl_SortedUp.mono _ _ _
      | exact laws_rHas.mono _ _ _
      | exact laws_rSame.mono _ _ _
      | exact spec_DrawPowerRun.mono _ _
      | exact spec_DrawPowerSum.mono _ _
      | exact spec_EndsIn.mono _ _ _ _
      | exact spec_FallsFrom.mono _ _ _
      | exact spec_GreatestSum.mono _ _ _
      | exact spec_PowerRun.mono _ _ _ _
      | exact spec_PowerSum.mono _ _ _ _
      | exact spec_PowerTail.mono _ _ _ _
      | exact LeO.none _
      | refine LeO.ite ?_ ?_
      | refine LeO.bind ?_ (fun _ => ?_)
theorem laws_FnPowerRunsEnd.mono : ∀ a0 a1 k, LeO (laws_FnPowerRunsEnd.f k a0 a1) (laws_FnPowerRunsEnd.f (k + 1) a0 a1) := by
  intro a0 a1 k
  obtain ⟨ih0, ih1, ih2, ih3, ih4, ih5, ih6⟩ := laws_FnPowerRunsEnd.mono_l k
  unfold laws_FnPowerRunsEnd.f
  repeat' first
      | (with_reducible exact ih0 _ _ _ _ _ _ _ _ _ _)
      | (with_reducible exact ih1 _)
      | (with_reducible exact ih2 _ _)
      | (with_reducible exact ih3 _ _ _ _ _ _)
      | (with_reducible exact ih4 _ _ _ _ _ _ _ _)
      | (with_reducible exact ih5 _ _ _ _ _ _ _ _ _ _)
      | (with_reducible exact ih6 _ _ _ _ _)
      | (with_reducible exact impl_CountDigits.mono _ _ _)
      | (with_reducible exact impl_EndsIn.mono _ _ _ _)
      | (with_reducible exact impl_FallsFrom.mono _ _ _)
      | (with_reducible exact impl_GreatestSum.mono _ _ _)
      | (with_reducible exact impl_PowerRun.mono _ _ _ _)
      | (with_reducible exact impl_PowerSum.mono _ _ _ _)
      | (with_reducible exact impl_PowerTail.mono _ _ _ _)
      | (with_reducible exact impl_SortedUp.mono _ _ _)
      | (with_reducible exact laws_rHas.mono _ _ _)
      | (with_reducible exact laws_rSame.mono _ _ _)
      | (with_reducible exact spec_DrawPowerRun.mono _ _)
      | (with_reducible exact spec_DrawPowerSum.mono _ _)
      | (with_reducible exact spec_EndsIn.mono _ _ _ _)
      | (with_reducible exact spec_FallsFrom.mono _ _ _)
      | (with_reducible exact spec_GreatestSum.mono _ _ _)
      | (with_reducible exact spec_PowerRun.mono _ _ _ _)
      | (with_reducible exact spec_PowerSum.mono _ _ _ _)
      | (with_reducible exact spec_PowerTail.mono _ _ _ _)
      | (with_reducible exact LeO.refl _)
      | (with_reducible exact LeO.none _)
      | (with_reducible refine LeO.ite ?_ ?_)
      | (with_reducible refine LeO.bind ?_ (fun _ => ?_))
      | exact ih0 _ _ _ _ _ _ _ _ _ _
      | exact ih1 _
      | exact ih2 _ _
      | exact ih3 _ _ _ _ _ _
      | exact ih4 _ _ _ _ _ _ _ _
      | exact ih5 _ _ _ _ _ _ _ _ _ _
      | exact ih6 _ _ _ _ _
      | exact impl_CountDigits.mono _ _ _
      | exact impl_EndsIn.mono _ _ _ _
      | exact impl_FallsFrom.mono _ _ _
      | exact impl_GreatestSum.mono _ _ _
      | exact impl_PowerRun.mono _ _ _ _
      | exact impl_PowerSum.mono _ _ _ _
      | exact impl_PowerTail.mono _ _ _ _
      | exact impl_SortedUp.mono _ _ _
      | exact laws_rHas.mono _ _ _
      | exact laws_rSame.mono _ _ _
      | exact spec_DrawPowerRun.mono _ _
      | exact spec_DrawPowerSum.mono _ _
      | exact spec_EndsIn.mono _ _ _ _
      | exact spec_FallsFrom.mono _ _ _
      | exact spec_GreatestSum.mono _ _ _
      | exact spec_PowerRun.mono _ _ _ _
      | exact spec_PowerSum.mono _ _ _ _
      | exact spec_PowerTail.mono _ _ _ _
      | exact LeO.none _
      | refine LeO.ite ?_ ?_
      | refine LeO.bind ?_ (fun _ => ?_)
theorem laws_FnPowerRunsEnd.j0_no {r : Bool} (hr : r = true) (k : Nat) (x1 : List Int) (x5 : Int) (x6 : Int) (x7 : Int) (x8 : List Int) (x9 : Bool) (x12 : Int) (x13 : Int) (x18 : Int) (h : laws_FnPowerRunsEnd.j0 k x1 x5 x6 x7 x8 x9 x12 x13 x18 true = some r) : False := by
  subst hr
  cases k with
  | zero => simp [laws_FnPowerRunsEnd.j0] at h
  | succ k => simp [laws_FnPowerRunsEnd.j0] at h
theorem laws_FnPowerRunsEnd.j5_no {r : Bool} (hr : r = true) (k : Nat) (x1 : List Int) (h : laws_FnPowerRunsEnd.j5 k x1 true = some r) : False := by
  subst hr
  cases k with
  | zero => simp [laws_FnPowerRunsEnd.j5] at h
  | succ k => simp [laws_FnPowerRunsEnd.j5] at h
theorem laws_FnPowerRunsEnd.j6_no {r : Bool} (hr : r = true) (k : Nat) (x45 : Int) (x46 : Int) (x47 : Int) (x48 : Int) (x49 : Bool) (h : laws_FnPowerRunsEnd.j6 k x45 x46 x47 x48 x49 true = some r) : False := by
  subst hr
  cases k with
  | zero => simp [laws_FnPowerRunsEnd.j6] at h
  | succ k => simp [laws_FnPowerRunsEnd.j6] at h
theorem laws_FnPowerRunsEnd.j1_no {r : Bool} (hr : r = true) (k : Nat) (x1 : List Int) (x5 : Int) (x6 : Int) (x7 : Int) (x8 : List Int) (x12 : Int) (x18 : Int) (h : laws_FnPowerRunsEnd.j1 k x1 x5 x6 x7 x8 x12 x18 true = some r) : False := by
  subst hr
  cases k with
  | zero => simp [laws_FnPowerRunsEnd.j1] at h
  | succ k => simp [laws_FnPowerRunsEnd.j1] at h
theorem laws_FnPowerRunsEnd.j3_no {r : Bool} (hr : r = true) (k : Nat) (x1 : List Int) (x5 : Int) (x6 : Int) (x7 : Int) (h : laws_FnPowerRunsEnd.j3 k x1 x5 x6 x7 true = some r) : False := by
  subst hr
  cases k with
  | zero => simp [laws_FnPowerRunsEnd.j3] at h
  | succ k => simp [laws_FnPowerRunsEnd.j3] at h
set_option maxHeartbeats 8000000 in
set_option maxRecDepth 100000 in
theorem laws_FnPowerRunsEnd.calls (k : Nat) (A0 : Option Addr) (c0 : Nat) (l0 : List Int) (A1 : Option Addr) (c1 : Nat) (l1 : List Int) (r : Bool) (w : World) (hr0 : Kd.C (Kd.int .u8) w A0 l0.length l0) (hc0 : l0.length ≤ c0) (hr1 : Kd.C (Kd.int .u8) w A1 l1.length l1) (hc1 : l1.length ≤ c1) (h : laws_FnPowerRunsEnd.f k l0 l1 = some r) (hr_ : r = true) :
    Calls Try.prog 10 #[.slice A0 l0.length c0, .slice A1 l1.length c1] w fun e w' => e = .returned (.bool r) ∧ Below w.heap.size w w' := by
  have HR0 := Aside0.mk hr0
  have HC0 := Aside0.mk hc0
  clear hr0 hc0
  have HR1 := Aside0.mk hr1
  have HC1 := Aside0.mk hc1
  clear hr1 hc1
  have HB := Aside0.mk (Below.refl w.heap.size w)
  have H : ((laws_big.f l0 l1).bind fun t322 => (if t322 = true then (some true) else ((spec_DrawPowerRun.f k l0).bind fun bt323 => ((impl_PowerRun.f k bt323.1 bt323.2.1 bt323.2.2).bind fun bt326 => ((spec_PowerRun.f k bt323.1 bt323.2.1 bt323.2.2).bind fun bt330 => ((impl_PowerTail.f k bt323.1 bt323.2.1 bt323.2.2).bind fun bt334 => ((spec_PowerTail.f k bt323.1 bt323.2.1 bt323.2.2).bind fun bt337 => ((impl_EndsIn.f k bt323.1 bt323.2.1 bt323.2.2).bind fun bt340 => ((spec_EndsIn.f k bt323.1 bt323.2.1 bt323.2.2).bind fun bt342 => (if (bt326.2 != bt330.2) = true then (laws_FnPowerRunsEnd.j0 k l1 bt323.1 bt323.2.1 bt323.2.2 bt326.1 bt326.2 bt334.1 bt334.2.1 bt340.1 true) else ((laws_rSame.f k bt326.1 bt330.1).bind fun t344 => (if t344 = true then (if (bt334.2.2 != bt337.2.2) = true then (laws_FnPowerRunsEnd.j0 k l1 bt323.1 bt323.2.1 bt323.2.2 bt326.1 bt326.2 bt334.1 bt334.2.1 bt340.1 true) else (if bt334.1 = bt337.1 then (if bt334.2.1 = bt337.2.1 then (if (bt340.2 != bt342.2) = true then (laws_FnPowerRunsEnd.j0 k l1 bt323.1 bt323.2.1 bt323.2.2 bt326.1 bt326.2 bt334.1 bt334.2.1 bt340.1 true) else (if bt340.1 = bt342.1 then (if (bt334.2.2 != bt326.2) = true then (laws_FnPowerRunsEnd.j0 k l1 bt323.1 bt323.2.1 bt323.2.2 bt326.1 bt326.2 bt334.1 bt334.2.1 bt340.1 true) else (laws_FnPowerRunsEnd.j0 k l1 bt323.1 bt323.2.1 bt323.2.2 bt326.1 bt326.2 bt334.1 bt334.2.1 bt340.1 (bt340.2 != bt326.2))) else (laws_FnPowerRunsEnd.j0 k l1 bt323.1 bt323.2.1 bt323.2.2 bt326.1 bt326.2 bt334.1 bt334.2.1 bt340.1 true))) else (laws_FnPowerRunsEnd.j0 k l1 bt323.1 bt323.2.1 bt323.2.2 bt326.1 bt326.2 bt334.1 bt334.2.1 bt340.1 true)) else (laws_FnPowerRunsEnd.j0 k l1 bt323.1 bt323.2.1 bt323.2.2 bt326.1 bt326.2 bt334.1 bt334.2.1 bt340.1 true))) else (laws_FnPowerRunsEnd.j0 k l1 bt323.1 bt323.2.1 bt323.2.2 bt326.1 bt326.2 bt334.1 bt334.2.1 bt340.1 true))))))))))))) = some r := h
  clear h
  have HR_ := Aside0.mk hr_
  clear hr_
  replace H := Option.bind_eq_some_iff.mp H
  obtain ⟨t322, A30, H⟩ := H
  replace H : (if t322 = true then (some true) else ((spec_DrawPowerRun.f k l0).bind fun bt323 => ((impl_PowerRun.f k bt323.1 bt323.2.1 bt323.2.2).bind fun bt326 => ((spec_PowerRun.f k bt323.1 bt323.2.1 bt323.2.2).bind fun bt330 => ((impl_PowerTail.f k bt323.1 bt323.2.1 bt323.2.2).bind fun bt334 => ((spec_PowerTail.f k bt323.1 bt323.2.1 bt323.2.2).bind fun bt337 => ((impl_EndsIn.f k bt323.1 bt323.2.1 bt323.2.2).bind fun bt340 => ((spec_EndsIn.f k bt323.1 bt323.2.1 bt323.2.2).bind fun bt342 => (if (bt326.2 != bt330.2) = true then (laws_FnPowerRunsEnd.j0 k l1 bt323.1 bt323.2.1 bt323.2.2 bt326.1 bt326.2 bt334.1 bt334.2.1 bt340.1 true) else ((laws_rSame.f k bt326.1 bt330.1).bind fun t344 => (if t344 = true then (if (bt334.2.2 != bt337.2.2) = true then (laws_FnPowerRunsEnd.j0 k l1 bt323.1 bt323.2.1 bt323.2.2 bt326.1 bt326.2 bt334.1 bt334.2.1 bt340.1 true) else (if bt334.1 = bt337.1 then (if bt334.2.1 = bt337.2.1 then (if (bt340.2 != bt342.2) = true then (laws_FnPowerRunsEnd.j0 k l1 bt323.1 bt323.2.1 bt323.2.2 bt326.1 bt326.2 bt334.1 bt334.2.1 bt340.1 true) else (if bt340.1 = bt342.1 then (if (bt334.2.2 != bt326.2) = true then (laws_FnPowerRunsEnd.j0 k l1 bt323.1 bt323.2.1 bt323.2.2 bt326.1 bt326.2 bt334.1 bt334.2.1 bt340.1 true) else (laws_FnPowerRunsEnd.j0 k l1 bt323.1 bt323.2.1 bt323.2.2 bt326.1 bt326.2 bt334.1 bt334.2.1 bt340.1 (bt340.2 != bt326.2))) else (laws_FnPowerRunsEnd.j0 k l1 bt323.1 bt323.2.1 bt323.2.2 bt326.1 bt326.2 bt334.1 bt334.2.1 bt340.1 true))) else (laws_FnPowerRunsEnd.j0 k l1 bt323.1 bt323.2.1 bt323.2.2 bt326.1 bt326.2 bt334.1 bt334.2.1 bt340.1 true)) else (laws_FnPowerRunsEnd.j0 k l1 bt323.1 bt323.2.1 bt323.2.2 bt326.1 bt326.2 bt334.1 bt334.2.1 bt340.1 true))) else (laws_FnPowerRunsEnd.j0 k l1 bt323.1 bt323.2.1 bt323.2.2 bt326.1 bt326.2 bt334.1 bt334.2.1 bt340.1 true)))))))))))) = some r := H
  have A3 := Aside0.mk A30
  clear A30
  by_cases c4 : t322 = true
  · subst c4
    have H1 : (some true) = some r := by rw [if_pos rfl] at H; exact H
    clear H
    have H := H1
    clear H1
    as_aux_lemma =>
      obtain rfl := Option.some.inj H
      go_enter Try.func10, Try.ntmps10
      go_wp2_with (first | ((with_reducible refine gate_callee (f := 15) rfl ?_); refine goesL_ (some 60) rfl rfl Try.func15 (by kernel_rfl) rfl #[.slice A0 l0.length c0, .slice A1 l1.length c1] rfl (by (try simp only [List.map_toArray, List.map_cons, List.map_nil]); first | done | rfl | (simp only [List.length_drop, List.length_take]; rfl)) ?_; (with_reducible refine (laws_big.calls _ _ l0 _ _ l1 true _ ?side1 ?side2 ?side3 ?side4 A3.out).mono ?_); (case side1 => repeat (first | exact HR0.out | (with_reducible refine Kd.C_alloc ?_ _) | (with_reducible refine Kd.C_drewN ?_ _) | (with_reducible refine Kd.C_drew ?_))); (case side2 => exact HC0.out); (case side3 => repeat (first | exact HR1.out | (with_reducible refine Kd.C_alloc ?_ _) | (with_reducible refine Kd.C_drewN ?_ _) | (with_reducible refine Kd.C_drew ?_))); (case side4 => exact HC1.out); rintro e w' ⟨rfl, ⟨nd, rfl⟩⟩; refine ⟨_, rfl, ?_⟩))
      go_ret
      exact ⟨by first | rfl | (simp [errW_none, errW_some] <;> rfl) | (simp [*, errW_none, errW_some] <;> rfl), by repeat (first | (with_reducible first | exact HB.out | apply below_alloc | apply pw_below_drewN | apply below_drew1) | exact HB.out)⟩
  · replace c4 := Bool.eq_false_iff.mpr c4
    subst c4
    have H1 : ((spec_DrawPowerRun.f k l0).bind fun bt323 => ((impl_PowerRun.f k bt323.1 bt323.2.1 bt323.2.2).bind fun bt326 => ((spec_PowerRun.f k bt323.1 bt323.2.1 bt323.2.2).bind fun bt330 => ((impl_PowerTail.f k bt323.1 bt323.2.1 bt323.2.2).bind fun bt334 => ((spec_PowerTail.f k bt323.1 bt323.2.1 bt323.2.2).bind fun bt337 => ((impl_EndsIn.f k bt323.1 bt323.2.1 bt323.2.2).bind fun bt340 => ((spec_EndsIn.f k bt323.1 bt323.2.1 bt323.2.2).bind fun bt342 => (if (bt326.2 != bt330.2) = true then (laws_FnPowerRunsEnd.j0 k l1 bt323.1 bt323.2.1 bt323.2.2 bt326.1 bt326.2 bt334.1 bt334.2.1 bt340.1 true) else ((laws_rSame.f k bt326.1 bt330.1).bind fun t344 => (if t344 = true then (if (bt334.2.2 != bt337.2.2) = true then (laws_FnPowerRunsEnd.j0 k l1 bt323.1 bt323.2.1 bt323.2.2 bt326.1 bt326.2 bt334.1 bt334.2.1 bt340.1 true) else (if bt334.1 = bt337.1 then (if bt334.2.1 = bt337.2.1 then (if (bt340.2 != bt342.2) = true then (laws_FnPowerRunsEnd.j0 k l1 bt323.1 bt323.2.1 bt323.2.2 bt326.1 bt326.2 bt334.1 bt334.2.1 bt340.1 true) else (if bt340.1 = bt342.1 then (if (bt334.2.2 != bt326.2) = true then (laws_FnPowerRunsEnd.j0 k l1 bt323.1 bt323.2.1 bt323.2.2 bt326.1 bt326.2 bt334.1 bt334.2.1 bt340.1 true) else (laws_FnPowerRunsEnd.j0 k l1 bt323.1 bt323.2.1 bt323.2.2 bt326.1 bt326.2 bt334.1 bt334.2.1 bt340.1 (bt340.2 != bt326.2))) else (laws_FnPowerRunsEnd.j0 k l1 bt323.1 bt323.2.1 bt323.2.2 bt326.1 bt326.2 bt334.1 bt334.2.1 bt340.1 true))) else (laws_FnPowerRunsEnd.j0 k l1 bt323.1 bt323.2.1 bt323.2.2 bt326.1 bt326.2 bt334.1 bt334.2.1 bt340.1 true)) else (laws_FnPowerRunsEnd.j0 k l1 bt323.1 bt323.2.1 bt323.2.2 bt326.1 bt326.2 bt334.1 bt334.2.1 bt340.1 true))) else (laws_FnPowerRunsEnd.j0 k l1 bt323.1 bt323.2.1 bt323.2.2 bt326.1 bt326.2 bt334.1 bt334.2.1 bt340.1 true))))))))))) = some r := by rw [if_neg (show ¬ (false = true) by decide)] at H; exact H
    clear H
    have H := H1
    clear H1
    replace H := Option.bind_eq_some_iff.mp H
    obtain ⟨⟨t323, t324, t325⟩, A50, H⟩ := H
    replace H : ((impl_PowerRun.f k t323 t324 t325).bind fun bt326 => ((spec_PowerRun.f k t323 t324 t325).bind fun bt330 => ((impl_PowerTail.f k t323 t324 t325).bind fun bt334 => ((spec_PowerTail.f k t323 t324 t325).bind fun bt337 => ((impl_EndsIn.f k t323 t324 t325).bind fun bt340 => ((spec_EndsIn.f k t323 t324 t325).bind fun bt342 => (if (bt326.2 != bt330.2) = true then (laws_FnPowerRunsEnd.j0 k l1 t323 t324 t325 bt326.1 bt326.2 bt334.1 bt334.2.1 bt340.1 true) else ((laws_rSame.f k bt326.1 bt330.1).bind fun t344 => (if t344 = true then (if (bt334.2.2 != bt337.2.2) = true then (laws_FnPowerRunsEnd.j0 k l1 t323 t324 t325 bt326.1 bt326.2 bt334.1 bt334.2.1 bt340.1 true) else (if bt334.1 = bt337.1 then (if bt334.2.1 = bt337.2.1 then (if (bt340.2 != bt342.2) = true then (laws_FnPowerRunsEnd.j0 k l1 t323 t324 t325 bt326.1 bt326.2 bt334.1 bt334.2.1 bt340.1 true) else (if bt340.1 = bt342.1 then (if (bt334.2.2 != bt326.2) = true then (laws_FnPowerRunsEnd.j0 k l1 t323 t324 t325 bt326.1 bt326.2 bt334.1 bt334.2.1 bt340.1 true) else (laws_FnPowerRunsEnd.j0 k l1 t323 t324 t325 bt326.1 bt326.2 bt334.1 bt334.2.1 bt340.1 (bt340.2 != bt326.2))) else (laws_FnPowerRunsEnd.j0 k l1 t323 t324 t325 bt326.1 bt326.2 bt334.1 bt334.2.1 bt340.1 true))) else (laws_FnPowerRunsEnd.j0 k l1 t323 t324 t325 bt326.1 bt326.2 bt334.1 bt334.2.1 bt340.1 true)) else (laws_FnPowerRunsEnd.j0 k l1 t323 t324 t325 bt326.1 bt326.2 bt334.1 bt334.2.1 bt340.1 true))) else (laws_FnPowerRunsEnd.j0 k l1 t323 t324 t325 bt326.1 bt326.2 bt334.1 bt334.2.1 bt340.1 true)))))))))) = some r := H
    have A5 := Aside0.mk A50
    clear A50
    replace H := Option.bind_eq_some_iff.mp H
    obtain ⟨⟨t326, t327⟩, A60, H⟩ := H
    replace H : ((spec_PowerRun.f k t323 t324 t325).bind fun bt330 => ((impl_PowerTail.f k t323 t324 t325).bind fun bt334 => ((spec_PowerTail.f k t323 t324 t325).bind fun bt337 => ((impl_EndsIn.f k t323 t324 t325).bind fun bt340 => ((spec_EndsIn.f k t323 t324 t325).bind fun bt342 => (if (t327 != bt330.2) = true then (laws_FnPowerRunsEnd.j0 k l1 t323 t324 t325 t326 t327 bt334.1 bt334.2.1 bt340.1 true) else ((laws_rSame.f k t326 bt330.1).bind fun t344 => (if t344 = true then (if (bt334.2.2 != bt337.2.2) = true then (laws_FnPowerRunsEnd.j0 k l1 t323 t324 t325 t326 t327 bt334.1 bt334.2.1 bt340.1 true) else (if bt334.1 = bt337.1 then (if bt334.2.1 = bt337.2.1 then (if (bt340.2 != bt342.2) = true then (laws_FnPowerRunsEnd.j0 k l1 t323 t324 t325 t326 t327 bt334.1 bt334.2.1 bt340.1 true) else (if bt340.1 = bt342.1 then (if (bt334.2.2 != t327) = true then (laws_FnPowerRunsEnd.j0 k l1 t323 t324 t325 t326 t327 bt334.1 bt334.2.1 bt340.1 true) else (laws_FnPowerRunsEnd.j0 k l1 t323 t324 t325 t326 t327 bt334.1 bt334.2.1 bt340.1 (bt340.2 != t327))) else (laws_FnPowerRunsEnd.j0 k l1 t323 t324 t325 t326 t327 bt334.1 bt334.2.1 bt340.1 true))) else (laws_FnPowerRunsEnd.j0 k l1 t323 t324 t325 t326 t327 bt334.1 bt334.2.1 bt340.1 true)) else (laws_FnPowerRunsEnd.j0 k l1 t323 t324 t325 t326 t327 bt334.1 bt334.2.1 bt340.1 true))) else (laws_FnPowerRunsEnd.j0 k l1 t323 t324 t325 t326 t327 bt334.1 bt334.2.1 bt340.1 true))))))))) = some r := H
    have A6 := Aside0.mk A60
    clear A60
    replace H := Option.bind_eq_some_iff.mp H
    obtain ⟨⟨t330, t331⟩, A70, H⟩ := H
    replace H : ((impl_PowerTail.f k t323 t324 t325).bind fun bt334 => ((spec_PowerTail.f k t323 t324 t325).bind fun bt337 => ((impl_EndsIn.f k t323 t324 t325).bind fun bt340 => ((spec_EndsIn.f k t323 t324 t325).bind fun bt342 => (if (t327 != t331) = true then (laws_FnPowerRunsEnd.j0 k l1 t323 t324 t325 t326 t327 bt334.1 bt334.2.1 bt340.1 true) else ((laws_rSame.f k t326 t330).bind fun t344 => (if t344 = true then (if (bt334.2.2 != bt337.2.2) = true then (laws_FnPowerRunsEnd.j0 k l1 t323 t324 t325 t326 t327 bt334.1 bt334.2.1 bt340.1 true) else (if bt334.1 = bt337.1 then (if bt334.2.1 = bt337.2.1 then (if (bt340.2 != bt342.2) = true then (laws_FnPowerRunsEnd.j0 k l1 t323 t324 t325 t326 t327 bt334.1 bt334.2.1 bt340.1 true) else (if bt340.1 = bt342.1 then (if (bt334.2.2 != t327) = true then (laws_FnPowerRunsEnd.j0 k l1 t323 t324 t325 t326 t327 bt334.1 bt334.2.1 bt340.1 true) else (laws_FnPowerRunsEnd.j0 k l1 t323 t324 t325 t326 t327 bt334.1 bt334.2.1 bt340.1 (bt340.2 != t327))) else (laws_FnPowerRunsEnd.j0 k l1 t323 t324 t325 t326 t327 bt334.1 bt334.2.1 bt340.1 true))) else (laws_FnPowerRunsEnd.j0 k l1 t323 t324 t325 t326 t327 bt334.1 bt334.2.1 bt340.1 true)) else (laws_FnPowerRunsEnd.j0 k l1 t323 t324 t325 t326 t327 bt334.1 bt334.2.1 bt340.1 true))) else (laws_FnPowerRunsEnd.j0 k l1 t323 t324 t325 t326 t327 bt334.1 bt334.2.1 bt340.1 true)))))))) = some r := H
    have A7 := Aside0.mk A70
    clear A70
    replace H := Option.bind_eq_some_iff.mp H
    obtain ⟨⟨t334, t335, t336⟩, A80, H⟩ := H
    replace H : ((spec_PowerTail.f k t323 t324 t325).bind fun bt337 => ((impl_EndsIn.f k t323 t324 t325).bind fun bt340 => ((spec_EndsIn.f k t323 t324 t325).bind fun bt342 => (if (t327 != t331) = true then (laws_FnPowerRunsEnd.j0 k l1 t323 t324 t325 t326 t327 t334 t335 bt340.1 true) else ((laws_rSame.f k t326 t330).bind fun t344 => (if t344 = true then (if (t336 != bt337.2.2) = true then (laws_FnPowerRunsEnd.j0 k l1 t323 t324 t325 t326 t327 t334 t335 bt340.1 true) else (if t334 = bt337.1 then (if t335 = bt337.2.1 then (if (bt340.2 != bt342.2) = true then (laws_FnPowerRunsEnd.j0 k l1 t323 t324 t325 t326 t327 t334 t335 bt340.1 true) else (if bt340.1 = bt342.1 then (if (t336 != t327) = true then (laws_FnPowerRunsEnd.j0 k l1 t323 t324 t325 t326 t327 t334 t335 bt340.1 true) else (laws_FnPowerRunsEnd.j0 k l1 t323 t324 t325 t326 t327 t334 t335 bt340.1 (bt340.2 != t327))) else (laws_FnPowerRunsEnd.j0 k l1 t323 t324 t325 t326 t327 t334 t335 bt340.1 true))) else (laws_FnPowerRunsEnd.j0 k l1 t323 t324 t325 t326 t327 t334 t335 bt340.1 true)) else (laws_FnPowerRunsEnd.j0 k l1 t323 t324 t325 t326 t327 t334 t335 bt340.1 true))) else (laws_FnPowerRunsEnd.j0 k l1 t323 t324 t325 t326 t327 t334 t335 bt340.1 true))))))) = some r := H
    have A8 := Aside0.mk A80
    clear A80
    replace H := Option.bind_eq_some_iff.mp H
    obtain ⟨⟨t337, t338, t339⟩, A90, H⟩ := H
    replace H : ((impl_EndsIn.f k t323 t324 t325).bind fun bt340 => ((spec_EndsIn.f k t323 t324 t325).bind fun bt342 => (if (t327 != t331) = true then (laws_FnPowerRunsEnd.j0 k l1 t323 t324 t325 t326 t327 t334 t335 bt340.1 true) else ((laws_rSame.f k t326 t330).bind fun t344 => (if t344 = true then (if (t336 != t339) = true then (laws_FnPowerRunsEnd.j0 k l1 t323 t324 t325 t326 t327 t334 t335 bt340.1 true) else (if t334 = t337 then (if t335 = t338 then (if (bt340.2 != bt342.2) = true then (laws_FnPowerRunsEnd.j0 k l1 t323 t324 t325 t326 t327 t334 t335 bt340.1 true) else (if bt340.1 = bt342.1 then (if (t336 != t327) = true then (laws_FnPowerRunsEnd.j0 k l1 t323 t324 t325 t326 t327 t334 t335 bt340.1 true) else (laws_FnPowerRunsEnd.j0 k l1 t323 t324 t325 t326 t327 t334 t335 bt340.1 (bt340.2 != t327))) else (laws_FnPowerRunsEnd.j0 k l1 t323 t324 t325 t326 t327 t334 t335 bt340.1 true))) else (laws_FnPowerRunsEnd.j0 k l1 t323 t324 t325 t326 t327 t334 t335 bt340.1 true)) else (laws_FnPowerRunsEnd.j0 k l1 t323 t324 t325 t326 t327 t334 t335 bt340.1 true))) else (laws_FnPowerRunsEnd.j0 k l1 t323 t324 t325 t326 t327 t334 t335 bt340.1 true)))))) = some r := H
    have A9 := Aside0.mk A90
    clear A90
    replace H := Option.bind_eq_some_iff.mp H
    obtain ⟨⟨t340, t341⟩, A100, H⟩ := H
    replace H : ((spec_EndsIn.f k t323 t324 t325).bind fun bt342 => (if (t327 != t331) = true then (laws_FnPowerRunsEnd.j0 k l1 t323 t324 t325 t326 t327 t334 t335 t340 true) else ((laws_rSame.f k t326 t330).bind fun t344 => (if t344 = true then (if (t336 != t339) = true then (laws_FnPowerRunsEnd.j0 k l1 t323 t324 t325 t326 t327 t334 t335 t340 true) else (if t334 = t337 then (if t335 = t338 then (if (t341 != bt342.2) = true then (laws_FnPowerRunsEnd.j0 k l1 t323 t324 t325 t326 t327 t334 t335 t340 true) else (if t340 = bt342.1 then (if (t336 != t327) = true then (laws_FnPowerRunsEnd.j0 k l1 t323 t324 t325 t326 t327 t334 t335 t340 true) else (laws_FnPowerRunsEnd.j0 k l1 t323 t324 t325 t326 t327 t334 t335 t340 (t341 != t327))) else (laws_FnPowerRunsEnd.j0 k l1 t323 t324 t325 t326 t327 t334 t335 t340 true))) else (laws_FnPowerRunsEnd.j0 k l1 t323 t324 t325 t326 t327 t334 t335 t340 true)) else (laws_FnPowerRunsEnd.j0 k l1 t323 t324 t325 t326 t327 t334 t335 t340 true))) else (laws_FnPowerRunsEnd.j0 k l1 t323 t324 t325 t326 t327 t334 t335 t340 true))))) = some r := H
    have A10 := Aside0.mk A100
    clear A100
    replace H := Option.bind_eq_some_iff.mp H
    obtain ⟨⟨t342, t343⟩, A110, H⟩ := H
    replace H : (if (t327 != t331) = true then (laws_FnPowerRunsEnd.j0 k l1 t323 t324 t325 t326 t327 t334 t335 t340 true) else ((laws_rSame.f k t326 t330).bind fun t344 => (if t344 = true then (if (t336 != t339) = true then (laws_FnPowerRunsEnd.j0 k l1 t323 t324 t325 t326 t327 t334 t335 t340 true) else (if t334 = t337 then (if t335 = t338 then (if (t341 != t343) = true then (laws_FnPowerRunsEnd.j0 k l1 t323 t324 t325 t326 t327 t334 t335 t340 true) else (if t340 = t342 then (if (t336 != t327) = true then (laws_FnPowerRunsEnd.j0 k l1 t323 t324 t325 t326 t327 t334 t335 t340 true) else (laws_FnPowerRunsEnd.j0 k l1 t323 t324 t325 t326 t327 t334 t335 t340 (t341 != t327))) else (laws_FnPowerRunsEnd.j0 k l1 t323 t324 t325 t326 t327 t334 t335 t340 true))) else (laws_FnPowerRunsEnd.j0 k l1 t323 t324 t325 t326 t327 t334 t335 t340 true)) else (laws_FnPowerRunsEnd.j0 k l1 t323 t324 t325 t326 t327 t334 t335 t340 true))) else (laws_FnPowerRunsEnd.j0 k l1 t323 t324 t325 t326 t327 t334 t335 t340 true)))) = some r := H
    have A11 := Aside0.mk A110
    clear A110
    have HC12 := Aside0.mk H
    clear H
    go_enter Try.func10, Try.ntmps10
    go_upto_region 10 with (first | ((with_reducible refine gate_callee (f := 15) rfl ?_); refine goesL_ (some 60) rfl rfl Try.func15 (by kernel_rfl) rfl #[.slice A0 l0.length c0, .slice A1 l1.length c1] rfl (by (try simp only [List.map_toArray, List.map_cons, List.map_nil]); first | done | rfl | (simp only [List.length_drop, List.length_take]; rfl)) ?_; (with_reducible refine (laws_big.calls _ _ l0 _ _ l1 false _ ?side1 ?side2 ?side3 ?side4 A3.out).mono ?_); (case side1 => repeat (first | exact HR0.out | (with_reducible refine Kd.C_alloc ?_ _) | (with_reducible refine Kd.C_drewN ?_ _) | (with_reducible refine Kd.C_drew ?_))); (case side2 => exact HC0.out); (case side3 => repeat (first | exact HR1.out | (with_reducible refine Kd.C_alloc ?_ _) | (with_reducible refine Kd.C_drewN ?_ _) | (with_reducible refine Kd.C_drew ?_))); (case side4 => exact HC1.out); rintro e w' ⟨rfl, ⟨nd, rfl⟩⟩; refine ⟨_, rfl, ?_⟩) | ((with_reducible refine gate_callee (f := 113) rfl ?_); refine goesL_ (some 63) rfl rfl Try.func113 (by kernel_rfl) rfl #[.slice A0 l0.length c0] rfl (by (try simp only [List.map_toArray, List.map_cons, List.map_nil]); first | done | rfl | (simp only [List.length_drop, List.length_take]; rfl)) ?_; (with_reducible refine (spec_DrawPowerRun.calls k _ _ l0 t323 t324 t325 _ ?side1 ?side2 A5.out).mono ?_); (case side1 => repeat (first | exact HR0.out | (with_reducible refine Kd.C_alloc ?_ _) | (with_reducible refine Kd.C_drewN ?_ _) | (with_reducible refine Kd.C_drew ?_))); (case side2 => exact HC0.out); rintro e w13 ⟨rfl, hb⟩; refine ⟨_, rfl, ?_⟩; have n0_ := Aside0.mk (below_step (by repeat (first | (with_reducible first | exact HB.out | apply below_alloc | apply pw_below_drewN | apply below_drew1) | exact HB.out)) hb); clear HB; have HB := n0_; clear n0_; (try clear hb); (try clear hb2); (try clear hk); (try clear hi)) | ((with_reducible refine gate_callee (f := 114) rfl ?_); refine goesL_ (some 71) rfl rfl Try.func114 (by kernel_rfl) rfl #[.int .i64 t323, .int .i64 t324, .int .i64 t325] rfl (by (try simp only [List.map_toArray, List.map_cons, List.map_nil]); first | done | rfl | (simp only [List.length_drop, List.length_take]; rfl)) ?_; (with_reducible refine (impl_PowerRun.calls k t323 t324 t325 t326 t327 _ A6.out).mono ?_); rintro e w14 ⟨v328, rfl, ho0, hb⟩; refine ⟨_, rfl, ?_⟩; have n0_ := Aside0.mk (Kd.R_lower ho0 (below_size (by repeat (first | (with_reducible first | exact HB.out | apply below_alloc | apply pw_below_drewN | apply below_drew1) | exact HB.out)))); have n1_ := Aside0.mk (below_step (by repeat (first | (with_reducible first | exact HB.out | apply below_alloc | apply pw_below_drewN | apply below_drew1) | exact HB.out)) hb); clear HB; have HO329 := n0_; have HB := n1_; clear n0_ n1_; (try clear hb); (try clear hb2); (try clear hk); (try clear hi); (try clear ho0)) | ((with_reducible refine gate_callee (f := 115) rfl ?_); refine goesL_ (some 78) rfl rfl Try.func115 (by kernel_rfl) rfl #[.int .i64 t323, .int .i64 t324, .int .i64 t325] rfl (by (try simp only [List.map_toArray, List.map_cons, List.map_nil]); first | done | rfl | (simp only [List.length_drop, List.length_take]; rfl)) ?_; (with_reducible refine (spec_PowerRun.calls k t323 t324 t325 t330 t331 _ A7.out).mono ?_); rintro e w15 ⟨v332, rfl, ho0, hb⟩; refine ⟨_, rfl, ?_⟩; have n0_ := Aside0.mk (Kd.R_elder' (by (with_reducible repeat (first | apply Kd.R_alloc | apply Kd.R_drewN | apply Kd.R_drew)); exact HO329.out) (Kd.R_base ho0) hb); have n1_ := Aside0.mk (Kd.R_lower (Kd.R_new' ho0 (Kd.R_lt (by (with_reducible repeat (first | apply Kd.R_alloc | apply Kd.R_drewN | apply Kd.R_drew)); exact HO329.out))) (below_size (by repeat (first | (with_reducible first | exact HB.out | apply below_alloc | apply pw_below_drewN | apply below_drew1) | exact HB.out)))); have n2_ := Aside0.mk (below_step (by repeat (first | (with_reducible first | exact HB.out | apply below_alloc | apply pw_below_drewN | apply below_drew1) | exact HB.out)) hb); clear HO329; clear HB; have HO329 := n0_; have HO333 := n1_; have HB := n2_; clear n0_ n1_ n2_; (try clear hb); (try clear hb2); (try clear hk); (try clear hi); (try clear ho0)) | ((with_reducible refine gate_callee (f := 116) rfl ?_); refine goesL_ (some 85) rfl rfl Try.func116 (by kernel_rfl) rfl #[.int .i64 t323, .int .i64 t324, .int .i64 t325] rfl (by (try simp only [List.map_toArray, List.map_cons, List.map_nil]); first | done | rfl | (simp only [List.length_drop, List.length_take]; rfl)) ?_; (with_reducible refine (impl_PowerTail.calls k t323 t324 t325 t334 t335 t336 _ A8.out).mono ?_); rintro e w16 ⟨rfl, hb⟩; refine ⟨_, rfl, ?_⟩; have n0_ := Aside0.mk (Kd.R_below (by (with_reducible repeat (first | apply Kd.R_alloc | apply Kd.R_drewN | apply Kd.R_drew)); exact HO329.out) hb); have n1_ := Aside0.mk (Kd.R_below (by (with_reducible repeat (first | apply Kd.R_alloc | apply Kd.R_drewN | apply Kd.R_drew)); exact HO333.out) hb); have n2_ := Aside0.mk (below_step (by repeat (first | (with_reducible first | exact HB.out | apply below_alloc | apply pw_below_drewN | apply below_drew1) | exact HB.out)) hb); clear HO329; clear HO333; clear HB; have HO329 := n0_; have HO333 := n1_; have HB := n2_; clear n0_ n1_ n2_; (try clear hb); (try clear hb2); (try clear hk); (try clear hi)) | ((with_reducible refine gate_callee (f := 117) rfl ?_); refine goesL_ (some 93) rfl rfl Try.func117 (by kernel_rfl) rfl #[.int .i64 t323, .int .i64 t324, .int .i64 t325] rfl (by (try simp only [List.map_toArray, List.map_cons, List.map_nil]); first | done | rfl | (simp only [List.length_drop, List.length_take]; rfl)) ?_; (with_reducible refine (spec_PowerTail.calls k t323 t324 t325 t337 t338 t339 _ A9.out).mono ?_); rintro e w17 ⟨rfl, hb⟩; refine ⟨_, rfl, ?_⟩; have n0_ := Aside0.mk (Kd.R_below (by (with_reducible repeat (first | apply Kd.R_alloc | apply Kd.R_drewN | apply Kd.R_drew)); exact HO329.out) hb); have n1_ := Aside0.mk (Kd.R_below (by (with_reducible repeat (first | apply Kd.R_alloc | apply Kd.R_drewN | apply Kd.R_drew)); exact HO333.out) hb); have n2_ := Aside0.mk (below_step (by repeat (first | (with_reducible first | exact HB.out | apply below_alloc | apply pw_below_drewN | apply below_drew1) | exact HB.out)) hb); clear HO329; clear HO333; clear HB; have HO329 := n0_; have HO333 := n1_; have HB := n2_; clear n0_ n1_ n2_; (try clear hb); (try clear hb2); (try clear hk); (try clear hi)) | ((with_reducible refine gate_callee (f := 118) rfl ?_); refine goesL_ (some 101) rfl rfl Try.func118 (by kernel_rfl) rfl #[.int .i64 t323, .int .i64 t324, .int .i64 t325] rfl (by (try simp only [List.map_toArray, List.map_cons, List.map_nil]); first | done | rfl | (simp only [List.length_drop, List.length_take]; rfl)) ?_; (with_reducible refine (impl_EndsIn.calls k t323 t324 t325 t340 t341 _ A10.out).mono ?_); rintro e w18 ⟨rfl, hb⟩; refine ⟨_, rfl, ?_⟩; have n0_ := Aside0.mk (Kd.R_below (by (with_reducible repeat (first | apply Kd.R_alloc | apply Kd.R_drewN | apply Kd.R_drew)); exact HO329.out) hb); have n1_ := Aside0.mk (Kd.R_below (by (with_reducible repeat (first | apply Kd.R_alloc | apply Kd.R_drewN | apply Kd.R_drew)); exact HO333.out) hb); have n2_ := Aside0.mk (below_step (by repeat (first | (with_reducible first | exact HB.out | apply below_alloc | apply pw_below_drewN | apply below_drew1) | exact HB.out)) hb); clear HO329; clear HO333; clear HB; have HO329 := n0_; have HO333 := n1_; have HB := n2_; clear n0_ n1_ n2_; (try clear hb); (try clear hb2); (try clear hk); (try clear hi)) | ((with_reducible refine gate_callee (f := 119) rfl ?_); refine goesL_ (some 108) rfl rfl Try.func119 (by kernel_rfl) rfl #[.int .i64 t323, .int .i64 t324, .int .i64 t325] rfl (by (try simp only [List.map_toArray, List.map_cons, List.map_nil]); first | done | rfl | (simp only [List.length_drop, List.length_take]; rfl)) ?_; (with_reducible refine (spec_EndsIn.calls k t323 t324 t325 t342 t343 _ A11.out).mono ?_); rintro e w19 ⟨rfl, hb⟩; refine ⟨_, rfl, ?_⟩; have n0_ := Aside0.mk (Kd.R_below (by (with_reducible repeat (first | apply Kd.R_alloc | apply Kd.R_drewN | apply Kd.R_drew)); exact HO329.out) hb); have n1_ := Aside0.mk (Kd.R_below (by (with_reducible repeat (first | apply Kd.R_alloc | apply Kd.R_drewN | apply Kd.R_drew)); exact HO333.out) hb); have n2_ := Aside0.mk (below_step (by repeat (first | (with_reducible first | exact HB.out | apply below_alloc | apply pw_below_drewN | apply below_drew1) | exact HB.out)) hb); clear HO329; clear HO333; clear HB; have HO329 := n0_; have HO333 := n1_; have HB := n2_; clear n0_ n1_ n2_; (try clear hb); (try clear hb2); (try clear hk); (try clear hi)))
    (try simp only [Act.put, List.setIfInBounds_toArray, List.set_cons_zero, List.set_cons_succ])
    go_cut [154] (fun v154 wc => ∃ (kq : Nat) (x154_11 : Bool), v154 = .bool x154_11 ∧ Aside0 (laws_FnPowerRunsEnd.j0 kq l1 t323 t324 t325 t326 t327 t334 t335 t340 x154_11 = some r) ∧ Aside0 (kq ≤ k) ∧ Aside0 (Kd.R (Kd.int .i64) 3 wc w.heap.size (fun _ => True) v328 t326) ∧ Aside0 (Below w.heap.size w wc))
    case first =>
      as_aux_lemma =>
      have H := HC12.out
      clear HC12
      by_cases c20 : (t327 != t331) = true
      · rw [if_pos c20] at H
        have c20b0 : (t327 != t331) = true := c20
        (try (have c20b1 : decide (t327 = t331) = false := by simpa using c20))
        (try (have c20b2 : (t327 == t331) = false := by simpa using c20))
        (try (have c20b3 : ¬ (t327 = t331) := by simpa using c20))
        clear c20
        (first | rw [c20b0] | (simp only [i64_w, i32_w]; rw [c20b0]) | skip)
        exact (laws_FnPowerRunsEnd.j0_no HR_.out _ _ _ _ _ _ _ _ _ _ H).elim
      · rw [if_neg c20] at H
        have c20b0 : (t327 != t331) = false := by simpa using c20
        (try (have c20b1 : decide (t327 = t331) = true := by simpa using c20))
        (try (have c20b2 : (t327 == t331) = true := by simpa using c20))
        clear c20
        (first | rw [c20b0] | (simp only [i64_w, i32_w]; rw [c20b0]) | skip)
        replace H := Option.bind_eq_some_iff.mp H
        obtain ⟨t344, A210, H⟩ := H
        replace H : (if t344 = true then (if (t336 != t339) = true then (laws_FnPowerRunsEnd.j0 k l1 t323 t324 t325 t326 t327 t334 t335 t340 true) else (if t334 = t337 then (if t335 = t338 then (if (t341 != t343) = true then (laws_FnPowerRunsEnd.j0 k l1 t323 t324 t325 t326 t327 t334 t335 t340 true) else (if t340 = t342 then (if (t336 != t327) = true then (laws_FnPowerRunsEnd.j0 k l1 t323 t324 t325 t326 t327 t334 t335 t340 true) else (laws_FnPowerRunsEnd.j0 k l1 t323 t324 t325 t326 t327 t334 t335 t340 (t341 != t327))) else (laws_FnPowerRunsEnd.j0 k l1 t323 t324 t325 t326 t327 t334 t335 t340 true))) else (laws_FnPowerRunsEnd.j0 k l1 t323 t324 t325 t326 t327 t334 t335 t340 true)) else (laws_FnPowerRunsEnd.j0 k l1 t323 t324 t325 t326 t327 t334 t335 t340 true))) else (laws_FnPowerRunsEnd.j0 k l1 t323 t324 t325 t326 t327 t334 t335 t340 true)) = some r := H
        have A21 := Aside0.mk A210
        clear A210
        by_cases c22 : t344 = true
        · subst c22
          have H1 : (if (t336 != t339) = true then (laws_FnPowerRunsEnd.j0 k l1 t323 t324 t325 t326 t327 t334 t335 t340 true) else (if t334 = t337 then (if t335 = t338 then (if (t341 != t343) = true then (laws_FnPowerRunsEnd.j0 k l1 t323 t324 t325 t326 t327 t334 t335 t340 true) else (if t340 = t342 then (if (t336 != t327) = true then (laws_FnPowerRunsEnd.j0 k l1 t323 t324 t325 t326 t327 t334 t335 t340 true) else (laws_FnPowerRunsEnd.j0 k l1 t323 t324 t325 t326 t327 t334 t335 t340 (t341 != t327))) else (laws_FnPowerRunsEnd.j0 k l1 t323 t324 t325 t326 t327 t334 t335 t340 true))) else (laws_FnPowerRunsEnd.j0 k l1 t323 t324 t325 t326 t327 t334 t335 t340 true)) else (laws_FnPowerRunsEnd.j0 k l1 t323 t324 t325 t326 t327 t334 t335 t340 true))) = some r := by rw [if_pos rfl] at H; exact H
          clear H
          have H := H1
          clear H1
          by_cases c23 : (t336 != t339) = true
          · rw [if_pos c23] at H
            have c23b0 : (t336 != t339) = true := c23
            (try (have c23b1 : decide (t336 = t339) = false := by simpa using c23))
            (try (have c23b2 : (t336 == t339) = false := by simpa using c23))
            (try (have c23b3 : ¬ (t336 = t339) := by simpa using c23))
            clear c23
            exact (laws_FnPowerRunsEnd.j0_no HR_.out _ _ _ _ _ _ _ _ _ _ H).elim
          · rw [if_neg c23] at H
            have c23b0 : (t336 != t339) = false := by simpa using c23
            (try (have c23b1 : decide (t336 = t339) = true := by simpa using c23))
            (try (have c23b2 : (t336 == t339) = true := by simpa using c23))
            clear c23
            by_cases c24 : t334 = t337
            · rw [if_pos c24] at H
              have c24b0 : (t334 == t337) = true := beq_iff_eq.mpr c24
              have c24b1 : (t334 != t337) = false := bne_eq_false_iff_eq.mpr c24
              clear c24
              by_cases c25 : t335 = t338
              · rw [if_pos c25] at H
                have c25b0 : (t335 == t338) = true := beq_iff_eq.mpr c25
                have c25b1 : (t335 != t338) = false := bne_eq_false_iff_eq.mpr c25
                clear c25
                by_cases c26 : (t341 != t343) = true
                · rw [if_pos c26] at H
                  have c26b0 : (t341 != t343) = true := c26
                  (try (have c26b1 : decide (t341 = t343) = false := by simpa using c26))
                  (try (have c26b2 : (t341 == t343) = false := by simpa using c26))
                  (try (have c26b3 : ¬ (t341 = t343) := by simpa using c26))
                  clear c26
                  exact (laws_FnPowerRunsEnd.j0_no HR_.out _ _ _ _ _ _ _ _ _ _ H).elim
                · rw [if_neg c26] at H
                  have c26b0 : (t341 != t343) = false := by simpa using c26
                  (try (have c26b1 : decide (t341 = t343) = true := by simpa using c26))
                  (try (have c26b2 : (t341 == t343) = true := by simpa using c26))
                  clear c26
                  by_cases c27 : t340 = t342
                  · rw [if_pos c27] at H
                    have c27b0 : (t340 == t342) = true := beq_iff_eq.mpr c27
                    have c27b1 : (t340 != t342) = false := bne_eq_false_iff_eq.mpr c27
                    clear c27
                    by_cases c28 : (t336 != t327) = true
                    · rw [if_pos c28] at H
                      have c28b0 : (t336 != t327) = true := c28
                      (try (have c28b1 : decide (t336 = t327) = false := by simpa using c28))
                      (try (have c28b2 : (t336 == t327) = false := by simpa using c28))
                      (try (have c28b3 : ¬ (t336 = t327) := by simpa using c28))
                      clear c28
                      exact (laws_FnPowerRunsEnd.j0_no HR_.out _ _ _ _ _ _ _ _ _ _ H).elim
                    · rw [if_neg c28] at H
                      have c28b0 : (t336 != t327) = false := by simpa using c28
                      (try (have c28b1 : decide (t336 = t327) = true := by simpa using c28))
                      (try (have c28b2 : (t336 == t327) = true := by simpa using c28))
                      clear c28
                      as_aux_lemma =>
                        have H' := Aside0.mk H
                        clear H
                        obtain ⟨Ao29, co29, eo29⟩ := Kd.R_slice HO329.out
                        subst eo29
                        obtain ⟨Ao30, co30, eo30⟩ := Kd.R_slice HO333.out
                        subst eo30
                        go_wp2_with (first | (go_at_call 83; (with_reducible refine (laws_rSame.calls k _ _ t326 _ _ t330 true _ ?side1 ?side2 ?side3 ?side4 A21.out).mono ?_); (case side1 => repeat (first | exact (Kd.R_reads' HO329.out).2.2 | (with_reducible refine Kd.C_alloc ?_ _) | (with_reducible refine Kd.C_drewN ?_ _) | (with_reducible refine Kd.C_drew ?_))); (case side2 => exact (Kd.R_reads' HO329.out).2.1); (case side3 => repeat (first | exact (Kd.R_reads' HO333.out).2.2 | (with_reducible refine Kd.C_alloc ?_ _) | (with_reducible refine Kd.C_drewN ?_ _) | (with_reducible refine Kd.C_drew ?_))); (case side4 => exact (Kd.R_reads' HO333.out).2.1); rintro e w' ⟨rfl, ⟨nd, rfl⟩⟩))
                        go_meet
                        case rel => exact ⟨_, ((t341 != t327)), (by first | rfl | (simp; done) | (simp [*]; done)), H', ⟨by first | omega | exact Nat.le_refl _⟩, ⟨by (with_reducible repeat (first | apply Kd.R_alloc | apply Kd.R_drewN | apply Kd.R_drew)); exact Kd.R_mono HO329.out (fun _ hk => trivial)⟩, ⟨by repeat (first | (with_reducible first | exact HB.out | apply below_alloc | apply pw_below_drewN | apply below_drew1) | exact HB.out)⟩⟩
                  · rw [if_neg c27] at H
                    have c27b0 : (t340 == t342) = false := beq_eq_false_iff_ne.mpr c27
                    have c27b1 : (t340 != t342) = true := bne_iff_ne.mpr c27
                    exact (laws_FnPowerRunsEnd.j0_no HR_.out _ _ _ _ _ _ _ _ _ _ H).elim
              · rw [if_neg c25] at H
                have c25b0 : (t335 == t338) = false := beq_eq_false_iff_ne.mpr c25
                have c25b1 : (t335 != t338) = true := bne_iff_ne.mpr c25
                exact (laws_FnPowerRunsEnd.j0_no HR_.out _ _ _ _ _ _ _ _ _ _ H).elim
            · rw [if_neg c24] at H
              have c24b0 : (t334 == t337) = false := beq_eq_false_iff_ne.mpr c24
              have c24b1 : (t334 != t337) = true := bne_iff_ne.mpr c24
              exact (laws_FnPowerRunsEnd.j0_no HR_.out _ _ _ _ _ _ _ _ _ _ H).elim
        · replace c22 := Bool.eq_false_iff.mpr c22
          subst c22
          have H1 : (laws_FnPowerRunsEnd.j0 k l1 t323 t324 t325 t326 t327 t334 t335 t340 true) = some r := by rw [if_neg (show ¬ (false = true) by decide)] at H; exact H
          clear H
          have H := H1
          clear H1
          exact (laws_FnPowerRunsEnd.j0_no HR_.out _ _ _ _ _ _ _ _ _ _ H).elim
    case rest =>
      as_aux_lemma =>
      clear HC12
      try clear c1
      try clear c2
      try clear p2
      try clear c4
      try clear c10
      try clear c11
      try clear c15
      try clear c20
      try clear c20b0
      try clear c20b1
      try clear c20b2
      try clear c22
      try clear c23
      try clear c23b0
      try clear c23b1
      try clear c23b2
      try clear c24
      try clear c24b0
      try clear c24b1
      try clear c25
      try clear c25b0
      try clear c25b1
      try clear c26
      try clear c26b0
      try clear c26b1
      try clear c26b2
      try clear c27
      try clear c27b0
      try clear c27b1
      try clear c28
      try clear c28b0
      try clear c28b1
      try clear c28b2
      obtain ⟨kq, x154_11, rfl, HA, HJ11, HO_8, HB⟩ := hcut
      cases kq with
      | zero => exact absurd HA.out (by simp [laws_FnPowerRunsEnd.j0])
      | succ kj11 =>
        have H := HA.out
        clear HA
        simp only [laws_FnPowerRunsEnd.j0] at H
        by_cases c31 : x154_11 = true
        · subst c31
          have H1 : (some false) = some r := by rw [if_pos rfl] at H; exact H
          clear H
          have H := H1
          clear H1
          exact absurd (Option.some.inj H) (by rw [HR_.out]; decide)
        · replace c31 := Bool.eq_false_iff.mpr c31
          subst c31
          have H1 : (if t327 = true then (if (wrap64 (t334 + t335)) = (t326.length : Int) then (if 0 < (t326.length : Int) then (if (rd t326 0) = t323 then (if 0 ≤ t334 then (if t334 ≤ (t326.length : Int) then ((laws_rHas.f kj11 (t326.drop (t334 : Int).toNat) t340).bind fun t350 => (laws_FnPowerRunsEnd.j1 kj11 l1 t323 t324 t325 t326 t334 t340 (!t350))) else (none)) else (none)) else (laws_FnPowerRunsEnd.j1 kj11 l1 t323 t324 t325 t326 t334 t340 true)) else (none)) else (laws_FnPowerRunsEnd.j1 kj11 l1 t323 t324 t325 t326 t334 t340 true)) else (laws_FnPowerRunsEnd.j4 kj11 l1)) = some r := by rw [if_neg (show ¬ (false = true) by decide)] at H; exact H
          clear H
          have H := H1
          clear H1
          have HC32 := Aside0.mk H
          clear H
          go_upto_if 155 with (fail)
          go_cut [] (fun wc => ∃ (kq : Nat), Aside0 (laws_FnPowerRunsEnd.j4 kq l1 = some r) ∧ Aside0 (kq ≤ kj11) ∧ Aside0 (Below w.heap.size w wc))
          case first =>
            as_aux_lemma =>
            have H := HC32.out
            clear HC32
            by_cases c33 : t327 = true
            · subst c33
              have H1 : (if (wrap64 (t334 + t335)) = (t326.length : Int) then (if 0 < (t326.length : Int) then (if (rd t326 0) = t323 then (if 0 ≤ t334 then (if t334 ≤ (t326.length : Int) then ((laws_rHas.f kj11 (t326.drop (t334 : Int).toNat) t340).bind fun t350 => (laws_FnPowerRunsEnd.j1 kj11 l1 t323 t324 t325 t326 t334 t340 (!t350))) else (none)) else (none)) else (laws_FnPowerRunsEnd.j1 kj11 l1 t323 t324 t325 t326 t334 t340 true)) else (none)) else (laws_FnPowerRunsEnd.j1 kj11 l1 t323 t324 t325 t326 t334 t340 true)) = some r := by rw [if_pos rfl] at H; exact H
              clear H
              have H := H1
              clear H1
              have HC34 := Aside0.mk H
              clear H
              go_upto_region 13 with (fail)
              go_cut [176] (fun v176 wc => ∃ (kq : Nat) (x176_33 : Bool), v176 = .bool x176_33 ∧ Aside0 (laws_FnPowerRunsEnd.j1 kq l1 t323 t324 t325 t326 t334 t340 x176_33 = some r) ∧ Aside0 (kq ≤ kj11) ∧ Aside0 (Kd.R (Kd.int .i64) 3 wc w.heap.size (fun _ => True) v328 t326) ∧ Aside0 (Below w.heap.size w wc))
              case first =>
                as_aux_lemma =>
                have H := HC34.out
                clear HC34
                by_cases c35 : (wrap64 (t334 + t335)) = (t326.length : Int)
                · rw [if_pos c35] at H
                  have c35b0 : ((wrap64 (t334 + t335)) == (t326.length : Int)) = true := beq_iff_eq.mpr c35
                  have c35b1 : ((wrap64 (t334 + t335)) != (t326.length : Int)) = false := bne_eq_false_iff_eq.mpr c35
                  clear c35
                  (first | rw [c35b0] | (simp only [i64_w, i32_w]; rw [c35b0]) | skip)
                  by_cases c36 : 0 < (t326.length : Int)
                  · rw [if_pos c36] at H
                    have c36b0 : decide (0 < (t326.length : Int)) = true := decide_eq_true c36
                    have c36b1 : decide (0 < t326.length) = true := decide_eq_true (by omega)
                    clear c36
                    by_cases c37 : (rd t326 0) = t323
                    · rw [if_pos c37] at H
                      have c37b0 : ((rd t326 0) == t323) = true := beq_iff_eq.mpr c37
                      have c37b1 : ((rd t326 0) != t323) = false := bne_eq_false_iff_eq.mpr c37
                      clear c37
                      by_cases c38 : 0 ≤ t334
                      · rw [if_pos c38] at H
                        have c38b0 := eq_true c38
                        have c38b1 : decide (0 ≤ t334) = true := decide_eq_true c38
                        clear c38
                        by_cases c39 : t334 ≤ (t326.length : Int)
                        · rw [if_pos c39] at H
                          have c39b0 := eq_true c39
                          have c39b1 : decide (t334 ≤ (t326.length : Int)) = true := decide_eq_true c39
                          clear c39
                          obtain ⟨y346, hy346⟩ : ∃ y_ : List Int, y_ = (t326.drop (t334 : Int).toNat) := ⟨_, rfl⟩
                          replace H : ((laws_rHas.f kj11 y346 t340).bind fun t350 => (laws_FnPowerRunsEnd.j1 kj11 l1 t323 t324 t325 t326 t334 t340 (!t350))) = some r := by first | (rw [hy346]; with_reducible exact H) | (have H2_ := (Option.bind_some _ _).symm.trans H; rw [hy346]; with_reducible exact H2_) | (have H2_ := (Option.bind_some _ _).symm.trans H; with_reducible exact H2_) | with_reducible exact H | (rw [hy346]; exact H) | exact H
                          have Ny346 := Aside0.mk hy346
                          clear hy346
                          replace H := Option.bind_eq_some_iff.mp H
                          obtain ⟨t350, A400, H⟩ := H
                          replace H : (laws_FnPowerRunsEnd.j1 kj11 l1 t323 t324 t325 t326 t334 t340 (!t350)) = some r := H
                          have A40 := Aside0.mk A400
                          clear A400
                          as_aux_lemma =>
                            have H' := Aside0.mk H
                            clear H
                            obtain ⟨Ao41, co41, eo41⟩ := Kd.R_slice HO_8.out
                            subst eo41
                            have p345 : 0 ≤ (0 : Int) := (by omega)
                            have q345 : 0 < (t326.length : Int) := of_decide_eq_true (by first | (with_reducible assumption) | assumption)
                            obtain ⟨ad345, e345, hx345_0⟩ := Kd.at_int (Kd.R_reads' HO_8.out).2.2 0 p345 q345
                            cases e345
                            have qi345 : (0 < t326.length) = True := eq_true (by omega)
                            (try rw [show ((0 : Int)).toNat = 0 from rfl] at hx345_0)
                            (try rw [Addr.add_zero'] at hx345_0)
                            replace p345 := eq_true p345
                            replace q345 := eq_true q345
                            have q42 : (t334 : Int) ≤ ((t326.length : Int) : Int) := of_decide_eq_true (by first | (with_reducible assumption) | assumption)
                            obtain ⟨i042, hi042, _, hsz42, _⟩ := info_parts info3
                            have hroom42 : t326.length ≤ co41 := (Kd.R_reads' HO_8.out).2.1
                            have hC42 : Kd.C (Kd.int .i64) _ (some ad345) t326.length t326 := (Kd.R_reads' HO_8.out).2.2
                            have q042 : (0 : Int) ≤ (t334 : Int) := of_decide_eq_true (by first | (with_reducible assumption) | assumption)
                            have hcut42 := cut_from (P := Try.prog) 29 3 .i64 Try.underlying29 hi042 1 hsz42 (some ad345) t326.length co41 t334 q042 q42
                            have hr42 := Kd.C_drop (m := (t334 : Int).toNat) (c := co41) hC42 (by omega) hroom42
                            obtain ⟨A42, hA42⟩ : ∃ A1, A1 = (if co41 = (t334 : Int).toNat then (some ad345) else ((some ad345) : Option Addr).map (·.add ((t334 : Int).toNat * 1))) := ⟨_, rfl⟩
                            obtain ⟨c42, hc42⟩ : ∃ c1, c1 = co41 - (t334 : Int).toNat := ⟨_, rfl⟩
                            have hy42 : y346.length = t326.length - (t334 : Int).toNat := (by rw [Ny346.out, List.length_drop] <;> omega)
                            rw [show (t326).drop (t334 : Int).toNat = y346 from Ny346.out.symm] at hr42
                            replace hr42 : Kd.C (Kd.int .i64) _ A42 y346.length y346 := (by rw [hA42]; exact hr42)
                            rw [← hy42, ← hA42, ← hc42] at hcut42
                            have HR349 := Aside0.mk hr42
                            have HC349 := Aside0.mk (show y346.length ≤ c42 from by rw [hy42, hc42]; exact Nat.sub_le_sub_right hroom42 _)
                            clear hr42 hC42 hroom42 hi042 hsz42 hc42
                            have KY42 := Aside0.mk hy42
                            have KA42 := Aside0.mk hA42
                            clear hy42 hA42
                            have KL42 := Aside0.mk (show (t334 : Int).toNat ≤ t326.length from by omega)
                            replace q42 := eq_true q42
                            go_wp2_with (first | (go_at_call 120; (with_reducible refine (laws_rHas.calls kj11 _ _ y346 t340 t350 _ ?side1 ?side2 A40.out).mono ?_); (case side1 => repeat (first | exact (by repeat (first | (with_reducible exact HR349.out) | (with_reducible refine Kd.C_alloc ?_ _) | (with_reducible refine Kd.C_drewN ?_ _) | (with_reducible refine Kd.C_drew ?_) | exact HR349.out)) | (with_reducible refine Kd.C_alloc ?_ _) | (with_reducible refine Kd.C_drewN ?_ _) | (with_reducible refine Kd.C_drew ?_))); (case side2 => exact HC349.out); rintro e w' ⟨rfl, ⟨nd, rfl⟩⟩))
                            go_meet
                            case rel => exact ⟨_, (!t350), (by first | rfl | (simp; done) | (simp [*]; done)), H', ⟨by have := HJ11.out; first | omega | exact Nat.le_refl _⟩, ⟨by (with_reducible repeat (first | apply Kd.R_alloc | apply Kd.R_drewN | apply Kd.R_drew)); exact HO_8.out⟩, ⟨by repeat (first | (with_reducible first | exact HB.out | apply below_alloc | apply pw_below_drewN | apply below_drew1) | exact HB.out)⟩⟩
                        · rw [if_neg c39] at H
                          exact absurd H (by simp)
                      · rw [if_neg c38] at H
                        exact absurd H (by simp)
                    · rw [if_neg c37] at H
                      have c37b0 : ((rd t326 0) == t323) = false := beq_eq_false_iff_ne.mpr c37
                      have c37b1 : ((rd t326 0) != t323) = true := bne_iff_ne.mpr c37
                      exact (laws_FnPowerRunsEnd.j1_no HR_.out _ _ _ _ _ _ _ _ H).elim
                  · rw [if_neg c36] at H
                    exact absurd H (by simp)
                · rw [if_neg c35] at H
                  have c35b0 : ((wrap64 (t334 + t335)) == (t326.length : Int)) = false := beq_eq_false_iff_ne.mpr c35
                  have c35b1 : ((wrap64 (t334 + t335)) != (t326.length : Int)) = true := bne_iff_ne.mpr c35
                  (first | rw [c35b0] | (simp only [i64_w, i32_w]; rw [c35b0]) | skip)
                  exact (laws_FnPowerRunsEnd.j1_no HR_.out _ _ _ _ _ _ _ _ H).elim
              case rest =>
                as_aux_lemma =>
                clear HC34
                try clear c1
                try clear c2
                try clear p2
                try clear c3
                try clear p3
                try clear q3
                try clear hx3
                try clear qi3
                try clear c4
                try clear q4
                try clear p6
                try clear c10
                try clear c11
                try clear c15
                try clear c20
                try clear c20b0
                try clear c20b1
                try clear c20b2
                try clear c22
                try clear c23
                try clear c23b0
                try clear c23b1
                try clear c23b2
                try clear c24
                try clear c24b0
                try clear c24b1
                try clear c25
                try clear c25b0
                try clear c25b1
                try clear c26
                try clear c26b0
                try clear c26b1
                try clear c26b2
                try clear c27
                try clear c27b0
                try clear c27b1
                try clear c28
                try clear c28b0
                try clear c28b1
                try clear c28b2
                try clear c31
                try clear c33
                try clear p34
                try clear q34
                try clear hx34
                try clear qi34
                try clear c35
                try clear c35b0
                try clear c35b1
                try clear c36
                try clear c36b0
                try clear c36b1
                try clear c37
                try clear c37b0
                try clear c37b1
                try clear c38
                try clear c38b0
                try clear c38b1
                try clear c39
                try clear c39b0
                try clear c39b1
                try clear c42
                try clear q42
                try clear hx345_0
                try clear p2
                try clear p345
                try clear q042
                try clear q345
                try clear q42
                obtain ⟨kq, x176_33, rfl, HA, HJ33, HO_8, HB⟩ := hcut
                cases kq with
                | zero => exact absurd HA.out (by simp [laws_FnPowerRunsEnd.j1])
                | succ kj33 =>
                  have H := HA.out
                  clear HA
                  simp only [laws_FnPowerRunsEnd.j1] at H
                  by_cases c43 : x176_33 = true
                  · subst c43
                    have H1 : (some false) = some r := by rw [if_pos rfl] at H; exact H
                    clear H
                    have H := H1
                    clear H1
                    exact absurd (Option.some.inj H) (by rw [HR_.out]; decide)
                  · replace c43 := Bool.eq_false_iff.mpr c43
                    subst c43
                    have H1 : (laws_FnPowerRunsEnd.l0 kj33 l1 t323 t324 t325 t326 t334 t340 t326 (t326.length : Int) 0) = some r := by rw [if_neg (show ¬ (false = true) by decide)] at H; exact H
                    clear H
                    have H := H1
                    clear H1
                    have H' := Aside0.mk H
                    clear H
                    obtain ⟨Ao44, co44, eo44⟩ := Kd.R_slice HO_8.out
                    subst eo44
                    go_wp2
                    go_loopg [179] kj33 (fun kq v179 w' => ∃ (x179_3 : Int), v179 = .int .i64 x179_3 ∧ Aside0 (laws_FnPowerRunsEnd.l0 kq l1 t323 t324 t325 t326 t334 t340 t326 (t326.length : Int) x179_3 = some r) ∧ Aside0 (kq ≤ kj33) ∧ Aside0 (Kd.R (Kd.int .i64) 3 w' w.heap.size (fun _ => True) (.slice Ao44 t326.length co44) t326) ∧ Aside0 (Kd.R (Kd.int .i64) 3 w' w.heap.size (fun _ => True) (.slice Ao44 t326.length co44) t326) ∧ Aside0 (Below w.heap.size w w'))
                    case atStart => exact ⟨(0), (by first | rfl | (simp; done) | (simp [*]; done)), H', ⟨Nat.le_refl _⟩, ⟨by (with_reducible repeat (first | apply Kd.R_alloc | apply Kd.R_drewN | apply Kd.R_drew)); exact HO_8.out⟩, ⟨by (with_reducible repeat (first | apply Kd.R_alloc | apply Kd.R_drewN | apply Kd.R_drew)); exact HO_8.out⟩, ⟨by repeat (first | (with_reducible first | exact HB.out | apply below_alloc | apply pw_below_drewN | apply below_drew1) | exact HB.out)⟩⟩
                    case round =>
                      as_aux_lemma =>
                      clear H'
                      try clear c1
                      try clear c2
                      try clear p2
                      try clear c3
                      try clear p3
                      try clear q3
                      try clear hx3
                      try clear qi3
                      try clear c4
                      try clear q4
                      try clear p6
                      try clear c10
                      try clear c11
                      try clear c15
                      try clear c20
                      try clear c20b0
                      try clear c20b1
                      try clear c20b2
                      try clear c22
                      try clear c23
                      try clear c23b0
                      try clear c23b1
                      try clear c23b2
                      try clear c24
                      try clear c24b0
                      try clear c24b1
                      try clear c25
                      try clear c25b0
                      try clear c25b1
                      try clear c26
                      try clear c26b0
                      try clear c26b1
                      try clear c26b2
                      try clear c27
                      try clear c27b0
                      try clear c27b1
                      try clear c28
                      try clear c28b0
                      try clear c28b1
                      try clear c28b2
                      try clear c31
                      try clear c33
                      try clear p34
                      try clear q34
                      try clear hx34
                      try clear qi34
                      try clear c35
                      try clear c35b0
                      try clear c35b1
                      try clear c36
                      try clear c36b0
                      try clear c36b1
                      try clear c37
                      try clear c37b0
                      try clear c37b1
                      try clear c38
                      try clear c38b0
                      try clear c38b1
                      try clear c39
                      try clear c39b0
                      try clear c39b1
                      try clear c42
                      try clear q42
                      try clear c43
                      try clear hx345_0
                      try clear p2
                      try clear p3
                      try clear p34
                      try clear p345
                      try clear p6
                      try clear q042
                      try clear q3
                      try clear q34
                      try clear q345
                      try clear q4
                      try clear q42
                      obtain ⟨x179_3, rfl, HA, HK3, HO_8, HO_177, HB⟩ := hrel
                      cases gk with
                      | zero => exact absurd HA.out (by simp [laws_FnPowerRunsEnd.l0])
                      | succ k3 =>
                        have H := HA.out
                        clear HA
                        simp only [laws_FnPowerRunsEnd.l0] at H
                        by_cases c45 : x179_3 < (t326.length : Int)
                        · rw [if_pos c45] at H
                          have c45b0 : decide (x179_3 < (t326.length : Int)) = true := decide_eq_true c45
                          clear c45
                          by_cases c46 : 0 ≤ x179_3
                          · rw [if_pos c46] at H
                            have c46b0 : decide (0 ≤ x179_3) = true := decide_eq_true c46
                            clear c46
                            by_cases c47 : x179_3 < (t326.length : Int)
                            · rw [if_pos c47] at H
                              have c47b0 : decide (x179_3 < (t326.length : Int)) = true := decide_eq_true c47
                              clear c47
                              replace H := Option.bind_eq_some_iff.mp H
                              obtain ⟨⟨t352, t353⟩, A480, H⟩ := H
                              replace H : (if (wrap64 (x179_3 + 1)) < (t326.length : Int) then (if t353 = true then (if 0 ≤ (wrap64 (x179_3 + 1)) then (if t352 = (rd t326 (wrap64 (x179_3 + 1))) then (if x179_3 ≥ t334 then (if (rd t326 x179_3) < t340 then (some false) else (laws_FnPowerRunsEnd.l0 k3 l1 t323 t324 t325 t326 t334 t340 t326 (t326.length : Int) (wrap64 (x179_3 + 1)))) else (laws_FnPowerRunsEnd.l0 k3 l1 t323 t324 t325 t326 t334 t340 t326 (t326.length : Int) (wrap64 (x179_3 + 1)))) else (some false)) else (none)) else (some false)) else (if t353 = true then (if 0 ≤ t334 then (if t334 < (t326.length : Int) then (if t352 = (rd t326 t334) then (if x179_3 ≥ t334 then (if (rd t326 x179_3) < t340 then (some false) else (laws_FnPowerRunsEnd.l0 k3 l1 t323 t324 t325 t326 t334 t340 t326 (t326.length : Int) (wrap64 (x179_3 + 1)))) else (laws_FnPowerRunsEnd.l0 k3 l1 t323 t324 t325 t326 t334 t340 t326 (t326.length : Int) (wrap64 (x179_3 + 1)))) else (some false)) else (none)) else (none)) else (some false))) = some r := H
                              have A48 := Aside0.mk A480
                              clear A480
                              by_cases c49 : (wrap64 (x179_3 + 1)) < (t326.length : Int)
                              · rw [if_pos c49] at H
                                have c49b0 : decide ((wrap64 (x179_3 + 1)) < (t326.length : Int)) = true := decide_eq_true c49
                                clear c49
                                by_cases c50 : t353 = true
                                · subst c50
                                  have H1 : (if 0 ≤ (wrap64 (x179_3 + 1)) then (if t352 = (rd t326 (wrap64 (x179_3 + 1))) then (if x179_3 ≥ t334 then (if (rd t326 x179_3) < t340 then (some false) else (laws_FnPowerRunsEnd.l0 k3 l1 t323 t324 t325 t326 t334 t340 t326 (t326.length : Int) (wrap64 (x179_3 + 1)))) else (laws_FnPowerRunsEnd.l0 k3 l1 t323 t324 t325 t326 t334 t340 t326 (t326.length : Int) (wrap64 (x179_3 + 1)))) else (some false)) else (none)) = some r := by rw [if_pos rfl] at H; exact H
                                  clear H
                                  have H := H1
                                  clear H1
                                  obtain ⟨ji51, hji51⟩ : ∃ j_ : Int, (wrap64 (x179_3 + 1)) = j_ := ⟨_, rfl⟩
                                  replace H : (if 0 ≤ (ji51) then (if t352 = (rd t326 (ji51)) then (if x179_3 ≥ t334 then (if (rd t326 x179_3) < t340 then (some false) else (laws_FnPowerRunsEnd.l0 k3 l1 t323 t324 t325 t326 t334 t340 t326 (t326.length : Int) ji51)) else (laws_FnPowerRunsEnd.l0 k3 l1 t323 t324 t325 t326 t334 t340 t326 (t326.length : Int) ji51)) else (some false)) else (none)) = some r := by first | (rw [hji51] at H; exact H) | (simp only [hji51] at H ⊢; exact H)
                                  (try rw [hji51] at c49b0)
                                  (try rw [hji51] at A48)
                                  have hji51w : (IntKind.i64.wrap (x179_3 + 1)) = ji51 := (i64_w _).trans hji51
                                  by_cases c52 : 0 ≤ (ji51)
                                  · rw [if_pos c52] at H
                                    have c52b0 : decide (0 ≤ (ji51)) = true := decide_eq_true c52
                                    clear c52
                                    by_cases c53 : t352 = (rd t326 (ji51))
                                    · rw [if_pos c53] at H
                                      have c53b0 : (t352 == (rd t326 (ji51))) = true := beq_iff_eq.mpr c53
                                      have c53b1 : (t352 != (rd t326 (ji51))) = false := bne_eq_false_iff_eq.mpr c53
                                      clear c53
                                      by_cases c54 : x179_3 ≥ t334
                                      · rw [if_pos c54] at H
                                        have c54b0 : decide (t334 ≤ x179_3) = true := decide_eq_true c54
                                        clear c54
                                        by_cases c55 : (rd t326 x179_3) < t340
                                        · rw [if_pos c55] at H
                                          have c55b0 : decide ((rd t326 x179_3) < t340) = true := decide_eq_true c55
                                          clear c55
                                          exact absurd (Option.some.inj H) (by rw [HR_.out]; decide)
                                        · rw [if_neg c55] at H
                                          have c55b0 : decide ((rd t326 x179_3) < t340) = false := decide_eq_false c55
                                          clear c55
                                          as_aux_lemma =>
                                            have H' := Aside0.mk H
                                            clear H
                                            have p351 : 0 ≤ (x179_3 : Int) := of_decide_eq_true (by first | (with_reducible assumption) | assumption)
                                            have q351 : x179_3 < (t326.length : Int) := of_decide_eq_true (by first | (with_reducible assumption) | assumption)
                                            obtain ⟨ad351, e351, hx351_0⟩ := Kd.at_int (Kd.R_reads' HO_177.out).2.2 x179_3 p351 q351
                                            cases e351
                                            replace p351 := eq_true p351
                                            replace q351 := eq_true q351
                                            go_wp2_with (first | ((with_reducible refine gate_callee (f := 121) rfl ?_); refine goesL_ (some 188) rfl rfl Try.func121 (by kernel_rfl) rfl #[.int .i64 (rd t326 x179_3), .int .i64 t324, .int .i64 t325] rfl (by (try simp only [List.map_toArray, List.map_cons, List.map_nil]); first | done | rfl | (simp only [List.length_drop, List.length_take]; rfl)) ?_; (with_reducible refine (impl_PowerSum.calls k3 (rd t326 x179_3) t324 t325 t352 true _ A48.out).mono ?_); rintro e w56 ⟨rfl, hb⟩; refine ⟨_, rfl, ?_⟩; have n0_ := Aside0.mk (Kd.R_below (by (with_reducible repeat (first | apply Kd.R_alloc | apply Kd.R_drewN | apply Kd.R_drew)); exact HO_8.out) hb); have n1_ := Aside0.mk (Kd.R_below (by (with_reducible repeat (first | apply Kd.R_alloc | apply Kd.R_drewN | apply Kd.R_drew)); exact HO_177.out) hb); have n2_ := Aside0.mk (below_step (by repeat (first | (with_reducible first | exact HB.out | apply below_alloc | apply pw_below_drewN | apply below_drew1) | exact HB.out)) hb); clear HO_8; clear HO_177; clear HB; have HO_8 := n0_; have HO_177 := n1_; have HB := n2_; clear n0_ n1_ n2_; (try clear hb); (try clear hb2); (try clear hk); (try clear hi); have p354 : 0 ≤ ((ji51) : Int) := of_decide_eq_true (by first | (with_reducible assumption) | assumption); have q354 : (ji51) < (t326.length : Int) := of_decide_eq_true (by first | (with_reducible assumption) | assumption); obtain ⟨ad354, e354, hx354_0⟩ := Kd.at_int (Kd.R_reads' HO_8.out).2.2 (ji51) p354 q354; obtain rfl : ad351 = ad354 := (by injection e354); replace p354 := eq_true p354; replace q354 := eq_true q354))
                                            go_roundg k3
                                            case measure => have := HJ11.out; have := HJ33.out; have := HK3.out; omega
                                            case rel => exact ⟨(ji51), (by first | rfl | (simp; done) | (simp only [← hji51] <;> (first | rfl | simp)) | (simp [*]; done)), H', ⟨by have := HJ11.out; have := HJ33.out; have := HK3.out; omega⟩, ⟨by (with_reducible repeat (first | apply Kd.R_alloc | apply Kd.R_drewN | apply Kd.R_drew)); exact HO_8.out⟩, ⟨by (with_reducible repeat (first | apply Kd.R_alloc | apply Kd.R_drewN | apply Kd.R_drew)); exact HO_177.out⟩, ⟨by repeat (first | (with_reducible first | exact HB.out | apply below_alloc | apply pw_below_drewN | apply below_drew1) | exact HB.out)⟩⟩
                                      · rw [if_neg c54] at H
                                        have c54b0 : decide (t334 ≤ x179_3) = false := decide_eq_false c54
                                        clear c54
                                        as_aux_lemma =>
                                          have H' := Aside0.mk H
                                          clear H
                                          have p351 : 0 ≤ (x179_3 : Int) := of_decide_eq_true (by first | (with_reducible assumption) | assumption)
                                          have q351 : x179_3 < (t326.length : Int) := of_decide_eq_true (by first | (with_reducible assumption) | assumption)
                                          obtain ⟨ad351, e351, hx351_0⟩ := Kd.at_int (Kd.R_reads' HO_177.out).2.2 x179_3 p351 q351
                                          cases e351
                                          replace p351 := eq_true p351
                                          replace q351 := eq_true q351
                                          go_wp2_with (first | ((with_reducible refine gate_callee (f := 121) rfl ?_); refine goesL_ (some 188) rfl rfl Try.func121 (by kernel_rfl) rfl #[.int .i64 (rd t326 x179_3), .int .i64 t324, .int .i64 t325] rfl (by (try simp only [List.map_toArray, List.map_cons, List.map_nil]); first | done | rfl | (simp only [List.length_drop, List.length_take]; rfl)) ?_; (with_reducible refine (impl_PowerSum.calls k3 (rd t326 x179_3) t324 t325 t352 true _ A48.out).mono ?_); rintro e w57 ⟨rfl, hb⟩; refine ⟨_, rfl, ?_⟩; have n0_ := Aside0.mk (Kd.R_below (by (with_reducible repeat (first | apply Kd.R_alloc | apply Kd.R_drewN | apply Kd.R_drew)); exact HO_8.out) hb); have n1_ := Aside0.mk (Kd.R_below (by (with_reducible repeat (first | apply Kd.R_alloc | apply Kd.R_drewN | apply Kd.R_drew)); exact HO_177.out) hb); have n2_ := Aside0.mk (below_step (by repeat (first | (with_reducible first | exact HB.out | apply below_alloc | apply pw_below_drewN | apply below_drew1) | exact HB.out)) hb); clear HO_8; clear HO_177; clear HB; have HO_8 := n0_; have HO_177 := n1_; have HB := n2_; clear n0_ n1_ n2_; (try clear hb); (try clear hb2); (try clear hk); (try clear hi); have p354 : 0 ≤ ((ji51) : Int) := of_decide_eq_true (by first | (with_reducible assumption) | assumption); have q354 : (ji51) < (t326.length : Int) := of_decide_eq_true (by first | (with_reducible assumption) | assumption); obtain ⟨ad354, e354, hx354_0⟩ := Kd.at_int (Kd.R_reads' HO_8.out).2.2 (ji51) p354 q354; obtain rfl : ad351 = ad354 := (by injection e354); replace p354 := eq_true p354; replace q354 := eq_true q354))
                                          go_roundg k3
                                          case measure => have := HJ11.out; have := HJ33.out; have := HK3.out; omega
                                          case rel => exact ⟨(ji51), (by first | rfl | (simp; done) | (simp only [← hji51] <;> (first | rfl | simp)) | (simp [*]; done)), H', ⟨by have := HJ11.out; have := HJ33.out; have := HK3.out; omega⟩, ⟨by (with_reducible repeat (first | apply Kd.R_alloc | apply Kd.R_drewN | apply Kd.R_drew)); exact HO_8.out⟩, ⟨by (with_reducible repeat (first | apply Kd.R_alloc | apply Kd.R_drewN | apply Kd.R_drew)); exact HO_177.out⟩, ⟨by repeat (first | (with_reducible first | exact HB.out | apply below_alloc | apply pw_below_drewN | apply below_drew1) | exact HB.out)⟩⟩
                                    · rw [if_neg c53] at H
                                      have c53b0 : (t352 == (rd t326 (ji51))) = false := beq_eq_false_iff_ne.mpr c53
                                      have c53b1 : (t352 != (rd t326 (ji51))) = true := bne_iff_ne.mpr c53
                                      exact absurd (Option.some.inj H) (by rw [HR_.out]; decide)
                                  · rw [if_neg c52] at H
                                    exact absurd H (by simp)
                                · replace c50 := Bool.eq_false_iff.mpr c50
                                  subst c50
                                  have H1 : (some false) = some r := by rw [if_neg (show ¬ (false = true) by decide)] at H; exact H
                                  clear H
                                  have H := H1
                                  clear H1
                                  exact absurd (Option.some.inj H) (by rw [HR_.out]; decide)
                              · rw [if_neg c49] at H
                                have c49b0 : decide ((wrap64 (x179_3 + 1)) < (t326.length : Int)) = false := decide_eq_false c49
                                clear c49
                                by_cases c58 : t353 = true
                                · subst c58
                                  have H1 : (if 0 ≤ t334 then (if t334 < (t326.length : Int) then (if t352 = (rd t326 t334) then (if x179_3 ≥ t334 then (if (rd t326 x179_3) < t340 then (some false) else (laws_FnPowerRunsEnd.l0 k3 l1 t323 t324 t325 t326 t334 t340 t326 (t326.length : Int) (wrap64 (x179_3 + 1)))) else (laws_FnPowerRunsEnd.l0 k3 l1 t323 t324 t325 t326 t334 t340 t326 (t326.length : Int) (wrap64 (x179_3 + 1)))) else (some false)) else (none)) else (none)) = some r := by rw [if_pos rfl] at H; exact H
                                  clear H
                                  have H := H1
                                  clear H1
                                  by_cases c59 : 0 ≤ t334
                                  · rw [if_pos c59] at H
                                    have c59b0 : decide (0 ≤ t334) = true := decide_eq_true c59
                                    clear c59
                                    by_cases c60 : t334 < (t326.length : Int)
                                    · rw [if_pos c60] at H
                                      have c60b0 : decide (t334 < (t326.length : Int)) = true := decide_eq_true c60
                                      clear c60
                                      by_cases c61 : t352 = (rd t326 t334)
                                      · rw [if_pos c61] at H
                                        have c61b0 : (t352 == (rd t326 t334)) = true := beq_iff_eq.mpr c61
                                        have c61b1 : (t352 != (rd t326 t334)) = false := bne_eq_false_iff_eq.mpr c61
                                        clear c61
                                        by_cases c62 : x179_3 ≥ t334
                                        · rw [if_pos c62] at H
                                          have c62b0 : decide (t334 ≤ x179_3) = true := decide_eq_true c62
                                          clear c62
                                          by_cases c63 : (rd t326 x179_3) < t340
                                          · rw [if_pos c63] at H
                                            have c63b0 : decide ((rd t326 x179_3) < t340) = true := decide_eq_true c63
                                            clear c63
                                            exact absurd (Option.some.inj H) (by rw [HR_.out]; decide)
                                          · rw [if_neg c63] at H
                                            have c63b0 : decide ((rd t326 x179_3) < t340) = false := decide_eq_false c63
                                            clear c63
                                            as_aux_lemma =>
                                              have H' := Aside0.mk H
                                              clear H
                                              have p351 : 0 ≤ (x179_3 : Int) := of_decide_eq_true (by first | (with_reducible assumption) | assumption)
                                              have q351 : x179_3 < (t326.length : Int) := of_decide_eq_true (by first | (with_reducible assumption) | assumption)
                                              obtain ⟨ad351, e351, hx351_0⟩ := Kd.at_int (Kd.R_reads' HO_177.out).2.2 x179_3 p351 q351
                                              cases e351
                                              replace p351 := eq_true p351
                                              replace q351 := eq_true q351
                                              go_wp2_with (first | ((with_reducible refine gate_callee (f := 121) rfl ?_); refine goesL_ (some 188) rfl rfl Try.func121 (by kernel_rfl) rfl #[.int .i64 (rd t326 x179_3), .int .i64 t324, .int .i64 t325] rfl (by (try simp only [List.map_toArray, List.map_cons, List.map_nil]); first | done | rfl | (simp only [List.length_drop, List.length_take]; rfl)) ?_; (with_reducible refine (impl_PowerSum.calls k3 (rd t326 x179_3) t324 t325 t352 true _ A48.out).mono ?_); rintro e w64 ⟨rfl, hb⟩; refine ⟨_, rfl, ?_⟩; have n0_ := Aside0.mk (Kd.R_below (by (with_reducible repeat (first | apply Kd.R_alloc | apply Kd.R_drewN | apply Kd.R_drew)); exact HO_8.out) hb); have n1_ := Aside0.mk (Kd.R_below (by (with_reducible repeat (first | apply Kd.R_alloc | apply Kd.R_drewN | apply Kd.R_drew)); exact HO_177.out) hb); have n2_ := Aside0.mk (below_step (by repeat (first | (with_reducible first | exact HB.out | apply below_alloc | apply pw_below_drewN | apply below_drew1) | exact HB.out)) hb); clear HO_8; clear HO_177; clear HB; have HO_8 := n0_; have HO_177 := n1_; have HB := n2_; clear n0_ n1_ n2_; (try clear hb); (try clear hb2); (try clear hk); (try clear hi); have p355 : 0 ≤ (t334 : Int) := of_decide_eq_true (by first | (with_reducible assumption) | assumption); have q355 : t334 < (t326.length : Int) := of_decide_eq_true (by first | (with_reducible assumption) | assumption); obtain ⟨ad355, e355, hx355_0⟩ := Kd.at_int (Kd.R_reads' HO_8.out).2.2 t334 p355 q355; obtain rfl : ad351 = ad355 := (by injection e355); replace p355 := eq_true p355; replace q355 := eq_true q355))
                                              go_roundg k3
                                              case measure => have := HJ11.out; have := HJ33.out; have := HK3.out; omega
                                              case rel => exact ⟨(wrap64 (x179_3 + 1)), (by first | rfl | (simp; done) | (simp [*]; done)), H', ⟨by have := HJ11.out; have := HJ33.out; have := HK3.out; omega⟩, ⟨by (with_reducible repeat (first | apply Kd.R_alloc | apply Kd.R_drewN | apply Kd.R_drew)); exact HO_8.out⟩, ⟨by (with_reducible repeat (first | apply Kd.R_alloc | apply Kd.R_drewN | apply Kd.R_drew)); exact HO_177.out⟩, ⟨by repeat (first | (with_reducible first | exact HB.out | apply below_alloc | apply pw_below_drewN | apply below_drew1) | exact HB.out)⟩⟩
                                        · rw [if_neg c62] at H
                                          have c62b0 : decide (t334 ≤ x179_3) = false := decide_eq_false c62
                                          clear c62
                                          as_aux_lemma =>
                                            have H' := Aside0.mk H
                                            clear H
                                            have p351 : 0 ≤ (x179_3 : Int) := of_decide_eq_true (by first | (with_reducible assumption) | assumption)
                                            have q351 : x179_3 < (t326.length : Int) := of_decide_eq_true (by first | (with_reducible assumption) | assumption)
                                            obtain ⟨ad351, e351, hx351_0⟩ := Kd.at_int (Kd.R_reads' HO_177.out).2.2 x179_3 p351 q351
                                            cases e351
                                            replace p351 := eq_true p351
                                            replace q351 := eq_true q351
                                            go_wp2_with (first | ((with_reducible refine gate_callee (f := 121) rfl ?_); refine goesL_ (some 188) rfl rfl Try.func121 (by kernel_rfl) rfl #[.int .i64 (rd t326 x179_3), .int .i64 t324, .int .i64 t325] rfl (by (try simp only [List.map_toArray, List.map_cons, List.map_nil]); first | done | rfl | (simp only [List.length_drop, List.length_take]; rfl)) ?_; (with_reducible refine (impl_PowerSum.calls k3 (rd t326 x179_3) t324 t325 t352 true _ A48.out).mono ?_); rintro e w65 ⟨rfl, hb⟩; refine ⟨_, rfl, ?_⟩; have n0_ := Aside0.mk (Kd.R_below (by (with_reducible repeat (first | apply Kd.R_alloc | apply Kd.R_drewN | apply Kd.R_drew)); exact HO_8.out) hb); have n1_ := Aside0.mk (Kd.R_below (by (with_reducible repeat (first | apply Kd.R_alloc | apply Kd.R_drewN | apply Kd.R_drew)); exact HO_177.out) hb); have n2_ := Aside0.mk (below_step (by repeat (first | (with_reducible first | exact HB.out | apply below_alloc | apply pw_below_drewN | apply below_drew1) | exact HB.out)) hb); clear HO_8; clear HO_177; clear HB; have HO_8 := n0_; have HO_177 := n1_; have HB := n2_; clear n0_ n1_ n2_; (try clear hb); (try clear hb2); (try clear hk); (try clear hi); have p355 : 0 ≤ (t334 : Int) := of_decide_eq_true (by first | (with_reducible assumption) | assumption); have q355 : t334 < (t326.length : Int) := of_decide_eq_true (by first | (with_reducible assumption) | assumption); obtain ⟨ad355, e355, hx355_0⟩ := Kd.at_int (Kd.R_reads' HO_8.out).2.2 t334 p355 q355; obtain rfl : ad351 = ad355 := (by injection e355); replace p355 := eq_true p355; replace q355 := eq_true q355))
                                            go_roundg k3
                                            case measure => have := HJ11.out; have := HJ33.out; have := HK3.out; omega
                                            case rel => exact ⟨(wrap64 (x179_3 + 1)), (by first | rfl | (simp; done) | (simp [*]; done)), H', ⟨by have := HJ11.out; have := HJ33.out; have := HK3.out; omega⟩, ⟨by (with_reducible repeat (first | apply Kd.R_alloc | apply Kd.R_drewN | apply Kd.R_drew)); exact HO_8.out⟩, ⟨by (with_reducible repeat (first | apply Kd.R_alloc | apply Kd.R_drewN | apply Kd.R_drew)); exact HO_177.out⟩, ⟨by repeat (first | (with_reducible first | exact HB.out | apply below_alloc | apply pw_below_drewN | apply below_drew1) | exact HB.out)⟩⟩
                                      · rw [if_neg c61] at H
                                        have c61b0 : (t352 == (rd t326 t334)) = false := beq_eq_false_iff_ne.mpr c61
                                        have c61b1 : (t352 != (rd t326 t334)) = true := bne_iff_ne.mpr c61
                                        exact absurd (Option.some.inj H) (by rw [HR_.out]; decide)
                                    · rw [if_neg c60] at H
                                      exact absurd H (by simp)
                                  · rw [if_neg c59] at H
                                    exact absurd H (by simp)
                                · replace c58 := Bool.eq_false_iff.mpr c58
                                  subst c58
                                  have H1 : (some false) = some r := by rw [if_neg (show ¬ (false = true) by decide)] at H; exact H
                                  clear H
                                  have H := H1
                                  clear H1
                                  exact absurd (Option.some.inj H) (by rw [HR_.out]; decide)
                            · rw [if_neg c47] at H
                              exact absurd H (by simp)
                          · rw [if_neg c46] at H
                            exact absurd H (by simp)
                        · rw [if_neg c45] at H
                          have c45b0 : decide (x179_3 < (t326.length : Int)) = false := decide_eq_false c45
                          clear c45
                          replace H := Option.bind_eq_some_iff.mp H
                          obtain ⟨⟨t356, t357⟩, A660, H⟩ := H
                          replace H : (if t357 = true then (if (t326.length : Int) > t334 then (if 0 ≤ t334 then (if t334 < (t326.length : Int) then (laws_FnPowerRunsEnd.j3 k3 l1 t323 t324 t325 (decide ((rd t326 t334) > t356))) else (none)) else (none)) else (laws_FnPowerRunsEnd.j3 k3 l1 t323 t324 t325 false)) else (laws_FnPowerRunsEnd.j3 k3 l1 t323 t324 t325 true)) = some r := H
                          have A66 := Aside0.mk A660
                          clear A660
                          have HC67 := Aside0.mk H
                          clear H
                          go_upto_region 26 with (first | ((with_reducible refine gate_callee (f := 122) rfl ?_); refine goesL_ (some 223) rfl rfl Try.func122 (by kernel_rfl) rfl #[.int .i64 t324, .int .i64 t325] rfl (by (try simp only [List.map_toArray, List.map_cons, List.map_nil]); first | done | rfl | (simp only [List.length_drop, List.length_take]; rfl)) ?_; (with_reducible refine (impl_GreatestSum.calls k3 t324 t325 t356 t357 _ A66.out).mono ?_); rintro e w' ⟨rfl, ⟨nd, rfl⟩⟩; refine ⟨_, rfl, ?_⟩))
                          (try simp only [Act.put, List.setIfInBounds_toArray, List.set_cons_zero, List.set_cons_succ])
                          go_cut [241] (fun v241 wc => ∃ (kq : Nat) (x241_66 : Bool), v241 = .bool x241_66 ∧ Aside0 (laws_FnPowerRunsEnd.j3 kq l1 t323 t324 t325 x241_66 = some r) ∧ Aside0 (kq ≤ k3) ∧ Aside0 (Below w.heap.size w wc))
                          case first =>
                            as_aux_lemma =>
                            have H := HC67.out
                            clear HC67
                            by_cases c68 : t357 = true
                            · subst c68
                              have H1 : (if (t326.length : Int) > t334 then (if 0 ≤ t334 then (if t334 < (t326.length : Int) then (laws_FnPowerRunsEnd.j3 k3 l1 t323 t324 t325 (decide ((rd t326 t334) > t356))) else (none)) else (none)) else (laws_FnPowerRunsEnd.j3 k3 l1 t323 t324 t325 false)) = some r := by rw [if_pos rfl] at H; exact H
                              clear H
                              have H := H1
                              clear H1
                              by_cases c69 : (t326.length : Int) > t334
                              · rw [if_pos c69] at H
                                have c69b0 : decide (t334 < (t326.length : Int)) = true := decide_eq_true c69
                                clear c69
                                (first | rw [c69b0] | (simp only [i64_w, i32_w]; rw [c69b0]) | skip)
                                by_cases c70 : 0 ≤ t334
                                · rw [if_pos c70] at H
                                  have c70b0 : decide (0 ≤ t334) = true := decide_eq_true c70
                                  clear c70
                                  by_cases c71 : t334 < (t326.length : Int)
                                  · rw [if_pos c71] at H
                                    have c71b0 : decide (t334 < (t326.length : Int)) = true := decide_eq_true c71
                                    clear c71
                                    as_aux_lemma =>
                                      have H' := Aside0.mk H
                                      clear H
                                      have p358 : 0 ≤ (t334 : Int) := of_decide_eq_true (by first | (with_reducible assumption) | assumption)
                                      have q358 : t334 < (t326.length : Int) := of_decide_eq_true (by first | (with_reducible assumption) | assumption)
                                      obtain ⟨ad358, e358, hx358_0⟩ := Kd.at_int (Kd.R_reads' HO_8.out).2.2 t334 p358 q358
                                      cases e358
                                      replace p358 := eq_true p358
                                      replace q358 := eq_true q358
                                      go_wp2
                                      go_meet
                                      case rel => exact ⟨_, (decide ((rd t326 t334) > t356)), (by first | rfl | (simp; done) | (simp [*]; done)), H', ⟨by have := HJ11.out; have := HJ33.out; have := HK3.out; first | omega | exact Nat.le_refl _⟩, ⟨by repeat (first | (with_reducible first | exact HB.out | apply below_alloc | apply pw_below_drewN | apply below_drew1) | exact HB.out)⟩⟩
                                  · rw [if_neg c71] at H
                                    exact absurd H (by simp)
                                · rw [if_neg c70] at H
                                  exact absurd H (by simp)
                              · rw [if_neg c69] at H
                                have c69b0 : decide (t334 < (t326.length : Int)) = false := decide_eq_false c69
                                clear c69
                                (first | rw [c69b0] | (simp only [i64_w, i32_w]; rw [c69b0]) | skip)
                                as_aux_lemma =>
                                  have H' := Aside0.mk H
                                  clear H
                                  go_wp2
                                  go_meet
                                  case rel => exact ⟨_, (false), (by first | rfl | (simp; done) | (simp [*]; done)), H', ⟨by have := HJ11.out; have := HJ33.out; have := HK3.out; first | omega | exact Nat.le_refl _⟩, ⟨by repeat (first | (with_reducible first | exact HB.out | apply below_alloc | apply pw_below_drewN | apply below_drew1) | exact HB.out)⟩⟩
                            · replace c68 := Bool.eq_false_iff.mpr c68
                              subst c68
                              have H1 : (laws_FnPowerRunsEnd.j3 k3 l1 t323 t324 t325 true) = some r := by rw [if_neg (show ¬ (false = true) by decide)] at H; exact H
                              clear H
                              have H := H1
                              clear H1
                              exact (laws_FnPowerRunsEnd.j3_no HR_.out _ _ _ _ _ H).elim
                          case rest =>
                            as_aux_lemma =>
                            clear HC67
                            try clear c1
                            try clear c2
                            try clear p2
                            try clear c3
                            try clear p3
                            try clear q3
                            try clear hx3
                            try clear qi3
                            try clear c4
                            try clear q4
                            try clear c5
                            try clear c6
                            try clear p6
                            try clear c7
                            try clear c10
                            try clear c11
                            try clear c12
                            try clear c15
                            try clear c20
                            try clear c20b0
                            try clear c20b1
                            try clear c20b2
                            try clear c22
                            try clear c23
                            try clear c23b0
                            try clear c23b1
                            try clear c23b2
                            try clear c24
                            try clear c24b0
                            try clear c24b1
                            try clear c25
                            try clear c25b0
                            try clear c25b1
                            try clear c26
                            try clear c26b0
                            try clear c26b1
                            try clear c26b2
                            try clear c27
                            try clear c27b0
                            try clear c27b1
                            try clear c28
                            try clear c28b0
                            try clear c28b1
                            try clear c28b2
                            try clear c31
                            try clear c33
                            try clear p34
                            try clear q34
                            try clear hx34
                            try clear qi34
                            try clear c35
                            try clear c35b0
                            try clear c35b1
                            try clear p35
                            try clear q35
                            try clear hx35
                            try clear c36
                            try clear c36b0
                            try clear c36b1
                            try clear c37
                            try clear c37b0
                            try clear c37b1
                            try clear c38
                            try clear c38b0
                            try clear c38b1
                            try clear c39
                            try clear c39b0
                            try clear c39b1
                            try clear c42
                            try clear q42
                            try clear c43
                            try clear c45
                            try clear c45b0
                            try clear c46
                            try clear c46b0
                            try clear c47
                            try clear c47b0
                            try clear c49
                            try clear c49b0
                            try clear c50
                            try clear c52
                            try clear c52b0
                            try clear c53
                            try clear c53b0
                            try clear c53b1
                            try clear c54
                            try clear c54b0
                            try clear c55
                            try clear c55b0
                            try clear c58
                            try clear c59
                            try clear c59b0
                            try clear c60
                            try clear c60b0
                            try clear c61
                            try clear c61b0
                            try clear c61b1
                            try clear c62
                            try clear c62b0
                            try clear c63
                            try clear c63b0
                            try clear p64
                            try clear c68
                            try clear c69
                            try clear c69b0
                            try clear c70
                            try clear c70b0
                            try clear c71
                            try clear c71b0
                            try clear hx345_0
                            try clear hx351_0
                            try clear hx354_0
                            try clear hx355_0
                            try clear hx358_0
                            try clear p2
                            try clear p3
                            try clear p34
                            try clear p345
                            try clear p351
                            try clear p354
                            try clear p355
                            try clear p358
                            try clear p6
                            try clear q042
                            try clear q3
                            try clear q34
                            try clear q345
                            try clear q351
                            try clear q354
                            try clear q355
                            try clear q358
                            try clear q4
                            try clear q42
                            obtain ⟨kq, x241_66, rfl, HA, HJ66, HB⟩ := hcut
                            cases kq with
                            | zero => exact absurd HA.out (by simp [laws_FnPowerRunsEnd.j3])
                            | succ kj66 =>
                              have H := HA.out
                              clear HA
                              simp only [laws_FnPowerRunsEnd.j3] at H
                              by_cases c72 : x241_66 = true
                              · subst c72
                                have H1 : (some false) = some r := by rw [if_pos rfl] at H; exact H
                                clear H
                                have H := H1
                                clear H1
                                exact absurd (Option.some.inj H) (by rw [HR_.out]; decide)
                              · replace c72 := Bool.eq_false_iff.mpr c72
                                subst c72
                                have H1 : ((impl_SortedUp.f kj66 t323 t324).bind fun bt359 => (if bt359.2 = true then ((impl_PowerSum.f kj66 bt359.1 t324 t325).bind fun bt361 => ((impl_PowerSum.f kj66 t323 t324 t325).bind fun bt363 => (if bt361.2 = true then (if bt363.2 = true then (if bt361.1 = bt363.1 then (laws_FnPowerRunsEnd.j4 kj66 l1) else (some false)) else (some false)) else (some false)))) else (laws_FnPowerRunsEnd.j4 kj66 l1))) = some r := by rw [if_neg (show ¬ (false = true) by decide)] at H; exact H
                                clear H
                                have H := H1
                                clear H1
                                replace H := Option.bind_eq_some_iff.mp H
                                obtain ⟨⟨t359, t360⟩, A730, H⟩ := H
                                replace H : (if t360 = true then ((impl_PowerSum.f kj66 t359 t324 t325).bind fun bt361 => ((impl_PowerSum.f kj66 t323 t324 t325).bind fun bt363 => (if bt361.2 = true then (if bt363.2 = true then (if bt361.1 = bt363.1 then (laws_FnPowerRunsEnd.j4 kj66 l1) else (some false)) else (some false)) else (some false)))) else (laws_FnPowerRunsEnd.j4 kj66 l1)) = some r := H
                                have A73 := Aside0.mk A730
                                clear A730
                                by_cases c74 : t360 = true
                                · subst c74
                                  have H1 : ((impl_PowerSum.f kj66 t359 t324 t325).bind fun bt361 => ((impl_PowerSum.f kj66 t323 t324 t325).bind fun bt363 => (if bt361.2 = true then (if bt363.2 = true then (if bt361.1 = bt363.1 then (laws_FnPowerRunsEnd.j4 kj66 l1) else (some false)) else (some false)) else (some false)))) = some r := by rw [if_pos rfl] at H; exact H
                                  clear H
                                  have H := H1
                                  clear H1
                                  replace H := Option.bind_eq_some_iff.mp H
                                  obtain ⟨⟨t361, t362⟩, A750, H⟩ := H
                                  replace H : ((impl_PowerSum.f kj66 t323 t324 t325).bind fun bt363 => (if t362 = true then (if bt363.2 = true then (if t361 = bt363.1 then (laws_FnPowerRunsEnd.j4 kj66 l1) else (some false)) else (some false)) else (some false))) = some r := H
                                  have A75 := Aside0.mk A750
                                  clear A750
                                  replace H := Option.bind_eq_some_iff.mp H
                                  obtain ⟨⟨t363, t364⟩, A760, H⟩ := H
                                  replace H : (if t362 = true then (if t364 = true then (if t361 = t363 then (laws_FnPowerRunsEnd.j4 kj66 l1) else (some false)) else (some false)) else (some false)) = some r := H
                                  have A76 := Aside0.mk A760
                                  clear A760
                                  by_cases c77 : t362 = true
                                  · subst c77
                                    have H1 : (if t364 = true then (if t361 = t363 then (laws_FnPowerRunsEnd.j4 kj66 l1) else (some false)) else (some false)) = some r := by rw [if_pos rfl] at H; exact H
                                    clear H
                                    have H := H1
                                    clear H1
                                    by_cases c78 : t364 = true
                                    · subst c78
                                      have H1 : (if t361 = t363 then (laws_FnPowerRunsEnd.j4 kj66 l1) else (some false)) = some r := by rw [if_pos rfl] at H; exact H
                                      clear H
                                      have H := H1
                                      clear H1
                                      by_cases c79 : t361 = t363
                                      · rw [if_pos c79] at H
                                        have c79b0 : (t361 == t363) = true := beq_iff_eq.mpr c79
                                        have c79b1 : (t361 != t363) = false := bne_eq_false_iff_eq.mpr c79
                                        clear c79
                                        as_aux_lemma =>
                                          have H' := Aside0.mk H
                                          clear H
                                          go_wp2_with (first | ((with_reducible refine gate_callee (f := 123) rfl ?_); refine goesL_ (some 245) rfl rfl Try.func123 (by kernel_rfl) rfl #[.int .i64 t323, .int .i64 t324] rfl (by (try simp only [List.map_toArray, List.map_cons, List.map_nil]); first | done | rfl | (simp only [List.length_drop, List.length_take]; rfl)) ?_; (with_reducible refine (impl_SortedUp.calls kj66 t323 t324 t359 true _ A73.out).mono ?_); rintro e w80 ⟨rfl, hb⟩; refine ⟨_, rfl, ?_⟩; have n0_ := Aside0.mk (below_step (by repeat (first | (with_reducible first | exact HB.out | apply below_alloc | apply pw_below_drewN | apply below_drew1) | exact HB.out)) hb); clear HB; have HB := n0_; clear n0_; (try clear hb); (try clear hb2); (try clear hk); (try clear hi)) | ((with_reducible refine gate_callee (f := 121) rfl ?_); refine goesL_ (some 253) rfl rfl Try.func121 (by kernel_rfl) rfl #[.int .i64 t359, .int .i64 t324, .int .i64 t325] rfl (by (try simp only [List.map_toArray, List.map_cons, List.map_nil]); first | done | rfl | (simp only [List.length_drop, List.length_take]; rfl)) ?_; (with_reducible refine (impl_PowerSum.calls kj66 t359 t324 t325 t361 true _ A75.out).mono ?_); rintro e w81 ⟨rfl, hb⟩; refine ⟨_, rfl, ?_⟩; have n0_ := Aside0.mk (below_step (by repeat (first | (with_reducible first | exact HB.out | apply below_alloc | apply pw_below_drewN | apply below_drew1) | exact HB.out)) hb); clear HB; have HB := n0_; clear n0_; (try clear hb); (try clear hb2); (try clear hk); (try clear hi)) | ((with_reducible refine gate_callee (f := 121) rfl ?_); refine goesL_ (some 260) rfl rfl Try.func121 (by kernel_rfl) rfl #[.int .i64 t323, .int .i64 t324, .int .i64 t325] rfl (by (try simp only [List.map_toArray, List.map_cons, List.map_nil]); first | done | rfl | (simp only [List.length_drop, List.length_take]; rfl)) ?_; (with_reducible refine (impl_PowerSum.calls kj66 t323 t324 t325 t363 true _ A76.out).mono ?_); rintro e w82 ⟨rfl, hb⟩; refine ⟨_, rfl, ?_⟩; have n0_ := Aside0.mk (below_step (by repeat (first | (with_reducible first | exact HB.out | apply below_alloc | apply pw_below_drewN | apply below_drew1) | exact HB.out)) hb); clear HB; have HB := n0_; clear n0_; (try clear hb); (try clear hb2); (try clear hk); (try clear hi)))
                                          go_meet
                                          case rel => exact ⟨_, H', ⟨by have := HJ11.out; have := HJ33.out; have := HK3.out; have := HJ66.out; first | omega | exact Nat.le_refl _⟩, ⟨by repeat (first | (with_reducible first | exact HB.out | apply below_alloc | apply pw_below_drewN | apply below_drew1) | exact HB.out)⟩⟩
                                      · rw [if_neg c79] at H
                                        have c79b0 : (t361 == t363) = false := beq_eq_false_iff_ne.mpr c79
                                        have c79b1 : (t361 != t363) = true := bne_iff_ne.mpr c79
                                        exact absurd (Option.some.inj H) (by rw [HR_.out]; decide)
                                    · replace c78 := Bool.eq_false_iff.mpr c78
                                      subst c78
                                      have H1 : (some false) = some r := by rw [if_neg (show ¬ (false = true) by decide)] at H; exact H
                                      clear H
                                      have H := H1
                                      clear H1
                                      exact absurd (Option.some.inj H) (by rw [HR_.out]; decide)
                                  · replace c77 := Bool.eq_false_iff.mpr c77
                                    subst c77
                                    have H1 : (some false) = some r := by rw [if_neg (show ¬ (false = true) by decide)] at H; exact H
                                    clear H
                                    have H := H1
                                    clear H1
                                    exact absurd (Option.some.inj H) (by rw [HR_.out]; decide)
                                · replace c74 := Bool.eq_false_iff.mpr c74
                                  subst c74
                                  have H1 : (laws_FnPowerRunsEnd.j4 kj66 l1) = some r := by rw [if_neg (show ¬ (false = true) by decide)] at H; exact H
                                  clear H
                                  have H := H1
                                  clear H1
                                  as_aux_lemma =>
                                    have H' := Aside0.mk H
                                    clear H
                                    go_wp2_with (first | ((with_reducible refine gate_callee (f := 123) rfl ?_); refine goesL_ (some 245) rfl rfl Try.func123 (by kernel_rfl) rfl #[.int .i64 t323, .int .i64 t324] rfl (by (try simp only [List.map_toArray, List.map_cons, List.map_nil]); first | done | rfl | (simp only [List.length_drop, List.length_take]; rfl)) ?_; (with_reducible refine (impl_SortedUp.calls kj66 t323 t324 t359 false _ A73.out).mono ?_); rintro e w83 ⟨rfl, hb⟩; refine ⟨_, rfl, ?_⟩; have n0_ := Aside0.mk (below_step (by repeat (first | (with_reducible first | exact HB.out | apply below_alloc | apply pw_below_drewN | apply below_drew1) | exact HB.out)) hb); clear HB; have HB := n0_; clear n0_; (try clear hb); (try clear hb2); (try clear hk); (try clear hi)))
                                    go_meet
                                    case rel => exact ⟨_, H', ⟨by have := HJ11.out; have := HJ33.out; have := HK3.out; have := HJ66.out; first | omega | exact Nat.le_refl _⟩, ⟨by repeat (first | (with_reducible first | exact HB.out | apply below_alloc | apply pw_below_drewN | apply below_drew1) | exact HB.out)⟩⟩
            · replace c33 := Bool.eq_false_iff.mpr c33
              subst c33
              have H1 : (laws_FnPowerRunsEnd.j4 kj11 l1) = some r := by rw [if_neg (show ¬ (false = true) by decide)] at H; exact H
              clear H
              have H := H1
              clear H1
              as_aux_lemma =>
                have H' := Aside0.mk H
                clear H
                go_wp2
                go_meet
                case rel => exact ⟨_, H', ⟨by have := HJ11.out; first | omega | exact Nat.le_refl _⟩, ⟨by repeat (first | (with_reducible first | exact HB.out | apply below_alloc | apply pw_below_drewN | apply below_drew1) | exact HB.out)⟩⟩
          case rest =>
            as_aux_lemma =>
            clear HC32
            try clear c1
            try clear c2
            try clear p2
            try clear c3
            try clear p3
            try clear q3
            try clear hx3
            try clear qi3
            try clear c4
            try clear q4
            try clear c5
            try clear c6
            try clear p6
            try clear c7
            try clear c10
            try clear c11
            try clear c12
            try clear c15
            try clear c20
            try clear c20b0
            try clear c20b1
            try clear c20b2
            try clear c22
            try clear c23
            try clear c23b0
            try clear c23b1
            try clear c23b2
            try clear c24
            try clear c24b0
            try clear c24b1
            try clear c25
            try clear c25b0
            try clear c25b1
            try clear c26
            try clear c26b0
            try clear c26b1
            try clear c26b2
            try clear c27
            try clear c27b0
            try clear c27b1
            try clear c28
            try clear c28b0
            try clear c28b1
            try clear c28b2
            try clear c31
            try clear c33
            try clear p34
            try clear q34
            try clear hx34
            try clear qi34
            try clear c35
            try clear c35b0
            try clear c35b1
            try clear p35
            try clear q35
            try clear hx35
            try clear c36
            try clear c36b0
            try clear c36b1
            try clear c37
            try clear c37b0
            try clear c37b1
            try clear c38
            try clear c38b0
            try clear c38b1
            try clear c39
            try clear c39b0
            try clear c39b1
            try clear c42
            try clear q42
            try clear c43
            try clear c45
            try clear c45b0
            try clear c46
            try clear c46b0
            try clear c47
            try clear c47b0
            try clear c49
            try clear c49b0
            try clear c50
            try clear c52
            try clear c52b0
            try clear c53
            try clear c53b0
            try clear c53b1
            try clear c54
            try clear c54b0
            try clear c55
            try clear c55b0
            try clear c58
            try clear c59
            try clear c59b0
            try clear c60
            try clear c60b0
            try clear c61
            try clear c61b0
            try clear c61b1
            try clear c62
            try clear c62b0
            try clear c63
            try clear c63b0
            try clear p64
            try clear c68
            try clear c69
            try clear c69b0
            try clear c70
            try clear c70b0
            try clear c71
            try clear c71b0
            try clear c72
            try clear c74
            try clear c77
            try clear c78
            try clear c79
            try clear c79b0
            try clear c79b1
            try clear hx345_0
            try clear hx351_0
            try clear hx354_0
            try clear hx355_0
            try clear hx358_0
            try clear p2
            try clear p3
            try clear p34
            try clear p345
            try clear p35
            try clear p351
            try clear p354
            try clear p355
            try clear p358
            try clear p6
            try clear p64
            try clear q042
            try clear q3
            try clear q34
            try clear q345
            try clear q35
            try clear q351
            try clear q354
            try clear q355
            try clear q358
            try clear q4
            try clear q42
            obtain ⟨kq, HA, HJ31, HB⟩ := hcut
            cases kq with
            | zero => exact absurd HA.out (by simp [laws_FnPowerRunsEnd.j4])
            | succ kj31 =>
              have H := HA.out
              clear HA
              simp only [laws_FnPowerRunsEnd.j4] at H
              replace H := Option.bind_eq_some_iff.mp H
              obtain ⟨⟨t365, t366⟩, A840, H⟩ := H
              replace H : ((impl_FallsFrom.f kj31 t365 t366).bind fun bt367 => ((spec_FallsFrom.f kj31 t365 t366).bind fun bt369 => ((impl_GreatestSum.f kj31 t365 t366).bind fun bt371 => ((spec_GreatestSum.f kj31 t365 t366).bind fun bt373 => (if (bt367.2 != bt369.2) = true then (laws_FnPowerRunsEnd.j5 kj31 l1 true) else (if bt367.1 = bt369.1 then (if (bt371.2 != bt373.2) = true then (laws_FnPowerRunsEnd.j5 kj31 l1 true) else (if bt371.1 = bt373.1 then (laws_FnPowerRunsEnd.j5 kj31 l1 (bt371.2 != bt367.2)) else (laws_FnPowerRunsEnd.j5 kj31 l1 true))) else (laws_FnPowerRunsEnd.j5 kj31 l1 true))))))) = some r := H
              have A84 := Aside0.mk A840
              clear A840
              replace H := Option.bind_eq_some_iff.mp H
              obtain ⟨⟨t367, t368⟩, A850, H⟩ := H
              replace H : ((spec_FallsFrom.f kj31 t365 t366).bind fun bt369 => ((impl_GreatestSum.f kj31 t365 t366).bind fun bt371 => ((spec_GreatestSum.f kj31 t365 t366).bind fun bt373 => (if (t368 != bt369.2) = true then (laws_FnPowerRunsEnd.j5 kj31 l1 true) else (if t367 = bt369.1 then (if (bt371.2 != bt373.2) = true then (laws_FnPowerRunsEnd.j5 kj31 l1 true) else (if bt371.1 = bt373.1 then (laws_FnPowerRunsEnd.j5 kj31 l1 (bt371.2 != t368)) else (laws_FnPowerRunsEnd.j5 kj31 l1 true))) else (laws_FnPowerRunsEnd.j5 kj31 l1 true)))))) = some r := H
              have A85 := Aside0.mk A850
              clear A850
              replace H := Option.bind_eq_some_iff.mp H
              obtain ⟨⟨t369, t370⟩, A860, H⟩ := H
              replace H : ((impl_GreatestSum.f kj31 t365 t366).bind fun bt371 => ((spec_GreatestSum.f kj31 t365 t366).bind fun bt373 => (if (t368 != t370) = true then (laws_FnPowerRunsEnd.j5 kj31 l1 true) else (if t367 = t369 then (if (bt371.2 != bt373.2) = true then (laws_FnPowerRunsEnd.j5 kj31 l1 true) else (if bt371.1 = bt373.1 then (laws_FnPowerRunsEnd.j5 kj31 l1 (bt371.2 != t368)) else (laws_FnPowerRunsEnd.j5 kj31 l1 true))) else (laws_FnPowerRunsEnd.j5 kj31 l1 true))))) = some r := H
              have A86 := Aside0.mk A860
              clear A860
              replace H := Option.bind_eq_some_iff.mp H
              obtain ⟨⟨t371, t372⟩, A870, H⟩ := H
              replace H : ((spec_GreatestSum.f kj31 t365 t366).bind fun bt373 => (if (t368 != t370) = true then (laws_FnPowerRunsEnd.j5 kj31 l1 true) else (if t367 = t369 then (if (t372 != bt373.2) = true then (laws_FnPowerRunsEnd.j5 kj31 l1 true) else (if t371 = bt373.1 then (laws_FnPowerRunsEnd.j5 kj31 l1 (t372 != t368)) else (laws_FnPowerRunsEnd.j5 kj31 l1 true))) else (laws_FnPowerRunsEnd.j5 kj31 l1 true)))) = some r := H
              have A87 := Aside0.mk A870
              clear A870
              replace H := Option.bind_eq_some_iff.mp H
              obtain ⟨⟨t373, t374⟩, A880, H⟩ := H
              replace H : (if (t368 != t370) = true then (laws_FnPowerRunsEnd.j5 kj31 l1 true) else (if t367 = t369 then (if (t372 != t374) = true then (laws_FnPowerRunsEnd.j5 kj31 l1 true) else (if t371 = t373 then (laws_FnPowerRunsEnd.j5 kj31 l1 (t372 != t368)) else (laws_FnPowerRunsEnd.j5 kj31 l1 true))) else (laws_FnPowerRunsEnd.j5 kj31 l1 true))) = some r := H
              have A88 := Aside0.mk A880
              clear A880
              have HC89 := Aside0.mk H
              clear H
              go_upto_region 39 with (first | ((with_reducible refine gate_callee (f := 124) rfl ?_); refine goesL_ (some 276) rfl rfl Try.func124 (by kernel_rfl) rfl #[.slice A1 l1.length c1] rfl (by (try simp only [List.map_toArray, List.map_cons, List.map_nil]); first | done | rfl | (simp only [List.length_drop, List.length_take]; rfl)) ?_; (with_reducible refine (spec_DrawFallsFrom.calls _ _ l1 t365 t366 _ ?side1 ?side2 A84.out).mono ?_); (case side1 => repeat (first | exact (Kd.C_below HR1.out HB.out) | (with_reducible refine Kd.C_alloc ?_ _) | (with_reducible refine Kd.C_drewN ?_ _) | (with_reducible refine Kd.C_drew ?_))); (case side2 => exact HC1.out); rintro e w90 ⟨rfl, hb⟩; refine ⟨_, rfl, ?_⟩; have n0_ := Aside0.mk (below_step (by repeat (first | (with_reducible first | exact HB.out | apply below_alloc | apply pw_below_drewN | apply below_drew1) | exact HB.out)) hb); clear HB; have HB := n0_; clear n0_; (try clear hb); (try clear hb2); (try clear hk); (try clear hi)) | ((with_reducible refine gate_callee (f := 125) rfl ?_); refine goesL_ (some 282) rfl rfl Try.func125 (by kernel_rfl) rfl #[.int .i64 t365, .int .i64 t366] rfl (by (try simp only [List.map_toArray, List.map_cons, List.map_nil]); first | done | rfl | (simp only [List.length_drop, List.length_take]; rfl)) ?_; (with_reducible refine (impl_FallsFrom.calls kj31 t365 t366 t367 t368 _ A85.out).mono ?_); rintro e w' ⟨rfl, ⟨nd, rfl⟩⟩; refine ⟨_, rfl, ?_⟩) | ((with_reducible refine gate_callee (f := 126) rfl ?_); refine goesL_ (some 288) rfl rfl Try.func126 (by kernel_rfl) rfl #[.int .i64 t365, .int .i64 t366] rfl (by (try simp only [List.map_toArray, List.map_cons, List.map_nil]); first | done | rfl | (simp only [List.length_drop, List.length_take]; rfl)) ?_; (with_reducible refine (spec_FallsFrom.calls kj31 t365 t366 t369 t370 _ A86.out).mono ?_); rintro e w' ⟨rfl, ⟨nd, rfl⟩⟩; refine ⟨_, rfl, ?_⟩) | ((with_reducible refine gate_callee (f := 122) rfl ?_); refine goesL_ (some 294) rfl rfl Try.func122 (by kernel_rfl) rfl #[.int .i64 t365, .int .i64 t366] rfl (by (try simp only [List.map_toArray, List.map_cons, List.map_nil]); first | done | rfl | (simp only [List.length_drop, List.length_take]; rfl)) ?_; (with_reducible refine (impl_GreatestSum.calls kj31 t365 t366 t371 t372 _ A87.out).mono ?_); rintro e w' ⟨rfl, ⟨nd, rfl⟩⟩; refine ⟨_, rfl, ?_⟩) | ((with_reducible refine gate_callee (f := 127) rfl ?_); refine goesL_ (some 300) rfl rfl Try.func127 (by kernel_rfl) rfl #[.int .i64 t365, .int .i64 t366] rfl (by (try simp only [List.map_toArray, List.map_cons, List.map_nil]); first | done | rfl | (simp only [List.length_drop, List.length_take]; rfl)) ?_; (with_reducible refine (spec_GreatestSum.calls kj31 t365 t366 t373 t374 _ A88.out).mono ?_); rintro e w' ⟨rfl, ⟨nd, rfl⟩⟩; refine ⟨_, rfl, ?_⟩))
              (try simp only [Act.put, List.setIfInBounds_toArray, List.set_cons_zero, List.set_cons_succ])
              go_cut [325] (fun v325 wc => ∃ (kq : Nat) (x325_88 : Bool), v325 = .bool x325_88 ∧ Aside0 (laws_FnPowerRunsEnd.j5 kq l1 x325_88 = some r) ∧ Aside0 (kq ≤ kj31) ∧ Aside0 (Below w.heap.size w wc))
              case first =>
                as_aux_lemma =>
                have H := HC89.out
                clear HC89
                by_cases c91 : (t368 != t370) = true
                · rw [if_pos c91] at H
                  have c91b0 : (t368 != t370) = true := c91
                  (try (have c91b1 : decide (t368 = t370) = false := by simpa using c91))
                  (try (have c91b2 : (t368 == t370) = false := by simpa using c91))
                  (try (have c91b3 : ¬ (t368 = t370) := by simpa using c91))
                  clear c91
                  (first | rw [c91b0] | (simp only [i64_w, i32_w]; rw [c91b0]) | skip)
                  exact (laws_FnPowerRunsEnd.j5_no HR_.out _ _ H).elim
                · rw [if_neg c91] at H
                  have c91b0 : (t368 != t370) = false := by simpa using c91
                  (try (have c91b1 : decide (t368 = t370) = true := by simpa using c91))
                  (try (have c91b2 : (t368 == t370) = true := by simpa using c91))
                  clear c91
                  (first | rw [c91b0] | (simp only [i64_w, i32_w]; rw [c91b0]) | skip)
                  by_cases c92 : t367 = t369
                  · rw [if_pos c92] at H
                    have c92b0 : (t367 == t369) = true := beq_iff_eq.mpr c92
                    have c92b1 : (t367 != t369) = false := bne_eq_false_iff_eq.mpr c92
                    clear c92
                    by_cases c93 : (t372 != t374) = true
                    · rw [if_pos c93] at H
                      have c93b0 : (t372 != t374) = true := c93
                      (try (have c93b1 : decide (t372 = t374) = false := by simpa using c93))
                      (try (have c93b2 : (t372 == t374) = false := by simpa using c93))
                      (try (have c93b3 : ¬ (t372 = t374) := by simpa using c93))
                      clear c93
                      exact (laws_FnPowerRunsEnd.j5_no HR_.out _ _ H).elim
                    · rw [if_neg c93] at H
                      have c93b0 : (t372 != t374) = false := by simpa using c93
                      (try (have c93b1 : decide (t372 = t374) = true := by simpa using c93))
                      (try (have c93b2 : (t372 == t374) = true := by simpa using c93))
                      clear c93
                      by_cases c94 : t371 = t373
                      · rw [if_pos c94] at H
                        have c94b0 : (t371 == t373) = true := beq_iff_eq.mpr c94
                        have c94b1 : (t371 != t373) = false := bne_eq_false_iff_eq.mpr c94
                        clear c94
                        as_aux_lemma =>
                          have H' := Aside0.mk H
                          clear H
                          go_wp2
                          go_meet
                          case rel => exact ⟨_, ((t372 != t368)), (by first | rfl | (simp; done) | (simp [*]; done)), H', ⟨by have := HJ11.out; have := HJ31.out; first | omega | exact Nat.le_refl _⟩, ⟨by repeat (first | (with_reducible first | exact HB.out | apply below_alloc | apply pw_below_drewN | apply below_drew1) | exact HB.out)⟩⟩
                      · rw [if_neg c94] at H
                        have c94b0 : (t371 == t373) = false := beq_eq_false_iff_ne.mpr c94
                        have c94b1 : (t371 != t373) = true := bne_iff_ne.mpr c94
                        exact (laws_FnPowerRunsEnd.j5_no HR_.out _ _ H).elim
                  · rw [if_neg c92] at H
                    have c92b0 : (t367 == t369) = false := beq_eq_false_iff_ne.mpr c92
                    have c92b1 : (t367 != t369) = true := bne_iff_ne.mpr c92
                    exact (laws_FnPowerRunsEnd.j5_no HR_.out _ _ H).elim
              case rest =>
                as_aux_lemma =>
                clear HC89
                try clear c1
                try clear c2
                try clear p2
                try clear c3
                try clear p3
                try clear q3
                try clear hx3
                try clear qi3
                try clear c4
                try clear q4
                try clear c5
                try clear c6
                try clear p6
                try clear c7
                try clear c9
                try clear c10
                try clear c11
                try clear c12
                try clear c15
                try clear c20
                try clear c20b0
                try clear c20b1
                try clear c20b2
                try clear c22
                try clear c23
                try clear c23b0
                try clear c23b1
                try clear c23b2
                try clear c24
                try clear c24b0
                try clear c24b1
                try clear c25
                try clear c25b0
                try clear c25b1
                try clear c26
                try clear c26b0
                try clear c26b1
                try clear c26b2
                try clear c27
                try clear c27b0
                try clear c27b1
                try clear c28
                try clear c28b0
                try clear c28b1
                try clear c28b2
                try clear c31
                try clear c33
                try clear p34
                try clear q34
                try clear hx34
                try clear qi34
                try clear c35
                try clear c35b0
                try clear c35b1
                try clear p35
                try clear q35
                try clear hx35
                try clear c36
                try clear c36b0
                try clear c36b1
                try clear c37
                try clear c37b0
                try clear c37b1
                try clear c38
                try clear c38b0
                try clear c38b1
                try clear c39
                try clear c39b0
                try clear c39b1
                try clear c42
                try clear q42
                try clear c43
                try clear c45
                try clear c45b0
                try clear c46
                try clear c46b0
                try clear c47
                try clear c47b0
                try clear c49
                try clear c49b0
                try clear c50
                try clear c52
                try clear c52b0
                try clear c53
                try clear c53b0
                try clear c53b1
                try clear c54
                try clear c54b0
                try clear c55
                try clear c55b0
                try clear c58
                try clear c59
                try clear c59b0
                try clear c60
                try clear c60b0
                try clear c61
                try clear c61b0
                try clear c61b1
                try clear c62
                try clear c62b0
                try clear c63
                try clear c63b0
                try clear p64
                try clear c68
                try clear c69
                try clear c69b0
                try clear c70
                try clear c70b0
                try clear c71
                try clear c71b0
                try clear c72
                try clear c74
                try clear c77
                try clear c78
                try clear c79
                try clear c79b0
                try clear c79b1
                try clear c91
                try clear c91b0
                try clear c91b1
                try clear c91b2
                try clear c92
                try clear c92b0
                try clear c92b1
                try clear c93
                try clear c93b0
                try clear c93b1
                try clear c93b2
                try clear c94
                try clear c94b0
                try clear c94b1
                try clear hx345_0
                try clear hx351_0
                try clear hx354_0
                try clear hx355_0
                try clear hx358_0
                try clear p2
                try clear p3
                try clear p34
                try clear p345
                try clear p35
                try clear p351
                try clear p354
                try clear p355
                try clear p358
                try clear p6
                try clear p64
                try clear q042
                try clear q3
                try clear q34
                try clear q345
                try clear q35
                try clear q351
                try clear q354
                try clear q355
                try clear q358
                try clear q4
                try clear q42
                obtain ⟨kq, x325_88, rfl, HA, HJ88, HB⟩ := hcut
                cases kq with
                | zero => exact absurd HA.out (by simp [laws_FnPowerRunsEnd.j5])
                | succ kj88 =>
                  have H := HA.out
                  clear HA
                  simp only [laws_FnPowerRunsEnd.j5] at H
                  by_cases c95 : x325_88 = true
                  · subst c95
                    have H1 : (some false) = some r := by rw [if_pos rfl] at H; exact H
                    clear H
                    have H := H1
                    clear H1
                    exact absurd (Option.some.inj H) (by rw [HR_.out]; decide)
                  · replace c95 := Bool.eq_false_iff.mpr c95
                    subst c95
                    have H1 : ((spec_DrawPowerSum.f kj88 l1).bind fun bt375 => ((impl_PowerSum.f kj88 bt375.1 bt375.2.1 bt375.2.2).bind fun bt378 => ((spec_PowerSum.f kj88 bt375.1 bt375.2.1 bt375.2.2).bind fun bt380 => (if (bt378.2 != bt380.2) = true then (laws_FnPowerRunsEnd.j6 kj88 bt375.1 bt375.2.1 bt375.2.2 bt378.1 bt378.2 true) else (laws_FnPowerRunsEnd.j6 kj88 bt375.1 bt375.2.1 bt375.2.2 bt378.1 bt378.2 (bt378.1 != bt380.1)))))) = some r := by rw [if_neg (show ¬ (false = true) by decide)] at H; exact H
                    clear H
                    have H := H1
                    clear H1
                    replace H := Option.bind_eq_some_iff.mp H
                    obtain ⟨⟨t375, t376, t377⟩, A960, H⟩ := H
                    replace H : ((impl_PowerSum.f kj88 t375 t376 t377).bind fun bt378 => ((spec_PowerSum.f kj88 t375 t376 t377).bind fun bt380 => (if (bt378.2 != bt380.2) = true then (laws_FnPowerRunsEnd.j6 kj88 t375 t376 t377 bt378.1 bt378.2 true) else (laws_FnPowerRunsEnd.j6 kj88 t375 t376 t377 bt378.1 bt378.2 (bt378.1 != bt380.1))))) = some r := H
                    have A96 := Aside0.mk A960
                    clear A960
                    replace H := Option.bind_eq_some_iff.mp H
                    obtain ⟨⟨t378, t379⟩, A970, H⟩ := H
                    replace H : ((spec_PowerSum.f kj88 t375 t376 t377).bind fun bt380 => (if (t379 != bt380.2) = true then (laws_FnPowerRunsEnd.j6 kj88 t375 t376 t377 t378 t379 true) else (laws_FnPowerRunsEnd.j6 kj88 t375 t376 t377 t378 t379 (t378 != bt380.1)))) = some r := H
                    have A97 := Aside0.mk A970
                    clear A970
                    replace H := Option.bind_eq_some_iff.mp H
                    obtain ⟨⟨t380, t381⟩, A980, H⟩ := H
                    replace H : (if (t379 != t381) = true then (laws_FnPowerRunsEnd.j6 kj88 t375 t376 t377 t378 t379 true) else (laws_FnPowerRunsEnd.j6 kj88 t375 t376 t377 t378 t379 (t378 != t380))) = some r := H
                    have A98 := Aside0.mk A980
                    clear A980
                    have HC99 := Aside0.mk H
                    clear H
                    go_upto_region 44 with (first | ((with_reducible refine gate_callee (f := 128) rfl ?_); refine goesL_ (some 328) rfl rfl Try.func128 (by kernel_rfl) rfl #[.slice A1 l1.length c1] rfl (by (try simp only [List.map_toArray, List.map_cons, List.map_nil]); first | done | rfl | (simp only [List.length_drop, List.length_take]; rfl)) ?_; (with_reducible refine (spec_DrawPowerSum.calls kj88 _ _ l1 t375 t376 t377 _ ?side1 ?side2 A96.out).mono ?_); (case side1 => repeat (first | exact (Kd.C_below HR1.out HB.out) | (with_reducible refine Kd.C_alloc ?_ _) | (with_reducible refine Kd.C_drewN ?_ _) | (with_reducible refine Kd.C_drew ?_))); (case side2 => exact HC1.out); rintro e w100 ⟨rfl, hb⟩; refine ⟨_, rfl, ?_⟩; have n0_ := Aside0.mk (below_step (by repeat (first | (with_reducible first | exact HB.out | apply below_alloc | apply pw_below_drewN | apply below_drew1) | exact HB.out)) hb); clear HB; have HB := n0_; clear n0_; (try clear hb); (try clear hb2); (try clear hk); (try clear hi)) | ((with_reducible refine gate_callee (f := 121) rfl ?_); refine goesL_ (some 336) rfl rfl Try.func121 (by kernel_rfl) rfl #[.int .i64 t375, .int .i64 t376, .int .i64 t377] rfl (by (try simp only [List.map_toArray, List.map_cons, List.map_nil]); first | done | rfl | (simp only [List.length_drop, List.length_take]; rfl)) ?_; (with_reducible refine (impl_PowerSum.calls kj88 t375 t376 t377 t378 t379 _ A97.out).mono ?_); rintro e w101 ⟨rfl, hb⟩; refine ⟨_, rfl, ?_⟩; have n0_ := Aside0.mk (below_step (by repeat (first | (with_reducible first | exact HB.out | apply below_alloc | apply pw_below_drewN | apply below_drew1) | exact HB.out)) hb); clear HB; have HB := n0_; clear n0_; (try clear hb); (try clear hb2); (try clear hk); (try clear hi)) | ((with_reducible refine gate_callee (f := 129) rfl ?_); refine goesL_ (some 343) rfl rfl Try.func129 (by kernel_rfl) rfl #[.int .i64 t375, .int .i64 t376, .int .i64 t377] rfl (by (try simp only [List.map_toArray, List.map_cons, List.map_nil]); first | done | rfl | (simp only [List.length_drop, List.length_take]; rfl)) ?_; (with_reducible refine (spec_PowerSum.calls kj88 t375 t376 t377 t380 t381 _ A98.out).mono ?_); rintro e w' ⟨rfl, ⟨nd, rfl⟩⟩; refine ⟨_, rfl, ?_⟩))
                    (try simp only [Act.put, List.setIfInBounds_toArray, List.set_cons_zero, List.set_cons_succ])
                    go_cut [353] (fun v353 wc => ∃ (kq : Nat) (x353_98 : Bool), v353 = .bool x353_98 ∧ Aside0 (laws_FnPowerRunsEnd.j6 kq t375 t376 t377 t378 t379 x353_98 = some r) ∧ Aside0 (kq ≤ kj88) ∧ Aside0 (Below w.heap.size w wc))
                    case first =>
                      as_aux_lemma =>
                      have H := HC99.out
                      clear HC99
                      by_cases c102 : (t379 != t381) = true
                      · rw [if_pos c102] at H
                        have c102b0 : (t379 != t381) = true := c102
                        (try (have c102b1 : decide (t379 = t381) = false := by simpa using c102))
                        (try (have c102b2 : (t379 == t381) = false := by simpa using c102))
                        (try (have c102b3 : ¬ (t379 = t381) := by simpa using c102))
                        clear c102
                        (first | rw [c102b0] | (simp only [i64_w, i32_w]; rw [c102b0]) | skip)
                        exact (laws_FnPowerRunsEnd.j6_no HR_.out _ _ _ _ _ _ H).elim
                      · rw [if_neg c102] at H
                        have c102b0 : (t379 != t381) = false := by simpa using c102
                        (try (have c102b1 : decide (t379 = t381) = true := by simpa using c102))
                        (try (have c102b2 : (t379 == t381) = true := by simpa using c102))
                        clear c102
                        (first | rw [c102b0] | (simp only [i64_w, i32_w]; rw [c102b0]) | skip)
                        as_aux_lemma =>
                          have H' := Aside0.mk H
                          clear H
                          go_wp2
                          go_meet
                          case rel => exact ⟨_, ((t378 != t380)), (by first | rfl | (simp; done) | (simp [*]; done)), H', ⟨by have := HJ11.out; have := HJ31.out; have := HJ88.out; first | omega | exact Nat.le_refl _⟩, ⟨by repeat (first | (with_reducible first | exact HB.out | apply below_alloc | apply pw_below_drewN | apply below_drew1) | exact HB.out)⟩⟩
                    case rest =>
                      as_aux_lemma =>
                      clear HC99
                      try clear c1
                      try clear c2
                      try clear p2
                      try clear c3
                      try clear p3
                      try clear q3
                      try clear hx3
                      try clear qi3
                      try clear c4
                      try clear q4
                      try clear c5
                      try clear c6
                      try clear p6
                      try clear c7
                      try clear c9
                      try clear c10
                      try clear c11
                      try clear c12
                      try clear c15
                      try clear c20
                      try clear c20b0
                      try clear c20b1
                      try clear c20b2
                      try clear c22
                      try clear c23
                      try clear c23b0
                      try clear c23b1
                      try clear c23b2
                      try clear c24
                      try clear c24b0
                      try clear c24b1
                      try clear c25
                      try clear c25b0
                      try clear c25b1
                      try clear c26
                      try clear c26b0
                      try clear c26b1
                      try clear c26b2
                      try clear c27
                      try clear c27b0
                      try clear c27b1
                      try clear c28
                      try clear c28b0
                      try clear c28b1
                      try clear c28b2
                      try clear c31
                      try clear c33
                      try clear p34
                      try clear q34
                      try clear hx34
                      try clear qi34
                      try clear c35
                      try clear c35b0
                      try clear c35b1
                      try clear p35
                      try clear q35
                      try clear hx35
                      try clear c36
                      try clear c36b0
                      try clear c36b1
                      try clear c37
                      try clear c37b0
                      try clear c37b1
                      try clear c38
                      try clear c38b0
                      try clear c38b1
                      try clear c39
                      try clear c39b0
                      try clear c39b1
                      try clear c42
                      try clear q42
                      try clear c43
                      try clear c45
                      try clear c45b0
                      try clear c46
                      try clear c46b0
                      try clear c47
                      try clear c47b0
                      try clear c49
                      try clear c49b0
                      try clear c50
                      try clear c52
                      try clear c52b0
                      try clear c53
                      try clear c53b0
                      try clear c53b1
                      try clear c54
                      try clear c54b0
                      try clear c55
                      try clear c55b0
                      try clear c58
                      try clear c59
                      try clear c59b0
                      try clear c60
                      try clear c60b0
                      try clear c61
                      try clear c61b0
                      try clear c61b1
                      try clear c62
                      try clear c62b0
                      try clear c63
                      try clear c63b0
                      try clear p64
                      try clear c68
                      try clear c69
                      try clear c69b0
                      try clear c70
                      try clear c70b0
                      try clear c71
                      try clear c71b0
                      try clear c72
                      try clear c74
                      try clear c77
                      try clear c78
                      try clear c79
                      try clear c79b0
                      try clear c79b1
                      try clear c91
                      try clear c91b0
                      try clear c91b1
                      try clear c91b2
                      try clear c92
                      try clear c92b0
                      try clear c92b1
                      try clear c93
                      try clear c93b0
                      try clear c93b1
                      try clear c93b2
                      try clear c94
                      try clear c94b0
                      try clear c94b1
                      try clear c95
                      try clear c102
                      try clear c102b0
                      try clear c102b1
                      try clear c102b2
                      try clear hx345_0
                      try clear hx351_0
                      try clear hx354_0
                      try clear hx355_0
                      try clear hx358_0
                      try clear p2
                      try clear p3
                      try clear p34
                      try clear p345
                      try clear p35
                      try clear p351
                      try clear p354
                      try clear p355
                      try clear p358
                      try clear p6
                      try clear p64
                      try clear q042
                      try clear q3
                      try clear q34
                      try clear q345
                      try clear q35
                      try clear q351
                      try clear q354
                      try clear q355
                      try clear q358
                      try clear q4
                      try clear q42
                      obtain ⟨kq, x353_98, rfl, HA, HJ98, HB⟩ := hcut
                      cases kq with
                      | zero => exact absurd HA.out (by simp [laws_FnPowerRunsEnd.j6])
                      | succ kj98 =>
                        have H := HA.out
                        clear HA
                        simp only [laws_FnPowerRunsEnd.j6] at H
                        by_cases c103 : x353_98 = true
                        · subst c103
                          have H1 : (some false) = some r := by rw [if_pos rfl] at H; exact H
                          clear H
                          have H := H1
                          clear H1
                          exact absurd (Option.some.inj H) (by rw [HR_.out]; decide)
                        · replace c103 := Bool.eq_false_iff.mpr c103
                          subst c103
                          have H1 : (if t379 = true then ((impl_FallsFrom.f kj98 t376 t377).bind fun bt382 => ((impl_CountDigits.f kj98 t375 t376).bind fun bt384 => ((impl_GreatestSum.f kj98 t376 t377).bind fun bt386 => (if bt382.2 = true then (if bt384.2 = true then (if bt386.2 = true then (if bt384.1 < bt382.1 then (if bt384.1 ≥ bt382.1 then (some true) else (some (decide (t378 ≤ bt386.1)))) else (if t378 < t375 then (if bt384.1 ≥ bt382.1 then (some true) else (some (decide (t378 ≤ bt386.1)))) else (some false))) else (some false)) else (some false)) else (some false))))) else (some true)) = some r := by rw [if_neg (show ¬ (false = true) by decide)] at H; exact H
                          clear H
                          have H := H1
                          clear H1
                          by_cases c104 : t379 = true
                          · subst c104
                            have H1 : ((impl_FallsFrom.f kj98 t376 t377).bind fun bt382 => ((impl_CountDigits.f kj98 t375 t376).bind fun bt384 => ((impl_GreatestSum.f kj98 t376 t377).bind fun bt386 => (if bt382.2 = true then (if bt384.2 = true then (if bt386.2 = true then (if bt384.1 < bt382.1 then (if bt384.1 ≥ bt382.1 then (some true) else (some (decide (t378 ≤ bt386.1)))) else (if t378 < t375 then (if bt384.1 ≥ bt382.1 then (some true) else (some (decide (t378 ≤ bt386.1)))) else (some false))) else (some false)) else (some false)) else (some false))))) = some r := by rw [if_pos rfl] at H; exact H
                            clear H
                            have H := H1
                            clear H1
                            replace H := Option.bind_eq_some_iff.mp H
                            obtain ⟨⟨t382, t383⟩, A1050, H⟩ := H
                            replace H : ((impl_CountDigits.f kj98 t375 t376).bind fun bt384 => ((impl_GreatestSum.f kj98 t376 t377).bind fun bt386 => (if t383 = true then (if bt384.2 = true then (if bt386.2 = true then (if bt384.1 < t382 then (if bt384.1 ≥ t382 then (some true) else (some (decide (t378 ≤ bt386.1)))) else (if t378 < t375 then (if bt384.1 ≥ t382 then (some true) else (some (decide (t378 ≤ bt386.1)))) else (some false))) else (some false)) else (some false)) else (some false)))) = some r := H
                            have A105 := Aside0.mk A1050
                            clear A1050
                            replace H := Option.bind_eq_some_iff.mp H
                            obtain ⟨⟨t384, t385⟩, A1060, H⟩ := H
                            replace H : ((impl_GreatestSum.f kj98 t376 t377).bind fun bt386 => (if t383 = true then (if t385 = true then (if bt386.2 = true then (if t384 < t382 then (if t384 ≥ t382 then (some true) else (some (decide (t378 ≤ bt386.1)))) else (if t378 < t375 then (if t384 ≥ t382 then (some true) else (some (decide (t378 ≤ bt386.1)))) else (some false))) else (some false)) else (some false)) else (some false))) = some r := H
                            have A106 := Aside0.mk A1060
                            clear A1060
                            replace H := Option.bind_eq_some_iff.mp H
                            obtain ⟨⟨t386, t387⟩, A1070, H⟩ := H
                            replace H : (if t383 = true then (if t385 = true then (if t387 = true then (if t384 < t382 then (if t384 ≥ t382 then (some true) else (some (decide (t378 ≤ t386)))) else (if t378 < t375 then (if t384 ≥ t382 then (some true) else (some (decide (t378 ≤ t386)))) else (some false))) else (some false)) else (some false)) else (some false)) = some r := H
                            have A107 := Aside0.mk A1070
                            clear A1070
                            by_cases c108 : t383 = true
                            · subst c108
                              have H1 : (if t385 = true then (if t387 = true then (if t384 < t382 then (if t384 ≥ t382 then (some true) else (some (decide (t378 ≤ t386)))) else (if t378 < t375 then (if t384 ≥ t382 then (some true) else (some (decide (t378 ≤ t386)))) else (some false))) else (some false)) else (some false)) = some r := by rw [if_pos rfl] at H; exact H
                              clear H
                              have H := H1
                              clear H1
                              by_cases c109 : t385 = true
                              · subst c109
                                have H1 : (if t387 = true then (if t384 < t382 then (if t384 ≥ t382 then (some true) else (some (decide (t378 ≤ t386)))) else (if t378 < t375 then (if t384 ≥ t382 then (some true) else (some (decide (t378 ≤ t386)))) else (some false))) else (some false)) = some r := by rw [if_pos rfl] at H; exact H
                                clear H
                                have H := H1
                                clear H1
                                by_cases c110 : t387 = true
                                · subst c110
                                  have H1 : (if t384 < t382 then (if t384 ≥ t382 then (some true) else (some (decide (t378 ≤ t386)))) else (if t378 < t375 then (if t384 ≥ t382 then (some true) else (some (decide (t378 ≤ t386)))) else (some false))) = some r := by rw [if_pos rfl] at H; exact H
                                  clear H
                                  have H := H1
                                  clear H1
                                  by_cases c111 : t384 < t382
                                  · rw [if_pos c111] at H
                                    have c111b0 : decide (t384 < t382) = true := decide_eq_true c111
                                    clear c111
                                    by_cases c112 : t384 ≥ t382
                                    · rw [if_pos c112] at H
                                      have c112b0 : decide (t382 ≤ t384) = true := decide_eq_true c112
                                      clear c112
                                      as_aux_lemma =>
                                        obtain rfl := Option.some.inj H
                                        go_wp2_with (first | ((with_reducible refine gate_callee (f := 125) rfl ?_); refine goesL_ (some 358) rfl rfl Try.func125 (by kernel_rfl) rfl #[.int .i64 t376, .int .i64 t377] rfl (by (try simp only [List.map_toArray, List.map_cons, List.map_nil]); first | done | rfl | (simp only [List.length_drop, List.length_take]; rfl)) ?_; (with_reducible refine (impl_FallsFrom.calls kj98 t376 t377 t382 true _ A105.out).mono ?_); rintro e w' ⟨rfl, ⟨nd, rfl⟩⟩; refine ⟨_, rfl, ?_⟩) | ((with_reducible refine gate_callee (f := 86) rfl ?_); refine goesL_ (some 364) rfl rfl Try.func86 (by kernel_rfl) rfl #[.int .i64 t375, .int .i64 t376] rfl (by (try simp only [List.map_toArray, List.map_cons, List.map_nil]); first | done | rfl | (simp only [List.length_drop, List.length_take]; rfl)) ?_; (with_reducible refine (impl_CountDigits.calls kj98 t375 t376 t384 true _ A106.out).mono ?_); rintro e w113 ⟨rfl, hb⟩; refine ⟨_, rfl, ?_⟩; have n0_ := Aside0.mk (below_step (by repeat (first | (with_reducible first | exact HB.out | apply below_alloc | apply pw_below_drewN | apply below_drew1) | exact HB.out)) hb); clear HB; have HB := n0_; clear n0_; (try clear hb); (try clear hb2); (try clear hk); (try clear hi)) | ((with_reducible refine gate_callee (f := 122) rfl ?_); refine goesL_ (some 370) rfl rfl Try.func122 (by kernel_rfl) rfl #[.int .i64 t376, .int .i64 t377] rfl (by (try simp only [List.map_toArray, List.map_cons, List.map_nil]); first | done | rfl | (simp only [List.length_drop, List.length_take]; rfl)) ?_; (with_reducible refine (impl_GreatestSum.calls kj98 t376 t377 t386 true _ A107.out).mono ?_); rintro e w' ⟨rfl, ⟨nd, rfl⟩⟩; refine ⟨_, rfl, ?_⟩))
                                        go_ret
                                        exact ⟨by first | rfl | (simp [errW_none, errW_some] <;> rfl) | (simp [*, errW_none, errW_some] <;> rfl), by repeat (first | (with_reducible first | exact HB.out | apply below_alloc | apply pw_below_drewN | apply below_drew1) | exact HB.out)⟩
                                    · rw [if_neg c112] at H
                                      have c112b0 : decide (t382 ≤ t384) = false := decide_eq_false c112
                                      clear c112
                                      as_aux_lemma =>
                                        obtain rfl := Option.some.inj H
                                        go_wp2_with (first | ((with_reducible refine gate_callee (f := 125) rfl ?_); refine goesL_ (some 358) rfl rfl Try.func125 (by kernel_rfl) rfl #[.int .i64 t376, .int .i64 t377] rfl (by (try simp only [List.map_toArray, List.map_cons, List.map_nil]); first | done | rfl | (simp only [List.length_drop, List.length_take]; rfl)) ?_; (with_reducible refine (impl_FallsFrom.calls kj98 t376 t377 t382 true _ A105.out).mono ?_); rintro e w' ⟨rfl, ⟨nd, rfl⟩⟩; refine ⟨_, rfl, ?_⟩) | ((with_reducible refine gate_callee (f := 86) rfl ?_); refine goesL_ (some 364) rfl rfl Try.func86 (by kernel_rfl) rfl #[.int .i64 t375, .int .i64 t376] rfl (by (try simp only [List.map_toArray, List.map_cons, List.map_nil]); first | done | rfl | (simp only [List.length_drop, List.length_take]; rfl)) ?_; (with_reducible refine (impl_CountDigits.calls kj98 t375 t376 t384 true _ A106.out).mono ?_); rintro e w114 ⟨rfl, hb⟩; refine ⟨_, rfl, ?_⟩; have n0_ := Aside0.mk (below_step (by repeat (first | (with_reducible first | exact HB.out | apply below_alloc | apply pw_below_drewN | apply below_drew1) | exact HB.out)) hb); clear HB; have HB := n0_; clear n0_; (try clear hb); (try clear hb2); (try clear hk); (try clear hi)) | ((with_reducible refine gate_callee (f := 122) rfl ?_); refine goesL_ (some 370) rfl rfl Try.func122 (by kernel_rfl) rfl #[.int .i64 t376, .int .i64 t377] rfl (by (try simp only [List.map_toArray, List.map_cons, List.map_nil]); first | done | rfl | (simp only [List.length_drop, List.length_take]; rfl)) ?_; (with_reducible refine (impl_GreatestSum.calls kj98 t376 t377 t386 true _ A107.out).mono ?_); rintro e w' ⟨rfl, ⟨nd, rfl⟩⟩; refine ⟨_, rfl, ?_⟩))
                                        go_ret
                                        exact ⟨by first | rfl | (simp [errW_none, errW_some] <;> rfl) | (simp [*, errW_none, errW_some] <;> rfl), by repeat (first | (with_reducible first | exact HB.out | apply below_alloc | apply pw_below_drewN | apply below_drew1) | exact HB.out)⟩
                                  · rw [if_neg c111] at H
                                    have c111b0 : decide (t384 < t382) = false := decide_eq_false c111
                                    clear c111
                                    by_cases c115 : t378 < t375
                                    · rw [if_pos c115] at H
                                      have c115b0 : decide (t378 < t375) = true := decide_eq_true c115
                                      clear c115
                                      by_cases c116 : t384 ≥ t382
                                      · rw [if_pos c116] at H
                                        have c116b0 : decide (t382 ≤ t384) = true := decide_eq_true c116
                                        clear c116
                                        as_aux_lemma =>
                                          obtain rfl := Option.some.inj H
                                          go_wp2_with (first | ((with_reducible refine gate_callee (f := 125) rfl ?_); refine goesL_ (some 358) rfl rfl Try.func125 (by kernel_rfl) rfl #[.int .i64 t376, .int .i64 t377] rfl (by (try simp only [List.map_toArray, List.map_cons, List.map_nil]); first | done | rfl | (simp only [List.length_drop, List.length_take]; rfl)) ?_; (with_reducible refine (impl_FallsFrom.calls kj98 t376 t377 t382 true _ A105.out).mono ?_); rintro e w' ⟨rfl, ⟨nd, rfl⟩⟩; refine ⟨_, rfl, ?_⟩) | ((with_reducible refine gate_callee (f := 86) rfl ?_); refine goesL_ (some 364) rfl rfl Try.func86 (by kernel_rfl) rfl #[.int .i64 t375, .int .i64 t376] rfl (by (try simp only [List.map_toArray, List.map_cons, List.map_nil]); first | done | rfl | (simp only [List.length_drop, List.length_take]; rfl)) ?_; (with_reducible refine (impl_CountDigits.calls kj98 t375 t376 t384 true _ A106.out).mono ?_); rintro e w117 ⟨rfl, hb⟩; refine ⟨_, rfl, ?_⟩; have n0_ := Aside0.mk (below_step (by repeat (first | (with_reducible first | exact HB.out | apply below_alloc | apply pw_below_drewN | apply below_drew1) | exact HB.out)) hb); clear HB; have HB := n0_; clear n0_; (try clear hb); (try clear hb2); (try clear hk); (try clear hi)) | ((with_reducible refine gate_callee (f := 122) rfl ?_); refine goesL_ (some 370) rfl rfl Try.func122 (by kernel_rfl) rfl #[.int .i64 t376, .int .i64 t377] rfl (by (try simp only [List.map_toArray, List.map_cons, List.map_nil]); first | done | rfl | (simp only [List.length_drop, List.length_take]; rfl)) ?_; (with_reducible refine (impl_GreatestSum.calls kj98 t376 t377 t386 true _ A107.out).mono ?_); rintro e w' ⟨rfl, ⟨nd, rfl⟩⟩; refine ⟨_, rfl, ?_⟩))
                                          go_ret
                                          exact ⟨by first | rfl | (simp [errW_none, errW_some] <;> rfl) | (simp [*, errW_none, errW_some] <;> rfl), by repeat (first | (with_reducible first | exact HB.out | apply below_alloc | apply pw_below_drewN | apply below_drew1) | exact HB.out)⟩
                                      · rw [if_neg c116] at H
                                        have c116b0 : decide (t382 ≤ t384) = false := decide_eq_false c116
                                        clear c116
                                        as_aux_lemma =>
                                          obtain rfl := Option.some.inj H
                                          go_wp2_with (first | ((with_reducible refine gate_callee (f := 125) rfl ?_); refine goesL_ (some 358) rfl rfl Try.func125 (by kernel_rfl) rfl #[.int .i64 t376, .int .i64 t377] rfl (by (try simp only [List.map_toArray, List.map_cons, List.map_nil]); first | done | rfl | (simp only [List.length_drop, List.length_take]; rfl)) ?_; (with_reducible refine (impl_FallsFrom.calls kj98 t376 t377 t382 true _ A105.out).mono ?_); rintro e w' ⟨rfl, ⟨nd, rfl⟩⟩; refine ⟨_, rfl, ?_⟩) | ((with_reducible refine gate_callee (f := 86) rfl ?_); refine goesL_ (some 364) rfl rfl Try.func86 (by kernel_rfl) rfl #[.int .i64 t375, .int .i64 t376] rfl (by (try simp only [List.map_toArray, List.map_cons, List.map_nil]); first | done | rfl | (simp only [List.length_drop, List.length_take]; rfl)) ?_; (with_reducible refine (impl_CountDigits.calls kj98 t375 t376 t384 true _ A106.out).mono ?_); rintro e w118 ⟨rfl, hb⟩; refine ⟨_, rfl, ?_⟩; have n0_ := Aside0.mk (below_step (by repeat (first | (with_reducible first | exact HB.out | apply below_alloc | apply pw_below_drewN | apply below_drew1) | exact HB.out)) hb); clear HB; have HB := n0_; clear n0_; (try clear hb); (try clear hb2); (try clear hk); (try clear hi)) | ((with_reducible refine gate_callee (f := 122) rfl ?_); refine goesL_ (some 370) rfl rfl Try.func122 (by kernel_rfl) rfl #[.int .i64 t376, .int .i64 t377] rfl (by (try simp only [List.map_toArray, List.map_cons, List.map_nil]); first | done | rfl | (simp only [List.length_drop, List.length_take]; rfl)) ?_; (with_reducible refine (impl_GreatestSum.calls kj98 t376 t377 t386 true _ A107.out).mono ?_); rintro e w' ⟨rfl, ⟨nd, rfl⟩⟩; refine ⟨_, rfl, ?_⟩))
                                          go_ret
                                          exact ⟨by first | rfl | (simp [errW_none, errW_some] <;> rfl) | (simp [*, errW_none, errW_some] <;> rfl), by repeat (first | (with_reducible first | exact HB.out | apply below_alloc | apply pw_below_drewN | apply below_drew1) | exact HB.out)⟩
                                    · rw [if_neg c115] at H
                                      have c115b0 : decide (t378 < t375) = false := decide_eq_false c115
                                      clear c115
                                      exact absurd (Option.some.inj H) (by rw [HR_.out]; decide)
                                · replace c110 := Bool.eq_false_iff.mpr c110
                                  subst c110
                                  have H1 : (some false) = some r := by rw [if_neg (show ¬ (false = true) by decide)] at H; exact H
                                  clear H
                                  have H := H1
                                  clear H1
                                  exact absurd (Option.some.inj H) (by rw [HR_.out]; decide)
                              · replace c109 := Bool.eq_false_iff.mpr c109
                                subst c109
                                have H1 : (some false) = some r := by rw [if_neg (show ¬ (false = true) by decide)] at H; exact H
                                clear H
                                have H := H1
                                clear H1
                                exact absurd (Option.some.inj H) (by rw [HR_.out]; decide)
                            · replace c108 := Bool.eq_false_iff.mpr c108
                              subst c108
                              have H1 : (some false) = some r := by rw [if_neg (show ¬ (false = true) by decide)] at H; exact H
                              clear H
                              have H := H1
                              clear H1
                              exact absurd (Option.some.inj H) (by rw [HR_.out]; decide)
                          · replace c104 := Bool.eq_false_iff.mpr c104
                            subst c104
                            have H1 : (some true) = some r := by rw [if_neg (show ¬ (false = true) by decide)] at H; exact H
                            clear H
                            have H := H1
                            clear H1
                            as_aux_lemma =>
                              obtain rfl := Option.some.inj H
                              go_wp2
                              go_ret
                              exact ⟨by first | rfl | (simp [errW_none, errW_some] <;> rfl) | (simp [*, errW_none, errW_some] <;> rfl), by repeat (first | (with_reducible first | exact HB.out | apply below_alloc | apply pw_below_drewN | apply below_drew1) | exact HB.out)⟩

/-- THE ONE PURE STATEMENT of laws_FnPowerRunsEnd: yours. -/
def laws_FnPowerRunsEnd.Pure : Prop := ∀ (l0 : List Int) (l1 : List Int), l0.length ≤ maxLen → l0.length * 1 ≤ 140737488351232 → (∀ x ∈ l0, (Lit.int .u8 x).wf = true) → l1.length ≤ maxLen → l1.length * 1 ≤ 140737488351232 → (∀ x ∈ l1, (Lit.int .u8 x).wf = true) → ∃ k, laws_FnPowerRunsEnd.f k l0 l1 = some true
theorem laws_FnPowerRunsEnd.walk (P : laws_FnPowerRunsEnd.Pure) (a0 : Option Addr) (len0 cap0 : Nat) (z0 : List Int) (a1 : Option Addr) (len1 cap1 : Nat) (z1 : List Int) (w : World) (w0 : (a0 = none ∧ len0 = 0 ∧ cap0 = 0 ∧ z0 = []) ∨ ∃ x, a0 = some x ∧ len0 ≤ cap0 ∧ cap0 ≤ maxLen ∧ z0.length = cap0 ∧ (∀ i, i < z0.length → w.cell? (x.add i) = some (.int .u8 (z0.getD i 0))) ∧ ∀ n ∈ z0, (Lit.int .u8 n).wf = true) (y0 : len0 * 1 ≤ 140737488351232) (w1 : (a1 = none ∧ len1 = 0 ∧ cap1 = 0 ∧ z1 = []) ∨ ∃ x, a1 = some x ∧ len1 ≤ cap1 ∧ cap1 ≤ maxLen ∧ z1.length = cap1 ∧ (∀ i, i < z1.length → w.cell? (x.add i) = some (.int .u8 (z1.getD i 0))) ∧ ∀ n ∈ z1, (Lit.int .u8 n).wf = true) (y1 : len1 * 1 ≤ 140737488351232) :
    Calls Try.prog 10 #[.slice a0 len0 cap0, .slice a1 len1 cap1] w fun e w' => e = .returned (.bool true) ∧ Below w.heap.size w w' := by
  obtain ⟨l0, rfl, hr0, hm0, hw0, hc0⟩ := ReadsInt.ofRowC w0
  obtain ⟨l1, rfl, hr1, hm1, hw1, hc1⟩ := ReadsInt.ofRowC w1
  obtain ⟨k, h⟩ := P l0 l1 hm0 y0 hw0 hm1 y1 hw1
  refine (laws_FnPowerRunsEnd.calls k _ _ l0 _ _ l1 true w (Kd.C_of_reads (d := (0 : Int)) (h1 := fun _ => rfl) hr0) hc0 (Kd.C_of_reads (d := (0 : Int)) (h1 := fun _ => rfl) hr1) hc1 h rfl).mono ?_
  rintro e w' ⟨rfl, hd⟩
  exact ⟨rfl, hd⟩

end Go.Proofs.Ytiheocddlopfcaa.PFnPowerRunsEnd
