-- out of the kit's print, turned by wip/own_print.py
import Derived.Test.YtikkpehjleoplaaPFnPeriodsOfFractionsx0
import Derived.Test.YtikkpehjleoplaaPFnPeriodsOfFractionsx1
import Derived.Test.YtikkpehjleoplaaPFnPeriodsOfFractionsx2
import Derived.Test.YtikkpehjleoplaaPFnPeriodsOfFractionsx3
import Derived.Test.YtikkpehjleoplaaPFnPeriodsOfFractionsx4
namespace Go.Proofs.Ytikkpehjleoplaa.PFnPeriodsOfFractions
open Go.RowKit Go.Proofs.YtikkpehjleoplaaW.PrintWords Go.Proofs.YtikkpehjleoplaaW.PrintLast Go.Proofs.YtikkpehjleoplaaW.PrintMore
attribute [local go_sem] max2_int min2_int max_two min_two max_three min_three max_four min_four   -- for this text's walks alone
set_option linter.unusedVariables false
set_option linter.unusedSimpArgs false

/-! ### laws_FnPeriodsOfFractions: function 8 -/
mutual
def laws_FnPeriodsOfFractions.j0 : Nat → List Int → Int → Int → Int → Int → Int → Bool → List Int → Bool → Bool → Option (Bool)
  | 0, _, _, _, _, _, _, _, _, _, _ => none
  | k + 1, x1, x5, x6, x7, x8, x9, x10, x14, x15, x111 => if x111 = true then (some false) else (if x10 = true then ((impl_OrderOf.f k x6 x7).bind fun bt274 => ((laws_qGcd.f k x6 x7).bind fun t276 => (if (bt274.2 != (t276 == 1)) = true then (laws_FnPeriodsOfFractions.j1 k x1 x5 x6 x7 x8 x9 x14 x15 true) else (if bt274.2 = true then ((laws_qGcd.f k x5 x6).bind fun t277 => (if t277 = 1 then (if x8 = 0 then (if x9 = bt274.1 then (laws_FnPeriodsOfFractions.j1 k x1 x5 x6 x7 x8 x9 x14 x15 (decide (bt274.1 > x6))) else (laws_FnPeriodsOfFractions.j1 k x1 x5 x6 x7 x8 x9 x14 x15 true)) else (laws_FnPeriodsOfFractions.j1 k x1 x5 x6 x7 x8 x9 x14 x15 true)) else (laws_FnPeriodsOfFractions.j1 k x1 x5 x6 x7 x8 x9 x14 x15 (decide (bt274.1 > x6))))) else (laws_FnPeriodsOfFractions.j1 k x1 x5 x6 x7 x8 x9 x14 x15 false))))) else (laws_FnPeriodsOfFractions.j4 k x1))
def laws_FnPeriodsOfFractions.j4 : Nat → List Int → Option (Bool)
  | 0, _ => none
  | k + 1, x1 => (spec_DrawOrderOf.f x1).bind fun bt287 => ((impl_OrderOf.f k bt287.1 bt287.2).bind fun bt289 => ((spec_OrderOf.f k bt287.1 bt287.2).bind fun bt291 => (if (bt289.2 != bt291.2) = true then (laws_FnPeriodsOfFractions.j5 k x1 bt287.1 bt287.2 bt289.1 bt289.2 true) else (laws_FnPeriodsOfFractions.j5 k x1 bt287.1 bt287.2 bt289.1 bt289.2 (bt289.1 != bt291.1)))))
def laws_FnPeriodsOfFractions.j5 : Nat → List Int → Int → Int → Int → Bool → Bool → Option (Bool)
  | 0, _, _, _, _, _, _ => none
  | k + 1, x1, x26, x27, x28, x29, x257 => if x257 = true then (some false) else (if x29 = true then (if x26 = 0 then (none) else (laws_FnPeriodsOfFractions.l2 k x1 x26 x27 x28 ((1 : Int) % x26) 1)) else (laws_FnPeriodsOfFractions.j7 k x1))
def laws_FnPeriodsOfFractions.j7 : Nat → List Int → Option (Bool)
  | 0, _ => none
  | k + 1, x1 => (spec_DrawFractionDigits.f x1).bind fun bt293 => ((impl_FractionDigits.f k bt293.1 bt293.2.1 bt293.2.2.1 bt293.2.2.2).bind fun bt297 => ((spec_FractionDigits.f k bt293.1 bt293.2.1 bt293.2.2.1 bt293.2.2.2).bind fun bt301 => (if (bt297.2 == bt301.2) = true then ((laws_qSame.f k bt297.1 bt301.1).bind fun t305 => (some t305)) else (some false))))
def laws_FnPeriodsOfFractions.l2 : Nat → List Int → Int → Int → Int → Int → Int → Option (Bool)
  | 0, _, _, _, _, _, _ => none
  | k + 1, x1, x26, x27, x28, x32, x33 => if x33 ≤ x28 then (if x26 = 0 then (none) else (if (((Int.tmod (wrap64 (x32 * (Int.tmod x27 x26))) x26) == ((1 : Int) % x26)) != (x33 == x28)) = true then (some false) else (laws_FnPeriodsOfFractions.l2 k x1 x26 x27 x28 (Int.tmod (wrap64 (x32 * (Int.tmod x27 x26))) x26) (wrap64 (x33 + 1))))) else (laws_FnPeriodsOfFractions.j7 k x1)
def laws_FnPeriodsOfFractions.j1 : Nat → List Int → Int → Int → Int → Int → Int → List Int → Bool → Bool → Option (Bool)
  | 0, _, _, _, _, _, _, _, _, _ => none
  | k + 1, x1, x5, x6, x7, x8, x9, x14, x15, x150 => if x150 = true then (some false) else (if (wrap64 (x8 + (wrap64 (2 * x9)))) ≤ 200 then ((impl_FractionDigits.f k x5 x6 x7 (wrap64 (x8 + (wrap64 (2 * x9))))).bind fun bt278 => (if bt278.2 = true then (laws_FnPeriodsOfFractions.l0 k x1 x5 x6 x7 x8 x9 x14 x15 bt278.1 x8) else (some false))) else (laws_FnPeriodsOfFractions.j4 k x1))
def laws_FnPeriodsOfFractions.l0 : Nat → List Int → Int → Int → Int → Int → Int → List Int → Bool → List Int → Int → Option (Bool)
  | 0, _, _, _, _, _, _, _, _, _, _ => none
  | k + 1, x1, x5, x6, x7, x8, x9, x14, x15, x20, x22 => if x22 < (wrap64 (x8 + x9)) then (if 0 ≤ x22 then (if x22 < (x20.length : Int) then (if 0 ≤ (wrap64 (x22 + x9)) then (if (wrap64 (x22 + x9)) < (x20.length : Int) then (if (rd x20 x22) = (rd x20 (wrap64 (x22 + x9))) then (if x15 = true then (if 0 ≤ (wrap64 (x22 - x8)) then (if (wrap64 (x22 - x8)) < (x14.length : Int) then (if (rd x20 x22) = (rd x14 (wrap64 (x22 - x8))) then (laws_FnPeriodsOfFractions.l0 k x1 x5 x6 x7 x8 x9 x14 x15 x20 (wrap64 (x22 + 1))) else (some false)) else (none)) else (none)) else (laws_FnPeriodsOfFractions.l0 k x1 x5 x6 x7 x8 x9 x14 x15 x20 (wrap64 (x22 + 1)))) else (some false)) else (none)) else (none)) else (none)) else (none)) else (laws_FnPeriodsOfFractions.l1 k x1 x6 x7 x5 x20 (x20.length : Int) 0)
def laws_FnPeriodsOfFractions.l1 : Nat → List Int → Int → Int → Int → List Int → Int → Int → Option (Bool)
  | 0, _, _, _, _, _, _, _ => none
  | k + 1, x1, x6, x7, x23, x205, x206, x207 => if x207 < x206 then (if 0 ≤ x207 then (if x207 < (x205.length : Int) then (if x6 = 0 then (none) else (if (rd x205 x207) = (wrap64 (Int.tdiv (wrap64 (x23 * x7)) x6)) then (if (rd x205 x207) < 0 then (some false) else (if (rd x205 x207) ≥ x7 then (some false) else (laws_FnPeriodsOfFractions.l1 k x1 x6 x7 (Int.tmod (wrap64 (x23 * x7)) x6) x205 x206 (wrap64 (x207 + 1))))) else (some false))) else (none)) else (none)) else (laws_FnPeriodsOfFractions.j4 k x1)
end
def laws_FnPeriodsOfFractions.f (k : Nat) (l0 : List Int) (l1 : List Int) : Option (Bool) := (laws_big.f l0 l1).bind fun t255 => (if t255 = true then (some true) else ((spec_DrawPeriodOf.f l0).bind fun bt256 => ((impl_PeriodOf.f k bt256.1 bt256.2.1 bt256.2.2).bind fun bt259 => ((spec_PeriodOf.f k bt256.1 bt256.2.1 bt256.2.2).bind fun bt262 => ((impl_RepetendOf.f k bt256.1 bt256.2.1 bt256.2.2).bind fun bt265 => ((spec_RepetendOf.f k bt256.1 bt256.2.1 bt256.2.2).bind fun bt269 => (if (bt259.2.2 != bt262.2.2) = true then (laws_FnPeriodsOfFractions.j0 k l1 bt256.1 bt256.2.1 bt256.2.2 bt259.1 bt259.2.1 bt259.2.2 bt265.1 bt265.2 true) else (if bt259.1 = bt262.1 then (if bt259.2.1 = bt262.2.1 then (if (bt265.2 != bt269.2) = true then (laws_FnPeriodsOfFractions.j0 k l1 bt256.1 bt256.2.1 bt256.2.2 bt259.1 bt259.2.1 bt259.2.2 bt265.1 bt265.2 true) else ((laws_qSame.f k bt265.1 bt269.1).bind fun t273 => (if t273 = true then (if bt265.2 = true then (laws_FnPeriodsOfFractions.j0 k l1 bt256.1 bt256.2.1 bt256.2.2 bt259.1 bt259.2.1 bt259.2.2 bt265.1 bt265.2 (!bt259.2.2)) else (laws_FnPeriodsOfFractions.j0 k l1 bt256.1 bt256.2.1 bt256.2.2 bt259.1 bt259.2.1 bt259.2.2 bt265.1 bt265.2 false)) else (laws_FnPeriodsOfFractions.j0 k l1 bt256.1 bt256.2.1 bt256.2.2 bt259.1 bt259.2.1 bt259.2.2 bt265.1 bt265.2 true)))) else (laws_FnPeriodsOfFractions.j0 k l1 bt256.1 bt256.2.1 bt256.2.2 bt259.1 bt259.2.1 bt259.2.2 bt265.1 bt265.2 true)) else (laws_FnPeriodsOfFractions.j0 k l1 bt256.1 bt256.2.1 bt256.2.2 bt259.1 bt259.2.1 bt259.2.2 bt265.1 bt265.2 true)))))))))
theorem laws_FnPeriodsOfFractions.mono_l : ∀ k, (∀ y0 y1 y2 y3 y4 y5 y6 y7 y8 y9, LeO (laws_FnPeriodsOfFractions.j0 k y0 y1 y2 y3 y4 y5 y6 y7 y8 y9) (laws_FnPeriodsOfFractions.j0 (k + 1) y0 y1 y2 y3 y4 y5 y6 y7 y8 y9)) ∧ (∀ y0, LeO (laws_FnPeriodsOfFractions.j4 k y0) (laws_FnPeriodsOfFractions.j4 (k + 1) y0)) ∧ (∀ y0 y1 y2 y3 y4 y5, LeO (laws_FnPeriodsOfFractions.j5 k y0 y1 y2 y3 y4 y5) (laws_FnPeriodsOfFractions.j5 (k + 1) y0 y1 y2 y3 y4 y5)) ∧ (∀ y0, LeO (laws_FnPeriodsOfFractions.j7 k y0) (laws_FnPeriodsOfFractions.j7 (k + 1) y0)) ∧ (∀ y0 y1 y2 y3 y4 y5, LeO (laws_FnPeriodsOfFractions.l2 k y0 y1 y2 y3 y4 y5) (laws_FnPeriodsOfFractions.l2 (k + 1) y0 y1 y2 y3 y4 y5)) ∧ (∀ y0 y1 y2 y3 y4 y5 y6 y7 y8, LeO (laws_FnPeriodsOfFractions.j1 k y0 y1 y2 y3 y4 y5 y6 y7 y8) (laws_FnPeriodsOfFractions.j1 (k + 1) y0 y1 y2 y3 y4 y5 y6 y7 y8)) ∧ (∀ y0 y1 y2 y3 y4 y5 y6 y7 y8 y9, LeO (laws_FnPeriodsOfFractions.l0 k y0 y1 y2 y3 y4 y5 y6 y7 y8 y9) (laws_FnPeriodsOfFractions.l0 (k + 1) y0 y1 y2 y3 y4 y5 y6 y7 y8 y9)) ∧ (∀ y0 y1 y2 y3 y4 y5 y6, LeO (laws_FnPeriodsOfFractions.l1 k y0 y1 y2 y3 y4 y5 y6) (laws_FnPeriodsOfFractions.l1 (k + 1) y0 y1 y2 y3 y4 y5 y6))
  | 0 => ⟨fun _ _ _ _ _ _ _ _ _ _ r h => by simp [laws_FnPeriodsOfFractions.j0] at h, fun _ r h => by simp [laws_FnPeriodsOfFractions.j4] at h, fun _ _ _ _ _ _ r h => by simp [laws_FnPeriodsOfFractions.j5] at h, fun _ r h => by simp [laws_FnPeriodsOfFractions.j7] at h, fun _ _ _ _ _ _ r h => by simp [laws_FnPeriodsOfFractions.l2] at h, fun _ _ _ _ _ _ _ _ _ r h => by simp [laws_FnPeriodsOfFractions.j1] at h, fun _ _ _ _ _ _ _ _ _ _ r h => by simp [laws_FnPeriodsOfFractions.l0] at h, fun _ _ _ _ _ _ _ r h => by simp [laws_FnPeriodsOfFractions.l1] at h⟩
  | k + 1 => by
    obtain ⟨ih0, ih1, ih2, ih3, ih4, ih5, ih6, ih7⟩ := laws_FnPeriodsOfFractions.mono_l k
    refine ⟨?_, ?_, ?_, ?_, ?_, ?_, ?_, ?_⟩
    · intro y0 y1 y2 y3 y4 y5 y6 y7 y8 y9
      unfold laws_FnPeriodsOfFractions.j0
      repeat' first
      | (with_reducible exact ih0 _ _ _ _ _ _ _ _ _ _)
      | (with_reducible exact ih1 _)
      | (with_reducible exact ih2 _ _ _ _ _ _)
      | (with_reducible exact ih3 _)
      | (with_reducible exact ih4 _ _ _ _ _ _)
      | (with_reducible exact ih5 _ _ _ _ _ _ _ _ _)
      | (with_reducible exact ih6 _ _ _ _ _ _ _ _ _ _)
      | (with_reducible exact ih7 _ _ _ _ _ _ _)
      | (with_reducible exact impl_FractionDigits.mono _ _ _ _ _)
      | (with_reducible exact impl_OrderOf.mono _ _ _)
      | (with_reducible exact impl_PeriodOf.mono _ _ _ _)
      | (with_reducible exact impl_RepetendOf.mono _ _ _ _)
      | (with_reducible exact laws_qGcd.mono _ _ _)
      | (with_reducible exact laws_qSame.mono _ _ _)
      | (with_reducible exact spec_FractionDigits.mono _ _ _ _ _)
      | (with_reducible exact spec_OrderOf.mono _ _ _)
      | (with_reducible exact spec_PeriodOf.mono _ _ _ _)
      | (with_reducible exact spec_RepetendOf.mono _ _ _ _)
      | (with_reducible exact LeO.refl _)
      | (with_reducible exact LeO.none _)
      | (with_reducible refine LeO.ite ?_ ?_)
      | (with_reducible refine LeO.bind ?_ (fun _ => ?_))
      | exact ih0 _ _ _ _ _ _ _ _ _ _
      | exact ih1 _
      | exact ih2 _ _ _ _ _ _
      | exact ih3 _
      | exact ih4 _ _ _ _ _ _
      | exact ih5 _ _ _ _ _ _ _ _ _
      | exact ih6 _ _ _ _ _ _ _ _ _ _
      | exact ih7 _ _ _ _ _ _ _
      | exact impl_FractionDigits.mono _ _ _ _ _
      | exact impl_OrderOf.mono _ _ _
      | exact impl_PeriodOf.mono _ _ _ _
      | exact impl_RepetendOf.mono _ _ _ _
      | exact laws_qGcd.mono _ _ _
      | exact laws_qSame.mono _ _ _
      | exact spec_FractionDigits.mono _ _ _ _ _
      | exact spec_OrderOf.mono _ _ _
      | exact spec_PeriodOf.mono _ _ _ _
      | exact spec_RepetendOf.mono _ _ _ _
      | exact LeO.none _
      | refine LeO.ite ?_ ?_
      | refine LeO.bind ?_ (fun _ => ?_)
    · intro y0
      unfold laws_FnPeriodsOfFractions.j4
      repeat' first
      | (with_reducible exact ih0 _ _ _ _ _ _ _ _ _ _)
      | (with_reducible exact ih1 _)
      | (with_reducible exact ih2 _ _ _ _ _ _)
      | (with_reducible exact ih3 _)
      | (with_reducible exact ih4 _ _ _ _ _ _)
      | (with_reducible exact ih5 _ _ _ _ _ _ _ _ _)
      | (with_reducible exact ih6 _ _ _ _ _ _ _ _ _ _)
      | (with_reducible exact ih7 _ _ _ _ _ _ _)
      | (with_reducible exact impl_FractionDigits.mono _ _ _ _ _)
      | (with_reducible exact impl_OrderOf.mono _ _ _)
      | (with_reducible exact impl_PeriodOf.mono _ _ _ _)
      | (with_reducible exact impl_RepetendOf.mono _ _ _ _)
      | (with_reducible exact laws_qGcd.mono _ _ _)
      | (with_reducible exact laws_qSame.mono _ _ _)
      | (with_reducible exact spec_FractionDigits.mono _ _ _ _ _)
      | (with_reducible exact spec_OrderOf.mono _ _ _)
      | (with_reducible exact spec_PeriodOf.mono _ _ _ _)
      | (with_reducible exact spec_RepetendOf.mono _ _ _ _)
      | (with_reducible exact LeO.refl _)
      | (with_reducible exact LeO.none _)
      | (with_reducible refine LeO.ite ?_ ?_)
      | (with_reducible refine LeO.bind ?_ (fun _ => ?_))
      | exact ih0 _ _ _ _ _ _ _ _ _ _
      | exact ih1 _
      | exact ih2 _ _ _ _ _ _
      | exact ih3 _
      | exact ih4 _ _ _ _ _ _
      | exact ih5 _ _ _ _ _ _ _ _ _
      | exact ih6 _ _ _ _ _ _ _ _ _ _
      | exact ih7 _ _ _ _ _ _ _
      | exact impl_FractionDigits.mono _ _ _ _ _
      | exact impl_OrderOf.mono _ _ _
      | exact impl_PeriodOf.mono _ _ _ _
      | exact impl_RepetendOf.mono _ _ _ _
      | exact laws_qGcd.mono _ _ _
      | exact laws_qSame.mono _ _ _
      | exact spec_FractionDigits.mono _ _ _ _ _
      | exact spec_OrderOf.mono _ _ _
      | exact spec_PeriodOf.mono _ _ _ _
      | exact spec_RepetendOf.mono _ _ _ _
      | exact LeO.none _
      | refine LeO.ite ?_ ?_
      | refine LeO.bind ?_ (fun _ => ?_)
    · intro y0 y1 y2 y3 y4 y5
      unfold laws_FnPeriodsOfFractions.j5
      repeat' first
      | (with_reducible exact ih0 _ _ _ _ _ _ _ _ _ _)
      | (with_reducible exact ih1 _)
      | (with_reducible exact ih2 _ _ _ _ _ _)
      | (with_reducible exact ih3 _)
      | (with_reducible exact ih4 _ _ _ _ _ _)
      | (with_reducible exact ih5 _ _ _ _ _ _ _ _ _)
      | (with_reducible exact ih6 _ _ _ _ _ _ _ _ _ _)
      | (with_reducible exact ih7 _ _ _ _ _ _ _)
      | (with_reducible exact impl_FractionDigits.mono _ _ _ _ _)
      | (with_reducible exact impl_OrderOf.mono _ _ _)
      | (with_reducible exact impl_PeriodOf.mono _ _ _ _)
      | (with_reducible exact impl_RepetendOf.mono _ _ _ _)
      | (with_reducible exact laws_qGcd.mono _ _ _)
      | (with_reducible exact laws_qSame.mono _ _ _)
      | (with_reducible exact spec_FractionDigits.mono _ _ _ _ _)
      | (with_reducible exact spec_OrderOf.mono _ _ _)
      | (with_reducible exact spec_PeriodOf.mono _ _ _ _)
      | (with_reducible exact spec_RepetendOf.mono _ _ _ _)
      | (with_reducible exact LeO.refl _)
      | (with_reducible exact LeO.none _)
      | (with_reducible refine LeO.ite ?_ ?_)
      | (with_reducible refine LeO.bind ?_ (fun _ => ?_))
      | exact ih0 _ _ _ _ _ _ _ _ _ _
      | exact ih1 _
      | exact ih2 _ _ _ _ _ _
      | exact ih3 _
      | exact ih4 _ _ _ _ _ _
      | exact ih5 _ _ _ _ _ _ _ _ _
      | exact ih6 _ _ _ _ _ _ _ _ _ _
      | exact ih7 _ _ _ _ _ _ _
      | exact impl_FractionDigits.mono _ _ _ _ _
      | exact impl_OrderOf.mono _ _ _
      | exact impl_PeriodOf.mono _ _ _ _
      | exact impl_RepetendOf.mono _ _ _ _
      | exact laws_qGcd.mono _ _ _
      | exact laws_qSame.mono _ _ _
      | exact spec_FractionDigits.mono _ _ _ _ _
      | exact spec_OrderOf.mono _ _ _
      | exact spec_PeriodOf.mono _ _ _ _
      | exact spec_RepetendOf.mono _ _ _ _
      | exact LeO.none _
      | refine LeO.ite ?_ ?_
      | refine LeO.bind ?_ (fun _ => ?_)
    · intro y0
      unfold laws_FnPeriodsOfFractions.j7
      repeat' first
      | (with_reducible exact ih0 _ _ _ _ _ _ _ _ _ _)
      | (with_reducible exact ih1 _)
      | (with_reducible exact ih2 _ _ _ _ _ _)
      | (with_reducible exact ih3 _)
      | (with_reducible exact ih4 _ _ _ _ _ _)
      | (with_reducible exact ih5 _ _ _ _ _ _ _ _ _)
      | (with_reducible exact ih6 _ _ _ _ _ _ _ _ _ _)
      | (with_reducible exact ih7 _ _ _ _ _ _ _)
      | (with_reducible exact impl_FractionDigits.mono _ _ _ _ _)
      | (with_reducible exact impl_OrderOf.mono _ _ _)
      | (with_reducible exact impl_PeriodOf.mono _ _ _ _)
      | (with_reducible exact impl_RepetendOf.mono _ _ _ _)
      | (with_reducible exact laws_qGcd.mono _ _ _)
      | (with_reducible exact laws_qSame.mono _ _ _)
      | (with_reducible exact spec_FractionDigits.mono _ _ _ _ _)
      | (with_reducible exact spec_OrderOf.mono _ _ _)
      | (with_reducible exact spec_PeriodOf.mono _ _ _ _)
      | (with_reducible exact spec_RepetendOf.mono _ _ _ _)
      | (with_reducible exact LeO.refl _)
      | (with_reducible exact LeO.none _)
      | (with_reducible refine LeO.ite ?_ ?_)
      | (with_reducible refine LeO.bind ?_ (fun _ => ?_))
      | exact ih0 _ _ _ _ _ _ _ _ _ _
      | exact ih1 _
      | exact ih2 _ _ _ _ _ _
      | exact ih3 _
      | exact ih4 _ _ _ _ _ _
      | exact ih5 _ _ _ _ _ _ _ _ _
      | exact ih6 _ _ _ _ _ _ _ _ _ _
      | exact ih7 _ _ _ _ _ _ _
      | exact impl_FractionDigits.mono _ _ _ _ _
      | exact impl_OrderOf.mono _ _ _
      | exact impl_PeriodOf.mono _ _ _ _
      | exact impl_RepetendOf.mono _ _ _ _
      | exact laws_qGcd.mono _ _ _
      | exact laws_qSame.mono _ _ _
      | exact spec_FractionDigits.mono _ _ _ _ _
      | exact spec_OrderOf.mono _ _ _
      | exact spec_PeriodOf.mono _ _ _ _
      | exact spec_RepetendOf.mono _ _ _ _
      | exact LeO.none _
      | refine LeO.ite ?_ ?_
      | refine LeO.bind ?_ (fun _ => ?_)
    · intro y0 y1 y2 y3 y4 y5
      unfold laws_FnPeriodsOfFractions.l2
      repeat' first
      | (with_reducible exact ih0 _ _ _ _ _ _ _ _ _ _)
      | (with_reducible exact ih1 _)
      | (with_reducible exact ih2 _ _ _ _ _ _)
      | (with_reducible exact ih3 _)
      | (with_reducible exact ih4 _ _ _ _ _ _)
      | (with_reducible exact ih5 _ _ _ _ _ _ _ _ _)
      | (with_reducible exact ih6 _ _ _ _ _ _ _ _ _ _)
      | (with_reducible exact ih7 _ _ _ _ _ _ _)
      | (with_reducible exact impl_FractionDigits.mono _ _ _ _ _)
      | (with_reducible exact impl_OrderOf.mono _ _ _)
      | (with_reducible exact impl_PeriodOf.mono _ _ _ _)
      | (with_reducible exact impl_RepetendOf.mono _ _ _ _)
      | (with_reducible exact laws_qGcd.mono _ _ _)
      | (with_reducible exact laws_qSame.mono _ _ _)
      | (with_reducible exact spec_FractionDigits.mono _ _ _ _ _)
      | (with_reducible exact spec_OrderOf.mono _ _ _)
      | (with_reducible exact spec_PeriodOf.mono _ _ _ _)
      | (with_reducible exact spec_RepetendOf.mono _ _ _ _)
      | (with_reducible exact LeO.refl _)
      | (with_reducible exact LeO.none _)
      | (with_reducible refine LeO.ite ?_ ?_)
      | (with_reducible refine LeO.bind ?_ (fun _ => ?_))
      | exact ih0 _ _ _ _ _ _ _ _ _ _
      | exact ih1 _
      | exact ih2 _ _ _ _ _ _
      | exact ih3 _
      | exact ih4 _ _ _ _ _ _
      | exact ih5 _ _ _ _ _ _ _ _ _
      | exact ih6 _ _ _ _ _ _ _ _ _ _
      | exact ih7 _ _ _ _ _ _ _
      | exact impl_FractionDigits.mono _ _ _ _ _
      | exact impl_OrderOf.mono _ _ _
      | exact impl_PeriodOf.mono _ _ _ _
      | exact impl_RepetendOf.mono _ _ _ _
      | exact laws_qGcd.mono _ _ _
      | exact laws_qSame.mono _ _ _
      | exact spec_FractionDigits.mono _ _ _ _ _
      | exact spec_OrderOf.mono _ _ _
      | exact spec_PeriodOf.mono _ _ _ _
      | exact spec_RepetendOf.mono _ _ _ _
      | exact LeO.none _
      | refine LeO.ite ?_ ?_
      | refine LeO.bind ?_ (fun _ => ?_)
    · intro y0 y1 y2 y3 y4 y5 y6 y7 y8
      unfold laws_FnPeriodsOfFractions.j1
      repeat' first
      | (with_reducible exact ih0 _ _ _ _ _ _ _ _ _ _)
      | (with_reducible exact ih1 _)
      | (with_reducible exact ih2 _ _ _ _ _ _)
      | (with_reducible exact ih3 _)
      | (with_reducible exact ih4 _ _ _ _ _ _)
      | (with_reducible exact ih5 _ _ _ _ _ _ _ _ _)
      | (with_reducible exact ih6 _ _ _ _ _ _ _ _ _ _)
      | (with_reducible exact ih7 _ _ _ _ _ _ _)
      | (with_reducible exact impl_FractionDigits.mono _ _ _ _ _)
      | (with_reducible exact impl_OrderOf.mono _ _ _)
      | (with_reducible exact impl_PeriodOf.mono _ _ _ _)
      | (with_reducible exact impl_RepetendOf.mono _ _ _ _)
      | (with_reducible exact laws_qGcd.mono _ _ _)
      | (with_reducible exact laws_qSame.mono _ _ _)
      | (with_reducible exact spec_FractionDigits.mono _ _ _ _ _)
      | (with_reducible exact spec_OrderOf.mono _ _ _)
      | (with_reducible exact spec_PeriodOf.mono _ _ _ _)
      | (with_reducible exact spec_RepetendOf.mono _ _ _ _)
      | (with_reducible exact LeO.refl _)
      | (with_reducible exact LeO.none _)
      | (with_reducible refine LeO.ite ?_ ?_)
      | (with_reducible refine LeO.bind ?_ (fun _ => ?_))
      | exact ih0 _ _ _ _ _ _ _ _ _ _
      | exact ih1 _
      | exact ih2 _ _ _ _ _ _
      | exact ih3 _
      | exact ih4 _ _ _ _ _ _
      | exact ih5 _ _ _ _ _ _ _ _ _
      | exact ih6 _ _ _ _ _ _ _ _ _ _
      | exact ih7 _ _ _ _ _ _ _
      | exact impl_FractionDigits.mono _ _ _ _ _
      | exact impl_OrderOf.mono _ _ _
      | exact impl_PeriodOf.mono _ _ _ _
      | exact impl_RepetendOf.mono _ _ _ _
      | exact laws_qGcd.mono _ _ _
      | exact laws_qSame.mono _ _ _
      | exact spec_FractionDigits.mono _ _ _ _ _
      | exact spec_OrderOf.mono _ _ _
      | exact spec_PeriodOf.mono _ _ _ _
      | exact spec_RepetendOf.mono _ _ _ _
      | exact LeO.none _
      | refine LeO.ite ?_ ?_
      | refine LeO.bind ?_ (fun _ => ?_)
    · intro y0 y1 y2 y3 y4 y5 y6 y7 y8 y9
      unfold laws_FnPeriodsOfFractions.l0
      repeat' first
      | (with_reducible exact ih0 _ _ _ _ _ _ _ _ _ _)
      | (with_reducible exact ih1 _)
      | (with_reducible exact ih2 _ _ _ _ _ _)
      | (with_reducible exact ih3 _)
      | (with_reducible exact ih4 _ _ _ _ _ _)
      | (with_reducible exact ih5 _ _ _ _ _ _ _ _ _)
      | (with_reducible exact ih6 _ _ _ _ _ _ _ _ _ _)
      | (with_reducible exact ih7 _ _ _ _ _ _ _)
      | (with_reducible exact impl_FractionDigits.mono _ _ _ _ _)
      | (with_reducible exact impl_OrderOf.mono _ _ _)
      | (with_reducible exact impl_PeriodOf.mono _ _ _ _)
      | (with_reducible exact impl_RepetendOf.mono _ _ _ _)
      | (with_reducible exact laws_qGcd.mono _ _ _)
      | (with_reducible exact laws_qSame.mono _ _ _)
      | (with_reducible exact spec_FractionDigits.mono _ _ _ _ _)
      | (with_reducible exact spec_OrderOf.mono _ _ _)
      | (with_reducible exact spec_PeriodOf.mono _ _ _ _)
      | (with_reducible exact spec_RepetendOf.mono _ _ _ _)
      | (with_reducible exact LeO.refl _)
      | (with_reducible exact LeO.none _)
      | (with_reducible refine LeO.ite ?_ ?_)
      | (with_reducible refine LeO.bind ?_ (fun _ => ?_))
      | exact ih0 _ _ _ _ _ _ _ _ _ _
      | exact ih1 _
      | exact ih2 _ _ _ _ _ _
      | exact ih3 _
      | exact ih4 _ _ _ _ _ _
      | exact ih5 _ _ _ _ _ _ _ _ _
      | exact ih6 _ _ _ _ _ _ _ _ _ _
      | exact ih7 _ _ _ _ _ _ _
      | exact impl_FractionDigits.mono _ _ _ _ _
      | exact impl_OrderOf.mono _ _ _
      | exact impl_PeriodOf.mono _ _ _ _
      | exact impl_RepetendOf.mono _ _ _ _
      | exact laws_qGcd.mono _ _ _
      | exact laws_qSame.mono _ _ _
      | exact spec_FractionDigits.mono _ _ _ _ _
      | exact spec_OrderOf.mono _ _ _
      | exact spec_PeriodOf.mono _ _ _ _
      | exact spec_RepetendOf.mono _ _ _ _
      | exact LeO.none _
      | refine LeO.ite ?_ ?_
      | refine LeO.bind ?_ (fun _ => ?_)
    · intro y0 y1 y2 y3 y4 y5 y6
      unfold laws_FnPeriodsOfFractions.l1
      repeat' first
      | (with_reducible exact ih0 _ _ _ _ _ _ _ _ _ _)
      | (with_reducible exact ih1 _)
      | (with_reducible exact ih2 _ _ _ _ _ _)
      | (with_reducible exact ih3 _)
      | (with_reducible exact ih4 _ _ _ _ _ _)
      | (with_reducible exact ih5 _ _ _ _ _ _ _ _ _)
      | (with_reducible exact ih6 _ _ _ _ _ _ _ _ _ _)
      | (with_reducible exact ih7 _ _ _ _ _ _ _)
      | (with_reducible exact impl_FractionDigits.mono _ _ _ _ _)
      | (with_reducible exact impl_OrderOf.mono _ _ _)
      | (with_reducible exact impl_PeriodOf.mono _ _ _ _)
      | (with_reducible exact impl_RepetendOf.mono _ _ _ _)
      | (with_reducible exact laws_qGcd.mono _ _ _)
      | (with_reducible exact laws_qSame.mono _ _ _)
      | (with_reducible exact spec_FractionDigits.mono _ _ _ _ _)
      | (with_reducible exact spec_OrderOf.mono _ _ _)
      | (with_reducible exact spec_PeriodOf.mono _ _ _ _)
      | (with_reducible exact spec_RepetendOf.mono _ _ _ _)
      | (with_reducible exact LeO.refl _)
      | (with_reducible exact LeO.none _)
      | (with_reducible refine LeO.ite ?_ ?_)
      | (with_reducible refine LeO.bind ?_ (fun _ => ?_))
      | exact ih0 _ _ _ _ _ _ _ _ _ _
      | exact ih1 _
      | exact ih2 _ _ _ _ _ _
      | exact ih3 _
      | exact ih4 _ _ _ _ _ _
      | exact ih5 _ _ _ _ _ _ _ _ _
      | exact ih6 _ _ _ _ _ _ _ _ _ _
      | exact ih7 _ _ _ _ _ _ _
      | exact impl_FractionDigits.mono _ _ _ _ _
      | exact impl_OrderOf.mono _ _ _
      | exact impl_PeriodOf.mono _ _ _ _
      | exact impl_RepetendOf.mono _ _ _ _
      | exact laws_qGcd.mono _ _ _
      | exact laws_qSame.mono _ _ _
      | exact spec_FractionDigits.mono _ _ _ _ _
      | exact spec_OrderOf.mono _ _ _
      | exact spec_PeriodOf.mono _ _ _ _
      | exact spec_RepetendOf.mono _ _ _ _
      | exact LeO.none _
      | refine LeO.ite ?_ ?_
      | refine LeO.bind ?_ (fun _ => ?_)
theorem laws_FnPeriodsOfFractions.mono : ∀ a0 a1 k, LeO (laws_FnPeriodsOfFractions.f k a0 a1) (laws_FnPeriodsOfFractions.f (k + 1) a0 a1) := by
  intro a0 a1 k
  obtain ⟨ih0, ih1, ih2, ih3, ih4, ih5, ih6, ih7⟩ := laws_FnPeriodsOfFractions.mono_l k
  unfold laws_FnPeriodsOfFractions.f
  repeat' first
      | (with_reducible exact ih0 _ _ _ _ _ _ _ _ _ _)
      | (with_reducible exact ih1 _)
      | (with_reducible exact ih2 _ _ _ _ _ _)
      | (with_reducible exact ih3 _)
      | (with_reducible exact ih4 _ _ _ _ _ _)
      | (with_reducible exact ih5 _ _ _ _ _ _ _ _ _)
      | (with_reducible exact ih6 _ _ _ _ _ _ _ _ _ _)
      | (with_reducible exact ih7 _ _ _ _ _ _ _)
      | (with_reducible exact impl_FractionDigits.mono _ _ _ _ _)
      | (with_reducible exact impl_OrderOf.mono _ _ _)
      | (with_reducible exact impl_PeriodOf.mono _ _ _ _)
      | (with_reducible exact impl_RepetendOf.mono _ _ _ _)
      | (with_reducible exact laws_qGcd.mono _ _ _)
      | (with_reducible exact laws_qSame.mono _ _ _)
      | (with_reducible exact spec_FractionDigits.mono _ _ _ _ _)
      | (with_reducible exact spec_OrderOf.mono _ _ _)
      | (with_reducible exact spec_PeriodOf.mono _ _ _ _)
      | (with_reducible exact spec_RepetendOf.mono _ _ _ _)
      | (with_reducible exact LeO.refl _)
      | (with_reducible exact LeO.none _)
      | (with_reducible refine LeO.ite ?_ ?_)
      | (with_reducible refine LeO.bind ?_ (fun _ => ?_))
      | exact ih0 _ _ _ _ _ _ _ _ _ _
      | exact ih1 _
      | exact ih2 _ _ _ _ _ _
      | exact ih3 _
      | exact ih4 _ _ _ _ _ _
      | exact ih5 _ _ _ _ _ _ _ _ _
      | exact ih6 _ _ _ _ _ _ _ _ _ _
      | exact ih7 _ _ _ _ _ _ _
      | exact impl_FractionDigits.mono _ _ _ _ _
      | exact impl_OrderOf.mono _ _ _
      | exact impl_PeriodOf.mono _ _ _ _
      | exact impl_RepetendOf.mono _ _ _ _
      | exact laws_qGcd.mono _ _ _
      | exact laws_qSame.mono _ _ _
      | exact spec_FractionDigits.mono _ _ _ _ _
      | exact spec_OrderOf.mono _ _ _
      | exact spec_PeriodOf.mono _ _ _ _
      | exact spec_RepetendOf.mono _ _ _ _
      | exact LeO.none _
      | refine LeO.ite ?_ ?_
      | refine LeO.bind ?_ (fun _ => ?_)
theorem laws_FnPeriodsOfFractions.j0_no {r : Bool} (hr : r = true) (k : Nat) (x1 : List Int) (x5 : Int) (x6 : Int) (x7 : Int) (x8 : Int) (x9 : Int) (x10 : Bool) (x14 : List Int) (x15 : Bool) (h : laws_FnPeriodsOfFractions.j0 k x1 x5 x6 x7 x8 x9 x10 x14 x15 true = some r) : False := by
  subst hr
  cases k with
  | zero => simp [laws_FnPeriodsOfFractions.j0] at h
  | succ k => simp [laws_FnPeriodsOfFractions.j0] at h
theorem laws_FnPeriodsOfFractions.j5_no {r : Bool} (hr : r = true) (k : Nat) (x1 : List Int) (x26 : Int) (x27 : Int) (x28 : Int) (x29 : Bool) (h : laws_FnPeriodsOfFractions.j5 k x1 x26 x27 x28 x29 true = some r) : False := by
  subst hr
  cases k with
  | zero => simp [laws_FnPeriodsOfFractions.j5] at h
  | succ k => simp [laws_FnPeriodsOfFractions.j5] at h
theorem laws_FnPeriodsOfFractions.j1_no {r : Bool} (hr : r = true) (k : Nat) (x1 : List Int) (x5 : Int) (x6 : Int) (x7 : Int) (x8 : Int) (x9 : Int) (x14 : List Int) (x15 : Bool) (h : laws_FnPeriodsOfFractions.j1 k x1 x5 x6 x7 x8 x9 x14 x15 true = some r) : False := by
  subst hr
  cases k with
  | zero => simp [laws_FnPeriodsOfFractions.j1] at h
  | succ k => simp [laws_FnPeriodsOfFractions.j1] at h
set_option maxHeartbeats 8000000 in
set_option maxRecDepth 100000 in
theorem laws_FnPeriodsOfFractions.calls (k : Nat) (A0 : Option Addr) (c0 : Nat) (l0 : List Int) (A1 : Option Addr) (c1 : Nat) (l1 : List Int) (r : Bool) (w : World) (hr0 : Kd.C (Kd.int .u8) w A0 l0.length l0) (hc0 : l0.length ≤ c0) (hr1 : Kd.C (Kd.int .u8) w A1 l1.length l1) (hc1 : l1.length ≤ c1) (h : laws_FnPeriodsOfFractions.f k l0 l1 = some r) (hr_ : r = true) :
    Calls Try.prog 8 #[.slice A0 l0.length c0, .slice A1 l1.length c1] w fun e w' => e = .returned (.bool r) ∧ Below w.heap.size w w' := by
  have HR0 := Aside0.mk hr0
  have HC0 := Aside0.mk hc0
  clear hr0 hc0
  have HR1 := Aside0.mk hr1
  have HC1 := Aside0.mk hc1
  clear hr1 hc1
  have HB := Aside0.mk (Below.refl w.heap.size w)
  have H : ((laws_big.f l0 l1).bind fun t255 => (if t255 = true then (some true) else ((spec_DrawPeriodOf.f l0).bind fun bt256 => ((impl_PeriodOf.f k bt256.1 bt256.2.1 bt256.2.2).bind fun bt259 => ((spec_PeriodOf.f k bt256.1 bt256.2.1 bt256.2.2).bind fun bt262 => ((impl_RepetendOf.f k bt256.1 bt256.2.1 bt256.2.2).bind fun bt265 => ((spec_RepetendOf.f k bt256.1 bt256.2.1 bt256.2.2).bind fun bt269 => (if (bt259.2.2 != bt262.2.2) = true then (laws_FnPeriodsOfFractions.j0 k l1 bt256.1 bt256.2.1 bt256.2.2 bt259.1 bt259.2.1 bt259.2.2 bt265.1 bt265.2 true) else (if bt259.1 = bt262.1 then (if bt259.2.1 = bt262.2.1 then (if (bt265.2 != bt269.2) = true then (laws_FnPeriodsOfFractions.j0 k l1 bt256.1 bt256.2.1 bt256.2.2 bt259.1 bt259.2.1 bt259.2.2 bt265.1 bt265.2 true) else ((laws_qSame.f k bt265.1 bt269.1).bind fun t273 => (if t273 = true then (if bt265.2 = true then (laws_FnPeriodsOfFractions.j0 k l1 bt256.1 bt256.2.1 bt256.2.2 bt259.1 bt259.2.1 bt259.2.2 bt265.1 bt265.2 (!bt259.2.2)) else (laws_FnPeriodsOfFractions.j0 k l1 bt256.1 bt256.2.1 bt256.2.2 bt259.1 bt259.2.1 bt259.2.2 bt265.1 bt265.2 false)) else (laws_FnPeriodsOfFractions.j0 k l1 bt256.1 bt256.2.1 bt256.2.2 bt259.1 bt259.2.1 bt259.2.2 bt265.1 bt265.2 true)))) else (laws_FnPeriodsOfFractions.j0 k l1 bt256.1 bt256.2.1 bt256.2.2 bt259.1 bt259.2.1 bt259.2.2 bt265.1 bt265.2 true)) else (laws_FnPeriodsOfFractions.j0 k l1 bt256.1 bt256.2.1 bt256.2.2 bt259.1 bt259.2.1 bt259.2.2 bt265.1 bt265.2 true)))))))))) = some r := h
  clear h
  have HR_ := Aside0.mk hr_
  clear hr_
  replace H := Option.bind_eq_some_iff.mp H
  obtain ⟨t255, A30, H⟩ := H
  replace H : (if t255 = true then (some true) else ((spec_DrawPeriodOf.f l0).bind fun bt256 => ((impl_PeriodOf.f k bt256.1 bt256.2.1 bt256.2.2).bind fun bt259 => ((spec_PeriodOf.f k bt256.1 bt256.2.1 bt256.2.2).bind fun bt262 => ((impl_RepetendOf.f k bt256.1 bt256.2.1 bt256.2.2).bind fun bt265 => ((spec_RepetendOf.f k bt256.1 bt256.2.1 bt256.2.2).bind fun bt269 => (if (bt259.2.2 != bt262.2.2) = true then (laws_FnPeriodsOfFractions.j0 k l1 bt256.1 bt256.2.1 bt256.2.2 bt259.1 bt259.2.1 bt259.2.2 bt265.1 bt265.2 true) else (if bt259.1 = bt262.1 then (if bt259.2.1 = bt262.2.1 then (if (bt265.2 != bt269.2) = true then (laws_FnPeriodsOfFractions.j0 k l1 bt256.1 bt256.2.1 bt256.2.2 bt259.1 bt259.2.1 bt259.2.2 bt265.1 bt265.2 true) else ((laws_qSame.f k bt265.1 bt269.1).bind fun t273 => (if t273 = true then (if bt265.2 = true then (laws_FnPeriodsOfFractions.j0 k l1 bt256.1 bt256.2.1 bt256.2.2 bt259.1 bt259.2.1 bt259.2.2 bt265.1 bt265.2 (!bt259.2.2)) else (laws_FnPeriodsOfFractions.j0 k l1 bt256.1 bt256.2.1 bt256.2.2 bt259.1 bt259.2.1 bt259.2.2 bt265.1 bt265.2 false)) else (laws_FnPeriodsOfFractions.j0 k l1 bt256.1 bt256.2.1 bt256.2.2 bt259.1 bt259.2.1 bt259.2.2 bt265.1 bt265.2 true)))) else (laws_FnPeriodsOfFractions.j0 k l1 bt256.1 bt256.2.1 bt256.2.2 bt259.1 bt259.2.1 bt259.2.2 bt265.1 bt265.2 true)) else (laws_FnPeriodsOfFractions.j0 k l1 bt256.1 bt256.2.1 bt256.2.2 bt259.1 bt259.2.1 bt259.2.2 bt265.1 bt265.2 true))))))))) = some r := H
  have A3 := Aside0.mk A30
  clear A30
  by_cases c4 : t255 = true
  · subst c4
    have H1 : (some true) = some r := by rw [if_pos rfl] at H; exact H
    clear H
    have H := H1
    clear H1
    as_aux_lemma =>
      obtain rfl := Option.some.inj H
      go_enter Try.func8, Try.ntmps8
      go_wp2_with (first | (go_at_call 25; (with_reducible refine (laws_big.calls _ _ l0 _ _ l1 true _ ?side1 ?side2 ?side3 ?side4 A3.out).mono ?_); (case side1 => repeat (first | exact HR0.out | (with_reducible refine Kd.C_alloc ?_ _) | (with_reducible refine Kd.C_drewN ?_ _) | (with_reducible refine Kd.C_drew ?_))); (case side2 => exact HC0.out); (case side3 => repeat (first | exact HR1.out | (with_reducible refine Kd.C_alloc ?_ _) | (with_reducible refine Kd.C_drewN ?_ _) | (with_reducible refine Kd.C_drew ?_))); (case side4 => exact HC1.out); rintro e w' ⟨rfl, ⟨nd, rfl⟩⟩; (try first | exact ⟨rfl, _, World.drewN_drewN _ _ _⟩ | exact ⟨rfl, _, Eq.trans (World.drewN_drewN _ _ _) (congrArg (World.drewN _) (Nat.add_assoc _ _ _))⟩)))
      repeat (go_quiet (first | (go_at_call 25; (with_reducible refine (laws_big.calls _ _ l0 _ _ l1 true _ ?side1 ?side2 ?side3 ?side4 A3.out).mono ?_); (case side1 => repeat (first | exact HR0.out | (with_reducible refine Kd.C_alloc ?_ _) | (with_reducible refine Kd.C_drewN ?_ _) | (with_reducible refine Kd.C_drew ?_))); (case side2 => exact HC0.out); (case side3 => repeat (first | exact HR1.out | (with_reducible refine Kd.C_alloc ?_ _) | (with_reducible refine Kd.C_drewN ?_ _) | (with_reducible refine Kd.C_drew ?_))); (case side4 => exact HC1.out); rintro e w' ⟨rfl, ⟨nd, rfl⟩⟩; (try first | exact ⟨rfl, _, World.drewN_drewN _ _ _⟩ | exact ⟨rfl, _, Eq.trans (World.drewN_drewN _ _ _) (congrArg (World.drewN _) (Nat.add_assoc _ _ _))⟩))); try go_wp2_with (first | (go_at_call 25; (with_reducible refine (laws_big.calls _ _ l0 _ _ l1 true _ ?side1 ?side2 ?side3 ?side4 A3.out).mono ?_); (case side1 => repeat (first | exact HR0.out | (with_reducible refine Kd.C_alloc ?_ _) | (with_reducible refine Kd.C_drewN ?_ _) | (with_reducible refine Kd.C_drew ?_))); (case side2 => exact HC0.out); (case side3 => repeat (first | exact HR1.out | (with_reducible refine Kd.C_alloc ?_ _) | (with_reducible refine Kd.C_drewN ?_ _) | (with_reducible refine Kd.C_drew ?_))); (case side4 => exact HC1.out); rintro e w' ⟨rfl, ⟨nd, rfl⟩⟩; (try first | exact ⟨rfl, _, World.drewN_drewN _ _ _⟩ | exact ⟨rfl, _, Eq.trans (World.drewN_drewN _ _ _) (congrArg (World.drewN _) (Nat.add_assoc _ _ _))⟩))))
      go_ret
      exact ⟨by first | rfl | (simp [errW_none, errW_some] <;> rfl) | (simp [*, errW_none, errW_some] <;> rfl), by repeat (first | (with_reducible first | exact HB.out | apply below_alloc | apply pw_below_drewN | apply below_drew1) | exact HB.out)⟩
  · replace c4 := Bool.eq_false_iff.mpr c4
    subst c4
    have H1 : ((spec_DrawPeriodOf.f l0).bind fun bt256 => ((impl_PeriodOf.f k bt256.1 bt256.2.1 bt256.2.2).bind fun bt259 => ((spec_PeriodOf.f k bt256.1 bt256.2.1 bt256.2.2).bind fun bt262 => ((impl_RepetendOf.f k bt256.1 bt256.2.1 bt256.2.2).bind fun bt265 => ((spec_RepetendOf.f k bt256.1 bt256.2.1 bt256.2.2).bind fun bt269 => (if (bt259.2.2 != bt262.2.2) = true then (laws_FnPeriodsOfFractions.j0 k l1 bt256.1 bt256.2.1 bt256.2.2 bt259.1 bt259.2.1 bt259.2.2 bt265.1 bt265.2 true) else (if bt259.1 = bt262.1 then (if bt259.2.1 = bt262.2.1 then (if (bt265.2 != bt269.2) = true then (laws_FnPeriodsOfFractions.j0 k l1 bt256.1 bt256.2.1 bt256.2.2 bt259.1 bt259.2.1 bt259.2.2 bt265.1 bt265.2 true) else ((laws_qSame.f k bt265.1 bt269.1).bind fun t273 => (if t273 = true then (if bt265.2 = true then (laws_FnPeriodsOfFractions.j0 k l1 bt256.1 bt256.2.1 bt256.2.2 bt259.1 bt259.2.1 bt259.2.2 bt265.1 bt265.2 (!bt259.2.2)) else (laws_FnPeriodsOfFractions.j0 k l1 bt256.1 bt256.2.1 bt256.2.2 bt259.1 bt259.2.1 bt259.2.2 bt265.1 bt265.2 false)) else (laws_FnPeriodsOfFractions.j0 k l1 bt256.1 bt256.2.1 bt256.2.2 bt259.1 bt259.2.1 bt259.2.2 bt265.1 bt265.2 true)))) else (laws_FnPeriodsOfFractions.j0 k l1 bt256.1 bt256.2.1 bt256.2.2 bt259.1 bt259.2.1 bt259.2.2 bt265.1 bt265.2 true)) else (laws_FnPeriodsOfFractions.j0 k l1 bt256.1 bt256.2.1 bt256.2.2 bt259.1 bt259.2.1 bt259.2.2 bt265.1 bt265.2 true)))))))) = some r := by rw [if_neg (show ¬ (false = true) by decide)] at H; exact H
    clear H
    have H := H1
    clear H1
    replace H := Option.bind_eq_some_iff.mp H
    obtain ⟨⟨t256, t257, t258⟩, A50, H⟩ := H
    replace H : ((impl_PeriodOf.f k t256 t257 t258).bind fun bt259 => ((spec_PeriodOf.f k t256 t257 t258).bind fun bt262 => ((impl_RepetendOf.f k t256 t257 t258).bind fun bt265 => ((spec_RepetendOf.f k t256 t257 t258).bind fun bt269 => (if (bt259.2.2 != bt262.2.2) = true then (laws_FnPeriodsOfFractions.j0 k l1 t256 t257 t258 bt259.1 bt259.2.1 bt259.2.2 bt265.1 bt265.2 true) else (if bt259.1 = bt262.1 then (if bt259.2.1 = bt262.2.1 then (if (bt265.2 != bt269.2) = true then (laws_FnPeriodsOfFractions.j0 k l1 t256 t257 t258 bt259.1 bt259.2.1 bt259.2.2 bt265.1 bt265.2 true) else ((laws_qSame.f k bt265.1 bt269.1).bind fun t273 => (if t273 = true then (if bt265.2 = true then (laws_FnPeriodsOfFractions.j0 k l1 t256 t257 t258 bt259.1 bt259.2.1 bt259.2.2 bt265.1 bt265.2 (!bt259.2.2)) else (laws_FnPeriodsOfFractions.j0 k l1 t256 t257 t258 bt259.1 bt259.2.1 bt259.2.2 bt265.1 bt265.2 false)) else (laws_FnPeriodsOfFractions.j0 k l1 t256 t257 t258 bt259.1 bt259.2.1 bt259.2.2 bt265.1 bt265.2 true)))) else (laws_FnPeriodsOfFractions.j0 k l1 t256 t257 t258 bt259.1 bt259.2.1 bt259.2.2 bt265.1 bt265.2 true)) else (laws_FnPeriodsOfFractions.j0 k l1 t256 t257 t258 bt259.1 bt259.2.1 bt259.2.2 bt265.1 bt265.2 true))))))) = some r := H
    have A5 := Aside0.mk A50
    clear A50
    replace H := Option.bind_eq_some_iff.mp H
    obtain ⟨⟨t259, t260, t261⟩, A60, H⟩ := H
    replace H : ((spec_PeriodOf.f k t256 t257 t258).bind fun bt262 => ((impl_RepetendOf.f k t256 t257 t258).bind fun bt265 => ((spec_RepetendOf.f k t256 t257 t258).bind fun bt269 => (if (t261 != bt262.2.2) = true then (laws_FnPeriodsOfFractions.j0 k l1 t256 t257 t258 t259 t260 t261 bt265.1 bt265.2 true) else (if t259 = bt262.1 then (if t260 = bt262.2.1 then (if (bt265.2 != bt269.2) = true then (laws_FnPeriodsOfFractions.j0 k l1 t256 t257 t258 t259 t260 t261 bt265.1 bt265.2 true) else ((laws_qSame.f k bt265.1 bt269.1).bind fun t273 => (if t273 = true then (if bt265.2 = true then (laws_FnPeriodsOfFractions.j0 k l1 t256 t257 t258 t259 t260 t261 bt265.1 bt265.2 (!t261)) else (laws_FnPeriodsOfFractions.j0 k l1 t256 t257 t258 t259 t260 t261 bt265.1 bt265.2 false)) else (laws_FnPeriodsOfFractions.j0 k l1 t256 t257 t258 t259 t260 t261 bt265.1 bt265.2 true)))) else (laws_FnPeriodsOfFractions.j0 k l1 t256 t257 t258 t259 t260 t261 bt265.1 bt265.2 true)) else (laws_FnPeriodsOfFractions.j0 k l1 t256 t257 t258 t259 t260 t261 bt265.1 bt265.2 true)))))) = some r := H
    have A6 := Aside0.mk A60
    clear A60
    replace H := Option.bind_eq_some_iff.mp H
    obtain ⟨⟨t262, t263, t264⟩, A70, H⟩ := H
    replace H : ((impl_RepetendOf.f k t256 t257 t258).bind fun bt265 => ((spec_RepetendOf.f k t256 t257 t258).bind fun bt269 => (if (t261 != t264) = true then (laws_FnPeriodsOfFractions.j0 k l1 t256 t257 t258 t259 t260 t261 bt265.1 bt265.2 true) else (if t259 = t262 then (if t260 = t263 then (if (bt265.2 != bt269.2) = true then (laws_FnPeriodsOfFractions.j0 k l1 t256 t257 t258 t259 t260 t261 bt265.1 bt265.2 true) else ((laws_qSame.f k bt265.1 bt269.1).bind fun t273 => (if t273 = true then (if bt265.2 = true then (laws_FnPeriodsOfFractions.j0 k l1 t256 t257 t258 t259 t260 t261 bt265.1 bt265.2 (!t261)) else (laws_FnPeriodsOfFractions.j0 k l1 t256 t257 t258 t259 t260 t261 bt265.1 bt265.2 false)) else (laws_FnPeriodsOfFractions.j0 k l1 t256 t257 t258 t259 t260 t261 bt265.1 bt265.2 true)))) else (laws_FnPeriodsOfFractions.j0 k l1 t256 t257 t258 t259 t260 t261 bt265.1 bt265.2 true)) else (laws_FnPeriodsOfFractions.j0 k l1 t256 t257 t258 t259 t260 t261 bt265.1 bt265.2 true))))) = some r := H
    have A7 := Aside0.mk A70
    clear A70
    replace H := Option.bind_eq_some_iff.mp H
    obtain ⟨⟨t265, t266⟩, A80, H⟩ := H
    replace H : ((spec_RepetendOf.f k t256 t257 t258).bind fun bt269 => (if (t261 != t264) = true then (laws_FnPeriodsOfFractions.j0 k l1 t256 t257 t258 t259 t260 t261 t265 t266 true) else (if t259 = t262 then (if t260 = t263 then (if (t266 != bt269.2) = true then (laws_FnPeriodsOfFractions.j0 k l1 t256 t257 t258 t259 t260 t261 t265 t266 true) else ((laws_qSame.f k t265 bt269.1).bind fun t273 => (if t273 = true then (if t266 = true then (laws_FnPeriodsOfFractions.j0 k l1 t256 t257 t258 t259 t260 t261 t265 t266 (!t261)) else (laws_FnPeriodsOfFractions.j0 k l1 t256 t257 t258 t259 t260 t261 t265 t266 false)) else (laws_FnPeriodsOfFractions.j0 k l1 t256 t257 t258 t259 t260 t261 t265 t266 true)))) else (laws_FnPeriodsOfFractions.j0 k l1 t256 t257 t258 t259 t260 t261 t265 t266 true)) else (laws_FnPeriodsOfFractions.j0 k l1 t256 t257 t258 t259 t260 t261 t265 t266 true)))) = some r := H
    have A8 := Aside0.mk A80
    clear A80
    replace H := Option.bind_eq_some_iff.mp H
    obtain ⟨⟨t269, t270⟩, A90, H⟩ := H
    replace H : (if (t261 != t264) = true then (laws_FnPeriodsOfFractions.j0 k l1 t256 t257 t258 t259 t260 t261 t265 t266 true) else (if t259 = t262 then (if t260 = t263 then (if (t266 != t270) = true then (laws_FnPeriodsOfFractions.j0 k l1 t256 t257 t258 t259 t260 t261 t265 t266 true) else ((laws_qSame.f k t265 t269).bind fun t273 => (if t273 = true then (if t266 = true then (laws_FnPeriodsOfFractions.j0 k l1 t256 t257 t258 t259 t260 t261 t265 t266 (!t261)) else (laws_FnPeriodsOfFractions.j0 k l1 t256 t257 t258 t259 t260 t261 t265 t266 false)) else (laws_FnPeriodsOfFractions.j0 k l1 t256 t257 t258 t259 t260 t261 t265 t266 true)))) else (laws_FnPeriodsOfFractions.j0 k l1 t256 t257 t258 t259 t260 t261 t265 t266 true)) else (laws_FnPeriodsOfFractions.j0 k l1 t256 t257 t258 t259 t260 t261 t265 t266 true))) = some r := H
    have A9 := Aside0.mk A90
    clear A90
    have HC10 := Aside0.mk H
    clear H
    go_enter Try.func8, Try.ntmps8
    go_upto_region 8 with (first | (go_at_call 25; (with_reducible refine (laws_big.calls _ _ l0 _ _ l1 false _ ?side1 ?side2 ?side3 ?side4 A3.out).mono ?_); (case side1 => repeat (first | exact HR0.out | (with_reducible refine Kd.C_alloc ?_ _) | (with_reducible refine Kd.C_drewN ?_ _) | (with_reducible refine Kd.C_drew ?_))); (case side2 => exact HC0.out); (case side3 => repeat (first | exact HR1.out | (with_reducible refine Kd.C_alloc ?_ _) | (with_reducible refine Kd.C_drewN ?_ _) | (with_reducible refine Kd.C_drew ?_))); (case side4 => exact HC1.out); rintro e w' ⟨rfl, ⟨nd, rfl⟩⟩; (try first | exact ⟨rfl, _, World.drewN_drewN _ _ _⟩ | exact ⟨rfl, _, Eq.trans (World.drewN_drewN _ _ _) (congrArg (World.drewN _) (Nat.add_assoc _ _ _))⟩)) | (go_at_call 63; (with_reducible refine (spec_DrawPeriodOf.calls _ _ l0 t256 t257 t258 _ ?side1 ?side2 A5.out).mono ?_); (case side1 => repeat (first | exact HR0.out | (with_reducible refine Kd.C_alloc ?_ _) | (with_reducible refine Kd.C_drewN ?_ _) | (with_reducible refine Kd.C_drew ?_))); (case side2 => exact HC0.out); rintro e w11 ⟨rfl, hb⟩; have n0_ := Aside0.mk (below_step (by repeat (first | (with_reducible first | exact HB.out | apply below_alloc | apply pw_below_drewN | apply below_drew1) | exact HB.out)) hb); clear HB; have HB := n0_; clear n0_; (try clear hb); (try clear hb2); (try clear hk); (try clear hi)) | (go_at_call 64; (with_reducible refine (impl_PeriodOf.calls k t256 t257 t258 t259 t260 t261 _ A6.out).mono ?_); rintro e w12 ⟨rfl, hb⟩; have n0_ := Aside0.mk (below_step (by repeat (first | (with_reducible first | exact HB.out | apply below_alloc | apply pw_below_drewN | apply below_drew1) | exact HB.out)) hb); clear HB; have HB := n0_; clear n0_; (try clear hb); (try clear hb2); (try clear hk); (try clear hi)) | (go_at_call 65; (with_reducible refine (spec_PeriodOf.calls k t256 t257 t258 t262 t263 t264 _ A7.out).mono ?_); rintro e w13 ⟨rfl, hb⟩; have n0_ := Aside0.mk (below_step (by repeat (first | (with_reducible first | exact HB.out | apply below_alloc | apply pw_below_drewN | apply below_drew1) | exact HB.out)) hb); clear HB; have HB := n0_; clear n0_; (try clear hb); (try clear hb2); (try clear hk); (try clear hi)) | (go_at_call 66; (with_reducible refine (impl_RepetendOf.calls k t256 t257 t258 t265 t266 _ A8.out).mono ?_); rintro e w14 ⟨v267, rfl, ho0, hb⟩; have n0_ := Aside0.mk (Kd.R_lower ho0 (below_size (by repeat (first | (with_reducible first | exact HB.out | apply below_alloc | apply pw_below_drewN | apply below_drew1) | exact HB.out)))); have n1_ := Aside0.mk (below_step (by repeat (first | (with_reducible first | exact HB.out | apply below_alloc | apply pw_below_drewN | apply below_drew1) | exact HB.out)) hb); clear HB; have HO268 := n0_; have HB := n1_; clear n0_ n1_; (try clear hb); (try clear hb2); (try clear hk); (try clear hi); (try clear ho0)) | (go_at_call 67; (with_reducible refine (spec_RepetendOf.calls k t256 t257 t258 t269 t270 _ A9.out).mono ?_); rintro e w15 ⟨v271, rfl, ho0, hb⟩; have n0_ := Aside0.mk (Kd.R_elder' (by (with_reducible repeat (first | apply Kd.R_alloc | apply Kd.R_drewN | apply Kd.R_drew)); exact HO268.out) (Kd.Q_base ho0) hb); have n1_ := Aside0.mk (Kd.Q_lower (Kd.Q_new' ho0 (Kd.R_lt (by (with_reducible repeat (first | apply Kd.R_alloc | apply Kd.R_drewN | apply Kd.R_drew)); exact HO268.out))) (below_size (by repeat (first | (with_reducible first | exact HB.out | apply below_alloc | apply pw_below_drewN | apply below_drew1) | exact HB.out)))); have n2_ := Aside0.mk (below_step (by repeat (first | (with_reducible first | exact HB.out | apply below_alloc | apply pw_below_drewN | apply below_drew1) | exact HB.out)) hb); clear HO268; clear HB; have HO268 := n0_; have HO272 := n1_; have HB := n2_; clear n0_ n1_ n2_; (try clear hb); (try clear hb2); (try clear hk); (try clear hi); (try clear ho0)))
    repeat (go_quiet (first | (go_at_call 25; (with_reducible refine (laws_big.calls _ _ l0 _ _ l1 false _ ?side1 ?side2 ?side3 ?side4 A3.out).mono ?_); (case side1 => repeat (first | exact HR0.out | (with_reducible refine Kd.C_alloc ?_ _) | (with_reducible refine Kd.C_drewN ?_ _) | (with_reducible refine Kd.C_drew ?_))); (case side2 => exact HC0.out); (case side3 => repeat (first | exact HR1.out | (with_reducible refine Kd.C_alloc ?_ _) | (with_reducible refine Kd.C_drewN ?_ _) | (with_reducible refine Kd.C_drew ?_))); (case side4 => exact HC1.out); rintro e w' ⟨rfl, ⟨nd, rfl⟩⟩; (try first | exact ⟨rfl, _, World.drewN_drewN _ _ _⟩ | exact ⟨rfl, _, Eq.trans (World.drewN_drewN _ _ _) (congrArg (World.drewN _) (Nat.add_assoc _ _ _))⟩)) | (go_at_call 63; (with_reducible refine (spec_DrawPeriodOf.calls _ _ l0 t256 t257 t258 _ ?side1 ?side2 A5.out).mono ?_); (case side1 => repeat (first | exact HR0.out | (with_reducible refine Kd.C_alloc ?_ _) | (with_reducible refine Kd.C_drewN ?_ _) | (with_reducible refine Kd.C_drew ?_))); (case side2 => exact HC0.out); rintro e w11 ⟨rfl, hb⟩; have n0_ := Aside0.mk (below_step (by repeat (first | (with_reducible first | exact HB.out | apply below_alloc | apply pw_below_drewN | apply below_drew1) | exact HB.out)) hb); clear HB; have HB := n0_; clear n0_; (try clear hb); (try clear hb2); (try clear hk); (try clear hi)) | (go_at_call 64; (with_reducible refine (impl_PeriodOf.calls k t256 t257 t258 t259 t260 t261 _ A6.out).mono ?_); rintro e w12 ⟨rfl, hb⟩; have n0_ := Aside0.mk (below_step (by repeat (first | (with_reducible first | exact HB.out | apply below_alloc | apply pw_below_drewN | apply below_drew1) | exact HB.out)) hb); clear HB; have HB := n0_; clear n0_; (try clear hb); (try clear hb2); (try clear hk); (try clear hi)) | (go_at_call 65; (with_reducible refine (spec_PeriodOf.calls k t256 t257 t258 t262 t263 t264 _ A7.out).mono ?_); rintro e w13 ⟨rfl, hb⟩; have n0_ := Aside0.mk (below_step (by repeat (first | (with_reducible first | exact HB.out | apply below_alloc | apply pw_below_drewN | apply below_drew1) | exact HB.out)) hb); clear HB; have HB := n0_; clear n0_; (try clear hb); (try clear hb2); (try clear hk); (try clear hi)) | (go_at_call 66; (with_reducible refine (impl_RepetendOf.calls k t256 t257 t258 t265 t266 _ A8.out).mono ?_); rintro e w14 ⟨v267, rfl, ho0, hb⟩; have n0_ := Aside0.mk (Kd.R_lower ho0 (below_size (by repeat (first | (with_reducible first | exact HB.out | apply below_alloc | apply pw_below_drewN | apply below_drew1) | exact HB.out)))); have n1_ := Aside0.mk (below_step (by repeat (first | (with_reducible first | exact HB.out | apply below_alloc | apply pw_below_drewN | apply below_drew1) | exact HB.out)) hb); clear HB; have HO268 := n0_; have HB := n1_; clear n0_ n1_; (try clear hb); (try clear hb2); (try clear hk); (try clear hi); (try clear ho0)) | (go_at_call 67; (with_reducible refine (spec_RepetendOf.calls k t256 t257 t258 t269 t270 _ A9.out).mono ?_); rintro e w15 ⟨v271, rfl, ho0, hb⟩; have n0_ := Aside0.mk (Kd.R_elder' (by (with_reducible repeat (first | apply Kd.R_alloc | apply Kd.R_drewN | apply Kd.R_drew)); exact HO268.out) (Kd.Q_base ho0) hb); have n1_ := Aside0.mk (Kd.Q_lower (Kd.Q_new' ho0 (Kd.R_lt (by (with_reducible repeat (first | apply Kd.R_alloc | apply Kd.R_drewN | apply Kd.R_drew)); exact HO268.out))) (below_size (by repeat (first | (with_reducible first | exact HB.out | apply below_alloc | apply pw_below_drewN | apply below_drew1) | exact HB.out)))); have n2_ := Aside0.mk (below_step (by repeat (first | (with_reducible first | exact HB.out | apply below_alloc | apply pw_below_drewN | apply below_drew1) | exact HB.out)) hb); clear HO268; clear HB; have HO268 := n0_; have HO272 := n1_; have HB := n2_; clear n0_ n1_ n2_; (try clear hb); (try clear hb2); (try clear hk); (try clear hi); (try clear ho0))); go_upto_region 8 with (first | (go_at_call 25; (with_reducible refine (laws_big.calls _ _ l0 _ _ l1 false _ ?side1 ?side2 ?side3 ?side4 A3.out).mono ?_); (case side1 => repeat (first | exact HR0.out | (with_reducible refine Kd.C_alloc ?_ _) | (with_reducible refine Kd.C_drewN ?_ _) | (with_reducible refine Kd.C_drew ?_))); (case side2 => exact HC0.out); (case side3 => repeat (first | exact HR1.out | (with_reducible refine Kd.C_alloc ?_ _) | (with_reducible refine Kd.C_drewN ?_ _) | (with_reducible refine Kd.C_drew ?_))); (case side4 => exact HC1.out); rintro e w' ⟨rfl, ⟨nd, rfl⟩⟩; (try first | exact ⟨rfl, _, World.drewN_drewN _ _ _⟩ | exact ⟨rfl, _, Eq.trans (World.drewN_drewN _ _ _) (congrArg (World.drewN _) (Nat.add_assoc _ _ _))⟩)) | (go_at_call 63; (with_reducible refine (spec_DrawPeriodOf.calls _ _ l0 t256 t257 t258 _ ?side1 ?side2 A5.out).mono ?_); (case side1 => repeat (first | exact HR0.out | (with_reducible refine Kd.C_alloc ?_ _) | (with_reducible refine Kd.C_drewN ?_ _) | (with_reducible refine Kd.C_drew ?_))); (case side2 => exact HC0.out); rintro e w11 ⟨rfl, hb⟩; have n0_ := Aside0.mk (below_step (by repeat (first | (with_reducible first | exact HB.out | apply below_alloc | apply pw_below_drewN | apply below_drew1) | exact HB.out)) hb); clear HB; have HB := n0_; clear n0_; (try clear hb); (try clear hb2); (try clear hk); (try clear hi)) | (go_at_call 64; (with_reducible refine (impl_PeriodOf.calls k t256 t257 t258 t259 t260 t261 _ A6.out).mono ?_); rintro e w12 ⟨rfl, hb⟩; have n0_ := Aside0.mk (below_step (by repeat (first | (with_reducible first | exact HB.out | apply below_alloc | apply pw_below_drewN | apply below_drew1) | exact HB.out)) hb); clear HB; have HB := n0_; clear n0_; (try clear hb); (try clear hb2); (try clear hk); (try clear hi)) | (go_at_call 65; (with_reducible refine (spec_PeriodOf.calls k t256 t257 t258 t262 t263 t264 _ A7.out).mono ?_); rintro e w13 ⟨rfl, hb⟩; have n0_ := Aside0.mk (below_step (by repeat (first | (with_reducible first | exact HB.out | apply below_alloc | apply pw_below_drewN | apply below_drew1) | exact HB.out)) hb); clear HB; have HB := n0_; clear n0_; (try clear hb); (try clear hb2); (try clear hk); (try clear hi)) | (go_at_call 66; (with_reducible refine (impl_RepetendOf.calls k t256 t257 t258 t265 t266 _ A8.out).mono ?_); rintro e w14 ⟨v267, rfl, ho0, hb⟩; have n0_ := Aside0.mk (Kd.R_lower ho0 (below_size (by repeat (first | (with_reducible first | exact HB.out | apply below_alloc | apply pw_below_drewN | apply below_drew1) | exact HB.out)))); have n1_ := Aside0.mk (below_step (by repeat (first | (with_reducible first | exact HB.out | apply below_alloc | apply pw_below_drewN | apply below_drew1) | exact HB.out)) hb); clear HB; have HO268 := n0_; have HB := n1_; clear n0_ n1_; (try clear hb); (try clear hb2); (try clear hk); (try clear hi); (try clear ho0)) | (go_at_call 67; (with_reducible refine (spec_RepetendOf.calls k t256 t257 t258 t269 t270 _ A9.out).mono ?_); rintro e w15 ⟨v271, rfl, ho0, hb⟩; have n0_ := Aside0.mk (Kd.R_elder' (by (with_reducible repeat (first | apply Kd.R_alloc | apply Kd.R_drewN | apply Kd.R_drew)); exact HO268.out) (Kd.Q_base ho0) hb); have n1_ := Aside0.mk (Kd.Q_lower (Kd.Q_new' ho0 (Kd.R_lt (by (with_reducible repeat (first | apply Kd.R_alloc | apply Kd.R_drewN | apply Kd.R_drew)); exact HO268.out))) (below_size (by repeat (first | (with_reducible first | exact HB.out | apply below_alloc | apply pw_below_drewN | apply below_drew1) | exact HB.out)))); have n2_ := Aside0.mk (below_step (by repeat (first | (with_reducible first | exact HB.out | apply below_alloc | apply pw_below_drewN | apply below_drew1) | exact HB.out)) hb); clear HO268; clear HB; have HO268 := n0_; have HO272 := n1_; have HB := n2_; clear n0_ n1_ n2_; (try clear hb); (try clear hb2); (try clear hk); (try clear hi); (try clear ho0))))
    (try simp only [Act.put, List.setIfInBounds_toArray, List.set_cons_zero, List.set_cons_succ])
    go_cut [111] (fun v111 wc => ∃ (kq : Nat) (x111_9 : Bool), v111 = .bool x111_9 ∧ Aside0 (laws_FnPeriodsOfFractions.j0 kq l1 t256 t257 t258 t259 t260 t261 t265 t266 x111_9 = some r) ∧ Aside0 (kq ≤ k) ∧ Aside0 (Kd.R (Kd.int .i64) 3 wc w.heap.size (fun _ => True) v267 t265) ∧ Aside0 (Below w.heap.size w wc))
    case first =>
      have H := HC10.out
      clear HC10
      by_cases c16 : (t261 != t264) = true
      · rw [if_pos c16] at H
        have c16b0 : (t261 != t264) = true := c16
        (try (have c16b1 : decide (t261 = t264) = false := by simpa using c16))
        (try (have c16b2 : (t261 == t264) = false := by simpa using c16))
        (try (have c16b3 : ¬ (t261 = t264) := by simpa using c16))
        clear c16
        (first | rw [c16b0] | (simp only [i64_w, i32_w]; rw [c16b0]) | skip)
        exact (laws_FnPeriodsOfFractions.j0_no HR_.out _ _ _ _ _ _ _ _ _ _ H).elim
      · rw [if_neg c16] at H
        have c16b0 : (t261 != t264) = false := by simpa using c16
        (try (have c16b1 : decide (t261 = t264) = true := by simpa using c16))
        (try (have c16b2 : (t261 == t264) = true := by simpa using c16))
        clear c16
        (first | rw [c16b0] | (simp only [i64_w, i32_w]; rw [c16b0]) | skip)
        by_cases c17 : t259 = t262
        · rw [if_pos c17] at H
          have c17b0 : (t259 == t262) = true := beq_iff_eq.mpr c17
          have c17b1 : (t259 != t262) = false := bne_eq_false_iff_eq.mpr c17
          clear c17
          by_cases c18 : t260 = t263
          · rw [if_pos c18] at H
            have c18b0 : (t260 == t263) = true := beq_iff_eq.mpr c18
            have c18b1 : (t260 != t263) = false := bne_eq_false_iff_eq.mpr c18
            clear c18
            by_cases c19 : (t266 != t270) = true
            · rw [if_pos c19] at H
              have c19b0 : (t266 != t270) = true := c19
              (try (have c19b1 : decide (t266 = t270) = false := by simpa using c19))
              (try (have c19b2 : (t266 == t270) = false := by simpa using c19))
              (try (have c19b3 : ¬ (t266 = t270) := by simpa using c19))
              clear c19
              exact (laws_FnPeriodsOfFractions.j0_no HR_.out _ _ _ _ _ _ _ _ _ _ H).elim
            · rw [if_neg c19] at H
              have c19b0 : (t266 != t270) = false := by simpa using c19
              (try (have c19b1 : decide (t266 = t270) = true := by simpa using c19))
              (try (have c19b2 : (t266 == t270) = true := by simpa using c19))
              clear c19
              replace H := Option.bind_eq_some_iff.mp H
              obtain ⟨t273, A200, H⟩ := H
              replace H : (if t273 = true then (if t266 = true then (laws_FnPeriodsOfFractions.j0 k l1 t256 t257 t258 t259 t260 t261 t265 t266 (!t261)) else (laws_FnPeriodsOfFractions.j0 k l1 t256 t257 t258 t259 t260 t261 t265 t266 false)) else (laws_FnPeriodsOfFractions.j0 k l1 t256 t257 t258 t259 t260 t261 t265 t266 true)) = some r := H
              have A20 := Aside0.mk A200
              clear A200
              by_cases c21 : t273 = true
              · subst c21
                have H1 : (if t266 = true then (laws_FnPeriodsOfFractions.j0 k l1 t256 t257 t258 t259 t260 t261 t265 t266 (!t261)) else (laws_FnPeriodsOfFractions.j0 k l1 t256 t257 t258 t259 t260 t261 t265 t266 false)) = some r := by rw [if_pos rfl] at H; exact H
                clear H
                have H := H1
                clear H1
                by_cases c22 : t266 = true
                · subst c22
                  have H1 : (laws_FnPeriodsOfFractions.j0 k l1 t256 t257 t258 t259 t260 t261 t265 true (!t261)) = some r := by rw [if_pos rfl] at H; exact H
                  clear H
                  have H := H1
                  clear H1
                  as_aux_lemma =>
                    have H' := Aside0.mk H
                    clear H
                    obtain ⟨Ao23, co23, eo23⟩ := Kd.R_slice HO268.out
                    subst eo23
                    obtain ⟨Ao24, co24, eo24, _⟩ := Kd.Q_slice HO272.out
                    subst eo24
                    go_wp2_with (first | (go_at_call 32; (with_reducible refine (laws_qSame.calls k _ _ t265 _ _ t269 true _ ?side1 ?side2 ?side3 ?side4 A20.out).mono ?_); (case side1 => repeat (first | exact (Kd.R_reads' HO268.out).2.2 | (with_reducible refine Kd.C_alloc ?_ _) | (with_reducible refine Kd.C_drewN ?_ _) | (with_reducible refine Kd.C_drew ?_))); (case side2 => exact (Kd.R_reads' HO268.out).2.1); (case side3 => repeat (first | exact (Kd.Q_reads' HO272.out).2.2 | (with_reducible refine Kd.C_alloc ?_ _) | (with_reducible refine Kd.C_drewN ?_ _) | (with_reducible refine Kd.C_drew ?_))); (case side4 => exact (Kd.Q_reads' HO272.out).2.1); rintro e w' ⟨rfl, ⟨nd, rfl⟩⟩; (try first | exact ⟨rfl, _, World.drewN_drewN _ _ _⟩ | exact ⟨rfl, _, Eq.trans (World.drewN_drewN _ _ _) (congrArg (World.drewN _) (Nat.add_assoc _ _ _))⟩)))
                    repeat (go_quiet (first | (go_at_call 32; (with_reducible refine (laws_qSame.calls k _ _ t265 _ _ t269 true _ ?side1 ?side2 ?side3 ?side4 A20.out).mono ?_); (case side1 => repeat (first | exact (Kd.R_reads' HO268.out).2.2 | (with_reducible refine Kd.C_alloc ?_ _) | (with_reducible refine Kd.C_drewN ?_ _) | (with_reducible refine Kd.C_drew ?_))); (case side2 => exact (Kd.R_reads' HO268.out).2.1); (case side3 => repeat (first | exact (Kd.Q_reads' HO272.out).2.2 | (with_reducible refine Kd.C_alloc ?_ _) | (with_reducible refine Kd.C_drewN ?_ _) | (with_reducible refine Kd.C_drew ?_))); (case side4 => exact (Kd.Q_reads' HO272.out).2.1); rintro e w' ⟨rfl, ⟨nd, rfl⟩⟩; (try first | exact ⟨rfl, _, World.drewN_drewN _ _ _⟩ | exact ⟨rfl, _, Eq.trans (World.drewN_drewN _ _ _) (congrArg (World.drewN _) (Nat.add_assoc _ _ _))⟩))); try go_wp2_with (first | (go_at_call 32; (with_reducible refine (laws_qSame.calls k _ _ t265 _ _ t269 true _ ?side1 ?side2 ?side3 ?side4 A20.out).mono ?_); (case side1 => repeat (first | exact (Kd.R_reads' HO268.out).2.2 | (with_reducible refine Kd.C_alloc ?_ _) | (with_reducible refine Kd.C_drewN ?_ _) | (with_reducible refine Kd.C_drew ?_))); (case side2 => exact (Kd.R_reads' HO268.out).2.1); (case side3 => repeat (first | exact (Kd.Q_reads' HO272.out).2.2 | (with_reducible refine Kd.C_alloc ?_ _) | (with_reducible refine Kd.C_drewN ?_ _) | (with_reducible refine Kd.C_drew ?_))); (case side4 => exact (Kd.Q_reads' HO272.out).2.1); rintro e w' ⟨rfl, ⟨nd, rfl⟩⟩; (try first | exact ⟨rfl, _, World.drewN_drewN _ _ _⟩ | exact ⟨rfl, _, Eq.trans (World.drewN_drewN _ _ _) (congrArg (World.drewN _) (Nat.add_assoc _ _ _))⟩))))
                    go_meet
                    case rel => exact ⟨_, (!t261), (by first | rfl | (simp; done) | (simp [*]; done)), H', ⟨by first | omega | exact Nat.le_refl _⟩, ⟨by (with_reducible repeat (first | apply Kd.R_alloc | apply Kd.R_drewN | apply Kd.R_drew)); exact Kd.R_mono HO268.out (fun _ hk => trivial)⟩, ⟨by repeat (first | (with_reducible first | exact HB.out | apply below_alloc | apply pw_below_drewN | apply below_drew1) | exact HB.out)⟩⟩
                · replace c22 := Bool.eq_false_iff.mpr c22
                  subst c22
                  have H1 : (laws_FnPeriodsOfFractions.j0 k l1 t256 t257 t258 t259 t260 t261 t265 false false) = some r := by rw [if_neg (show ¬ (false = true) by decide)] at H; exact H
                  clear H
                  have H := H1
                  clear H1
                  as_aux_lemma =>
                    have H' := Aside0.mk H
                    clear H
                    obtain ⟨Ao25, co25, eo25⟩ := Kd.R_slice HO268.out
                    subst eo25
                    obtain ⟨Ao26, co26, eo26, _⟩ := Kd.Q_slice HO272.out
                    subst eo26
                    go_wp2_with (first | (go_at_call 32; (with_reducible refine (laws_qSame.calls k _ _ t265 _ _ t269 true _ ?side1 ?side2 ?side3 ?side4 A20.out).mono ?_); (case side1 => repeat (first | exact (Kd.R_reads' HO268.out).2.2 | (with_reducible refine Kd.C_alloc ?_ _) | (with_reducible refine Kd.C_drewN ?_ _) | (with_reducible refine Kd.C_drew ?_))); (case side2 => exact (Kd.R_reads' HO268.out).2.1); (case side3 => repeat (first | exact (Kd.Q_reads' HO272.out).2.2 | (with_reducible refine Kd.C_alloc ?_ _) | (with_reducible refine Kd.C_drewN ?_ _) | (with_reducible refine Kd.C_drew ?_))); (case side4 => exact (Kd.Q_reads' HO272.out).2.1); rintro e w' ⟨rfl, ⟨nd, rfl⟩⟩; (try first | exact ⟨rfl, _, World.drewN_drewN _ _ _⟩ | exact ⟨rfl, _, Eq.trans (World.drewN_drewN _ _ _) (congrArg (World.drewN _) (Nat.add_assoc _ _ _))⟩)))
                    repeat (go_quiet (first | (go_at_call 32; (with_reducible refine (laws_qSame.calls k _ _ t265 _ _ t269 true _ ?side1 ?side2 ?side3 ?side4 A20.out).mono ?_); (case side1 => repeat (first | exact (Kd.R_reads' HO268.out).2.2 | (with_reducible refine Kd.C_alloc ?_ _) | (with_reducible refine Kd.C_drewN ?_ _) | (with_reducible refine Kd.C_drew ?_))); (case side2 => exact (Kd.R_reads' HO268.out).2.1); (case side3 => repeat (first | exact (Kd.Q_reads' HO272.out).2.2 | (with_reducible refine Kd.C_alloc ?_ _) | (with_reducible refine Kd.C_drewN ?_ _) | (with_reducible refine Kd.C_drew ?_))); (case side4 => exact (Kd.Q_reads' HO272.out).2.1); rintro e w' ⟨rfl, ⟨nd, rfl⟩⟩; (try first | exact ⟨rfl, _, World.drewN_drewN _ _ _⟩ | exact ⟨rfl, _, Eq.trans (World.drewN_drewN _ _ _) (congrArg (World.drewN _) (Nat.add_assoc _ _ _))⟩))); try go_wp2_with (first | (go_at_call 32; (with_reducible refine (laws_qSame.calls k _ _ t265 _ _ t269 true _ ?side1 ?side2 ?side3 ?side4 A20.out).mono ?_); (case side1 => repeat (first | exact (Kd.R_reads' HO268.out).2.2 | (with_reducible refine Kd.C_alloc ?_ _) | (with_reducible refine Kd.C_drewN ?_ _) | (with_reducible refine Kd.C_drew ?_))); (case side2 => exact (Kd.R_reads' HO268.out).2.1); (case side3 => repeat (first | exact (Kd.Q_reads' HO272.out).2.2 | (with_reducible refine Kd.C_alloc ?_ _) | (with_reducible refine Kd.C_drewN ?_ _) | (with_reducible refine Kd.C_drew ?_))); (case side4 => exact (Kd.Q_reads' HO272.out).2.1); rintro e w' ⟨rfl, ⟨nd, rfl⟩⟩; (try first | exact ⟨rfl, _, World.drewN_drewN _ _ _⟩ | exact ⟨rfl, _, Eq.trans (World.drewN_drewN _ _ _) (congrArg (World.drewN _) (Nat.add_assoc _ _ _))⟩))))
                    go_meet
                    case rel => exact ⟨_, (false), (by first | rfl | (simp; done) | (simp [*]; done)), H', ⟨by first | omega | exact Nat.le_refl _⟩, ⟨by (with_reducible repeat (first | apply Kd.R_alloc | apply Kd.R_drewN | apply Kd.R_drew)); exact Kd.R_mono HO268.out (fun _ hk => trivial)⟩, ⟨by repeat (first | (with_reducible first | exact HB.out | apply below_alloc | apply pw_below_drewN | apply below_drew1) | exact HB.out)⟩⟩
              · replace c21 := Bool.eq_false_iff.mpr c21
                subst c21
                have H1 : (laws_FnPeriodsOfFractions.j0 k l1 t256 t257 t258 t259 t260 t261 t265 t266 true) = some r := by rw [if_neg (show ¬ (false = true) by decide)] at H; exact H
                clear H
                have H := H1
                clear H1
                exact (laws_FnPeriodsOfFractions.j0_no HR_.out _ _ _ _ _ _ _ _ _ _ H).elim
          · rw [if_neg c18] at H
            have c18b0 : (t260 == t263) = false := beq_eq_false_iff_ne.mpr c18
            have c18b1 : (t260 != t263) = true := bne_iff_ne.mpr c18
            exact (laws_FnPeriodsOfFractions.j0_no HR_.out _ _ _ _ _ _ _ _ _ _ H).elim
        · rw [if_neg c17] at H
          have c17b0 : (t259 == t262) = false := beq_eq_false_iff_ne.mpr c17
          have c17b1 : (t259 != t262) = true := bne_iff_ne.mpr c17
          exact (laws_FnPeriodsOfFractions.j0_no HR_.out _ _ _ _ _ _ _ _ _ _ H).elim
    case rest =>
      clear HC10
      try clear c1
      try clear c2
      try clear p2
      try clear c4
      try clear c8
      try clear c16
      try clear c16b0
      try clear c16b1
      try clear c16b2
      try clear c17
      try clear c17b0
      try clear c17b1
      try clear c18
      try clear c18b0
      try clear c18b1
      try clear c19
      try clear c19b0
      try clear c19b1
      try clear c19b2
      try clear c21
      try clear c22
      obtain ⟨kq, x111_9, rfl, HA, HJ9, HO_14, HB⟩ := hcut
      cases kq with
      | zero => exact absurd HA.out (by simp [laws_FnPeriodsOfFractions.j0])
      | succ kj9 =>
        have H := HA.out
        clear HA
        simp only [laws_FnPeriodsOfFractions.j0] at H
        by_cases c27 : x111_9 = true
        · subst c27
          have H1 : (some false) = some r := by rw [if_pos rfl] at H; exact H
          clear H
          have H := H1
          clear H1
          exact absurd (Option.some.inj H) (by rw [HR_.out]; decide)
        · replace c27 := Bool.eq_false_iff.mpr c27
          subst c27
          have H1 : (if t261 = true then ((impl_OrderOf.f kj9 t257 t258).bind fun bt274 => ((laws_qGcd.f kj9 t257 t258).bind fun t276 => (if (bt274.2 != (t276 == 1)) = true then (laws_FnPeriodsOfFractions.j1 kj9 l1 t256 t257 t258 t259 t260 t265 t266 true) else (if bt274.2 = true then ((laws_qGcd.f kj9 t256 t257).bind fun t277 => (if t277 = 1 then (if t259 = 0 then (if t260 = bt274.1 then (laws_FnPeriodsOfFractions.j1 kj9 l1 t256 t257 t258 t259 t260 t265 t266 (decide (bt274.1 > t257))) else (laws_FnPeriodsOfFractions.j1 kj9 l1 t256 t257 t258 t259 t260 t265 t266 true)) else (laws_FnPeriodsOfFractions.j1 kj9 l1 t256 t257 t258 t259 t260 t265 t266 true)) else (laws_FnPeriodsOfFractions.j1 kj9 l1 t256 t257 t258 t259 t260 t265 t266 (decide (bt274.1 > t257))))) else (laws_FnPeriodsOfFractions.j1 kj9 l1 t256 t257 t258 t259 t260 t265 t266 false))))) else (laws_FnPeriodsOfFractions.j4 kj9 l1)) = some r := by rw [if_neg (show ¬ (false = true) by decide)] at H; exact H
          clear H
          have H := H1
          clear H1
          have HC28 := Aside0.mk H
          clear H
          go_upto_if 112 with (fail)
          repeat (go_quiet (fail); go_upto_if 112 with (fail))
          go_cut [] (fun wc => ∃ (kq : Nat), Aside0 (laws_FnPeriodsOfFractions.j4 kq l1 = some r) ∧ Aside0 (kq ≤ kj9) ∧ Aside0 (Below w.heap.size w wc))
          case first =>
            have H := HC28.out
            clear HC28
            by_cases c29 : t261 = true
            · subst c29
              have H1 : ((impl_OrderOf.f kj9 t257 t258).bind fun bt274 => ((laws_qGcd.f kj9 t257 t258).bind fun t276 => (if (bt274.2 != (t276 == 1)) = true then (laws_FnPeriodsOfFractions.j1 kj9 l1 t256 t257 t258 t259 t260 t265 t266 true) else (if bt274.2 = true then ((laws_qGcd.f kj9 t256 t257).bind fun t277 => (if t277 = 1 then (if t259 = 0 then (if t260 = bt274.1 then (laws_FnPeriodsOfFractions.j1 kj9 l1 t256 t257 t258 t259 t260 t265 t266 (decide (bt274.1 > t257))) else (laws_FnPeriodsOfFractions.j1 kj9 l1 t256 t257 t258 t259 t260 t265 t266 true)) else (laws_FnPeriodsOfFractions.j1 kj9 l1 t256 t257 t258 t259 t260 t265 t266 true)) else (laws_FnPeriodsOfFractions.j1 kj9 l1 t256 t257 t258 t259 t260 t265 t266 (decide (bt274.1 > t257))))) else (laws_FnPeriodsOfFractions.j1 kj9 l1 t256 t257 t258 t259 t260 t265 t266 false))))) = some r := by rw [if_pos rfl] at H; exact H
              clear H
              have H := H1
              clear H1
              replace H := Option.bind_eq_some_iff.mp H
              obtain ⟨⟨t274, t275⟩, A300, H⟩ := H
              replace H : ((laws_qGcd.f kj9 t257 t258).bind fun t276 => (if (t275 != (t276 == 1)) = true then (laws_FnPeriodsOfFractions.j1 kj9 l1 t256 t257 t258 t259 t260 t265 t266 true) else (if t275 = true then ((laws_qGcd.f kj9 t256 t257).bind fun t277 => (if t277 = 1 then (if t259 = 0 then (if t260 = t274 then (laws_FnPeriodsOfFractions.j1 kj9 l1 t256 t257 t258 t259 t260 t265 t266 (decide (t274 > t257))) else (laws_FnPeriodsOfFractions.j1 kj9 l1 t256 t257 t258 t259 t260 t265 t266 true)) else (laws_FnPeriodsOfFractions.j1 kj9 l1 t256 t257 t258 t259 t260 t265 t266 true)) else (laws_FnPeriodsOfFractions.j1 kj9 l1 t256 t257 t258 t259 t260 t265 t266 (decide (t274 > t257))))) else (laws_FnPeriodsOfFractions.j1 kj9 l1 t256 t257 t258 t259 t260 t265 t266 false)))) = some r := H
              have A30 := Aside0.mk A300
              clear A300
              have HC31 := Aside0.mk H
              clear H
              go_upto_region 12 with (first | (go_at_call 68; (with_reducible refine (impl_OrderOf.calls kj9 t257 t258 t274 t275 _ A30.out).mono ?_); rintro e w' ⟨rfl, ⟨nd, rfl⟩⟩; (try first | exact ⟨rfl, _, World.drewN_drewN _ _ _⟩ | exact ⟨rfl, _, Eq.trans (World.drewN_drewN _ _ _) (congrArg (World.drewN _) (Nat.add_assoc _ _ _))⟩)))
              repeat (go_quiet (first | (go_at_call 68; (with_reducible refine (impl_OrderOf.calls kj9 t257 t258 t274 t275 _ A30.out).mono ?_); rintro e w' ⟨rfl, ⟨nd, rfl⟩⟩; (try first | exact ⟨rfl, _, World.drewN_drewN _ _ _⟩ | exact ⟨rfl, _, Eq.trans (World.drewN_drewN _ _ _) (congrArg (World.drewN _) (Nat.add_assoc _ _ _))⟩))); go_upto_region 12 with (first | (go_at_call 68; (with_reducible refine (impl_OrderOf.calls kj9 t257 t258 t274 t275 _ A30.out).mono ?_); rintro e w' ⟨rfl, ⟨nd, rfl⟩⟩; (try first | exact ⟨rfl, _, World.drewN_drewN _ _ _⟩ | exact ⟨rfl, _, Eq.trans (World.drewN_drewN _ _ _) (congrArg (World.drewN _) (Nat.add_assoc _ _ _))⟩))))
              (try simp only [Act.put, List.setIfInBounds_toArray, List.set_cons_zero, List.set_cons_succ])
              go_cut [150] (fun v150 wc => ∃ (kq : Nat) (x150_30 : Bool), v150 = .bool x150_30 ∧ Aside0 (laws_FnPeriodsOfFractions.j1 kq l1 t256 t257 t258 t259 t260 t265 t266 x150_30 = some r) ∧ Aside0 (kq ≤ kj9) ∧ Aside0 (Kd.R (Kd.int .i64) 3 wc w.heap.size (fun _ => True) v267 t265) ∧ Aside0 (Below w.heap.size w wc))
              case first =>
                have H := HC31.out
                clear HC31
                replace H := Option.bind_eq_some_iff.mp H
                obtain ⟨t276, A320, H⟩ := H
                replace H : (if (t275 != (t276 == 1)) = true then (laws_FnPeriodsOfFractions.j1 kj9 l1 t256 t257 t258 t259 t260 t265 t266 true) else (if t275 = true then ((laws_qGcd.f kj9 t256 t257).bind fun t277 => (if t277 = 1 then (if t259 = 0 then (if t260 = t274 then (laws_FnPeriodsOfFractions.j1 kj9 l1 t256 t257 t258 t259 t260 t265 t266 (decide (t274 > t257))) else (laws_FnPeriodsOfFractions.j1 kj9 l1 t256 t257 t258 t259 t260 t265 t266 true)) else (laws_FnPeriodsOfFractions.j1 kj9 l1 t256 t257 t258 t259 t260 t265 t266 true)) else (laws_FnPeriodsOfFractions.j1 kj9 l1 t256 t257 t258 t259 t260 t265 t266 (decide (t274 > t257))))) else (laws_FnPeriodsOfFractions.j1 kj9 l1 t256 t257 t258 t259 t260 t265 t266 false))) = some r := H
                have A32 := Aside0.mk A320
                clear A320
                by_cases c33 : (t275 != (t276 == 1)) = true
                · rw [if_pos c33] at H
                  have c33b0 : (t275 != (t276 == 1)) = true := c33
                  (try (have c33b1 : decide (t275 = (t276 == 1)) = false := by simpa using c33))
                  (try (have c33b2 : (t275 == (t276 == 1)) = false := by simpa using c33))
                  (try (have c33b3 : ¬ (t275 = (t276 == 1)) := by simpa using c33))
                  clear c33
                  (first | rw [c33b0] | (simp only [i64_w, i32_w]; rw [c33b0]) | skip)
                  exact (laws_FnPeriodsOfFractions.j1_no HR_.out _ _ _ _ _ _ _ _ _ H).elim
                · rw [if_neg c33] at H
                  have c33b0 : (t275 != (t276 == 1)) = false := by simpa using c33
                  (try (have c33b1 : decide (t275 = (t276 == 1)) = true := by simpa using c33))
                  (try (have c33b2 : (t275 == (t276 == 1)) = true := by simpa using c33))
                  clear c33
                  (first | rw [c33b0] | (simp only [i64_w, i32_w]; rw [c33b0]) | skip)
                  by_cases c34 : t275 = true
                  · subst c34
                    have H1 : ((laws_qGcd.f kj9 t256 t257).bind fun t277 => (if t277 = 1 then (if t259 = 0 then (if t260 = t274 then (laws_FnPeriodsOfFractions.j1 kj9 l1 t256 t257 t258 t259 t260 t265 t266 (decide (t274 > t257))) else (laws_FnPeriodsOfFractions.j1 kj9 l1 t256 t257 t258 t259 t260 t265 t266 true)) else (laws_FnPeriodsOfFractions.j1 kj9 l1 t256 t257 t258 t259 t260 t265 t266 true)) else (laws_FnPeriodsOfFractions.j1 kj9 l1 t256 t257 t258 t259 t260 t265 t266 (decide (t274 > t257))))) = some r := by rw [if_pos rfl] at H; exact H
                    clear H
                    have H := H1
                    clear H1
                    replace H := Option.bind_eq_some_iff.mp H
                    obtain ⟨t277, A350, H⟩ := H
                    replace H : (if t277 = 1 then (if t259 = 0 then (if t260 = t274 then (laws_FnPeriodsOfFractions.j1 kj9 l1 t256 t257 t258 t259 t260 t265 t266 (decide (t274 > t257))) else (laws_FnPeriodsOfFractions.j1 kj9 l1 t256 t257 t258 t259 t260 t265 t266 true)) else (laws_FnPeriodsOfFractions.j1 kj9 l1 t256 t257 t258 t259 t260 t265 t266 true)) else (laws_FnPeriodsOfFractions.j1 kj9 l1 t256 t257 t258 t259 t260 t265 t266 (decide (t274 > t257)))) = some r := H
                    have A35 := Aside0.mk A350
                    clear A350
                    by_cases c36 : t277 = 1
                    · rw [if_pos c36] at H
                      have c36b0 : (t277 == 1) = true := beq_iff_eq.mpr c36
                      have c36b1 : (t277 != 1) = false := bne_eq_false_iff_eq.mpr c36
                      clear c36
                      by_cases c37 : t259 = 0
                      · rw [if_pos c37] at H
                        have c37b0 : (t259 == 0) = true := beq_iff_eq.mpr c37
                        have c37b1 : (t259 != 0) = false := bne_eq_false_iff_eq.mpr c37
                        clear c37
                        by_cases c38 : t260 = t274
                        · rw [if_pos c38] at H
                          have c38b0 : (t260 == t274) = true := beq_iff_eq.mpr c38
                          have c38b1 : (t260 != t274) = false := bne_eq_false_iff_eq.mpr c38
                          clear c38
                          as_aux_lemma =>
                            have H' := Aside0.mk H
                            clear H
                            go_wp2_with (first | (go_at_call 50; (with_reducible refine (laws_qGcd.calls kj9 t257 t258 t276 _ A32.out).mono ?_); rintro e w' ⟨rfl, ⟨nd, rfl⟩⟩; (try first | exact ⟨rfl, _, World.drewN_drewN _ _ _⟩ | exact ⟨rfl, _, Eq.trans (World.drewN_drewN _ _ _) (congrArg (World.drewN _) (Nat.add_assoc _ _ _))⟩)) | (go_at_call 50; (with_reducible refine (laws_qGcd.calls kj9 t256 t257 t277 _ A35.out).mono ?_); rintro e w' ⟨rfl, ⟨nd, rfl⟩⟩; (try first | exact ⟨rfl, _, World.drewN_drewN _ _ _⟩ | exact ⟨rfl, _, Eq.trans (World.drewN_drewN _ _ _) (congrArg (World.drewN _) (Nat.add_assoc _ _ _))⟩)))
                            repeat (go_quiet (first | (go_at_call 50; (with_reducible refine (laws_qGcd.calls kj9 t257 t258 t276 _ A32.out).mono ?_); rintro e w' ⟨rfl, ⟨nd, rfl⟩⟩; (try first | exact ⟨rfl, _, World.drewN_drewN _ _ _⟩ | exact ⟨rfl, _, Eq.trans (World.drewN_drewN _ _ _) (congrArg (World.drewN _) (Nat.add_assoc _ _ _))⟩)) | (go_at_call 50; (with_reducible refine (laws_qGcd.calls kj9 t256 t257 t277 _ A35.out).mono ?_); rintro e w' ⟨rfl, ⟨nd, rfl⟩⟩; (try first | exact ⟨rfl, _, World.drewN_drewN _ _ _⟩ | exact ⟨rfl, _, Eq.trans (World.drewN_drewN _ _ _) (congrArg (World.drewN _) (Nat.add_assoc _ _ _))⟩))); try go_wp2_with (first | (go_at_call 50; (with_reducible refine (laws_qGcd.calls kj9 t257 t258 t276 _ A32.out).mono ?_); rintro e w' ⟨rfl, ⟨nd, rfl⟩⟩; (try first | exact ⟨rfl, _, World.drewN_drewN _ _ _⟩ | exact ⟨rfl, _, Eq.trans (World.drewN_drewN _ _ _) (congrArg (World.drewN _) (Nat.add_assoc _ _ _))⟩)) | (go_at_call 50; (with_reducible refine (laws_qGcd.calls kj9 t256 t257 t277 _ A35.out).mono ?_); rintro e w' ⟨rfl, ⟨nd, rfl⟩⟩; (try first | exact ⟨rfl, _, World.drewN_drewN _ _ _⟩ | exact ⟨rfl, _, Eq.trans (World.drewN_drewN _ _ _) (congrArg (World.drewN _) (Nat.add_assoc _ _ _))⟩))))
                            go_meet
                            case rel => exact ⟨_, (decide (t274 > t257)), (by first | rfl | (simp; done) | (simp [*]; done)), H', ⟨by have := HJ9.out; first | omega | exact Nat.le_refl _⟩, ⟨by (with_reducible repeat (first | apply Kd.R_alloc | apply Kd.R_drewN | apply Kd.R_drew)); exact HO_14.out⟩, ⟨by repeat (first | (with_reducible first | exact HB.out | apply below_alloc | apply pw_below_drewN | apply below_drew1) | exact HB.out)⟩⟩
                        · rw [if_neg c38] at H
                          have c38b0 : (t260 == t274) = false := beq_eq_false_iff_ne.mpr c38
                          have c38b1 : (t260 != t274) = true := bne_iff_ne.mpr c38
                          exact (laws_FnPeriodsOfFractions.j1_no HR_.out _ _ _ _ _ _ _ _ _ H).elim
                      · rw [if_neg c37] at H
                        have c37b0 : (t259 == 0) = false := beq_eq_false_iff_ne.mpr c37
                        have c37b1 : (t259 != 0) = true := bne_iff_ne.mpr c37
                        exact (laws_FnPeriodsOfFractions.j1_no HR_.out _ _ _ _ _ _ _ _ _ H).elim
                    · rw [if_neg c36] at H
                      have c36b0 : (t277 == 1) = false := beq_eq_false_iff_ne.mpr c36
                      have c36b1 : (t277 != 1) = true := bne_iff_ne.mpr c36
                      as_aux_lemma =>
                        have H' := Aside0.mk H
                        clear H
                        go_wp2_with (first | (go_at_call 50; (with_reducible refine (laws_qGcd.calls kj9 t257 t258 t276 _ A32.out).mono ?_); rintro e w' ⟨rfl, ⟨nd, rfl⟩⟩; (try first | exact ⟨rfl, _, World.drewN_drewN _ _ _⟩ | exact ⟨rfl, _, Eq.trans (World.drewN_drewN _ _ _) (congrArg (World.drewN _) (Nat.add_assoc _ _ _))⟩)) | (go_at_call 50; (with_reducible refine (laws_qGcd.calls kj9 t256 t257 t277 _ A35.out).mono ?_); rintro e w' ⟨rfl, ⟨nd, rfl⟩⟩; (try first | exact ⟨rfl, _, World.drewN_drewN _ _ _⟩ | exact ⟨rfl, _, Eq.trans (World.drewN_drewN _ _ _) (congrArg (World.drewN _) (Nat.add_assoc _ _ _))⟩)))
                        repeat (go_quiet (first | (go_at_call 50; (with_reducible refine (laws_qGcd.calls kj9 t257 t258 t276 _ A32.out).mono ?_); rintro e w' ⟨rfl, ⟨nd, rfl⟩⟩; (try first | exact ⟨rfl, _, World.drewN_drewN _ _ _⟩ | exact ⟨rfl, _, Eq.trans (World.drewN_drewN _ _ _) (congrArg (World.drewN _) (Nat.add_assoc _ _ _))⟩)) | (go_at_call 50; (with_reducible refine (laws_qGcd.calls kj9 t256 t257 t277 _ A35.out).mono ?_); rintro e w' ⟨rfl, ⟨nd, rfl⟩⟩; (try first | exact ⟨rfl, _, World.drewN_drewN _ _ _⟩ | exact ⟨rfl, _, Eq.trans (World.drewN_drewN _ _ _) (congrArg (World.drewN _) (Nat.add_assoc _ _ _))⟩))); try go_wp2_with (first | (go_at_call 50; (with_reducible refine (laws_qGcd.calls kj9 t257 t258 t276 _ A32.out).mono ?_); rintro e w' ⟨rfl, ⟨nd, rfl⟩⟩; (try first | exact ⟨rfl, _, World.drewN_drewN _ _ _⟩ | exact ⟨rfl, _, Eq.trans (World.drewN_drewN _ _ _) (congrArg (World.drewN _) (Nat.add_assoc _ _ _))⟩)) | (go_at_call 50; (with_reducible refine (laws_qGcd.calls kj9 t256 t257 t277 _ A35.out).mono ?_); rintro e w' ⟨rfl, ⟨nd, rfl⟩⟩; (try first | exact ⟨rfl, _, World.drewN_drewN _ _ _⟩ | exact ⟨rfl, _, Eq.trans (World.drewN_drewN _ _ _) (congrArg (World.drewN _) (Nat.add_assoc _ _ _))⟩))))
                        go_meet
                        case rel => exact ⟨_, (decide (t274 > t257)), (by first | rfl | (simp; done) | (simp [*]; done)), H', ⟨by have := HJ9.out; first | omega | exact Nat.le_refl _⟩, ⟨by (with_reducible repeat (first | apply Kd.R_alloc | apply Kd.R_drewN | apply Kd.R_drew)); exact HO_14.out⟩, ⟨by repeat (first | (with_reducible first | exact HB.out | apply below_alloc | apply pw_below_drewN | apply below_drew1) | exact HB.out)⟩⟩
                  · replace c34 := Bool.eq_false_iff.mpr c34
                    subst c34
                    have H1 : (laws_FnPeriodsOfFractions.j1 kj9 l1 t256 t257 t258 t259 t260 t265 t266 false) = some r := by rw [if_neg (show ¬ (false = true) by decide)] at H; exact H
                    clear H
                    have H := H1
                    clear H1
                    as_aux_lemma =>
                      have H' := Aside0.mk H
                      clear H
                      go_wp2_with (first | (go_at_call 50; (with_reducible refine (laws_qGcd.calls kj9 t257 t258 t276 _ A32.out).mono ?_); rintro e w' ⟨rfl, ⟨nd, rfl⟩⟩; (try first | exact ⟨rfl, _, World.drewN_drewN _ _ _⟩ | exact ⟨rfl, _, Eq.trans (World.drewN_drewN _ _ _) (congrArg (World.drewN _) (Nat.add_assoc _ _ _))⟩)))
                      repeat (go_quiet (first | (go_at_call 50; (with_reducible refine (laws_qGcd.calls kj9 t257 t258 t276 _ A32.out).mono ?_); rintro e w' ⟨rfl, ⟨nd, rfl⟩⟩; (try first | exact ⟨rfl, _, World.drewN_drewN _ _ _⟩ | exact ⟨rfl, _, Eq.trans (World.drewN_drewN _ _ _) (congrArg (World.drewN _) (Nat.add_assoc _ _ _))⟩))); try go_wp2_with (first | (go_at_call 50; (with_reducible refine (laws_qGcd.calls kj9 t257 t258 t276 _ A32.out).mono ?_); rintro e w' ⟨rfl, ⟨nd, rfl⟩⟩; (try first | exact ⟨rfl, _, World.drewN_drewN _ _ _⟩ | exact ⟨rfl, _, Eq.trans (World.drewN_drewN _ _ _) (congrArg (World.drewN _) (Nat.add_assoc _ _ _))⟩))))
                      go_meet
                      case rel => exact ⟨_, (false), (by first | rfl | (simp; done) | (simp [*]; done)), H', ⟨by have := HJ9.out; first | omega | exact Nat.le_refl _⟩, ⟨by (with_reducible repeat (first | apply Kd.R_alloc | apply Kd.R_drewN | apply Kd.R_drew)); exact HO_14.out⟩, ⟨by repeat (first | (with_reducible first | exact HB.out | apply below_alloc | apply pw_below_drewN | apply below_drew1) | exact HB.out)⟩⟩
              case rest =>
                clear HC31
                try clear c1
                try clear c2
                try clear p2
                try clear c3
                try clear c4
                try clear c8
                try clear c16
                try clear c16b0
                try clear c16b1
                try clear c16b2
                try clear c17
                try clear c17b0
                try clear c17b1
                try clear c18
                try clear c18b0
                try clear c18b1
                try clear c19
                try clear c19b0
                try clear c19b1
                try clear c19b2
                try clear c21
                try clear c22
                try clear c27
                try clear c29
                try clear c33
                try clear c33b0
                try clear c33b1
                try clear c33b2
                try clear c34
                try clear c36
                try clear c36b0
                try clear c36b1
                try clear c37
                try clear c37b0
                try clear c37b1
                try clear c38
                try clear c38b0
                try clear c38b1
                try clear p2
                obtain ⟨kq, x150_30, rfl, HA, HJ30, HO_14, HB⟩ := hcut
                cases kq with
                | zero => exact absurd HA.out (by simp [laws_FnPeriodsOfFractions.j1])
                | succ kj30 =>
                  have H := HA.out
                  clear HA
                  simp only [laws_FnPeriodsOfFractions.j1] at H
                  by_cases c39 : x150_30 = true
                  · subst c39
                    have H1 : (some false) = some r := by rw [if_pos rfl] at H; exact H
                    clear H
                    have H := H1
                    clear H1
                    exact absurd (Option.some.inj H) (by rw [HR_.out]; decide)
                  · replace c39 := Bool.eq_false_iff.mpr c39
                    subst c39
                    have H1 : (if (wrap64 (t259 + (wrap64 (2 * t260)))) ≤ 200 then ((impl_FractionDigits.f kj30 t256 t257 t258 (wrap64 (t259 + (wrap64 (2 * t260))))).bind fun bt278 => (if bt278.2 = true then (laws_FnPeriodsOfFractions.l0 kj30 l1 t256 t257 t258 t259 t260 t265 t266 bt278.1 t259) else (some false))) else (laws_FnPeriodsOfFractions.j4 kj30 l1)) = some r := by rw [if_neg (show ¬ (false = true) by decide)] at H; exact H
                    clear H
                    have H := H1
                    clear H1
                    by_cases c40 : (wrap64 (t259 + (wrap64 (2 * t260)))) ≤ 200
                    · rw [if_pos c40] at H
                      have c40b0 : decide ((wrap64 (t259 + (wrap64 (2 * t260)))) ≤ 200) = true := decide_eq_true c40
                      clear c40
                      replace H := Option.bind_eq_some_iff.mp H
                      obtain ⟨⟨t278, t279⟩, A410, H⟩ := H
                      replace H : (if t279 = true then (laws_FnPeriodsOfFractions.l0 kj30 l1 t256 t257 t258 t259 t260 t265 t266 t278 t259) else (some false)) = some r := H
                      have A41 := Aside0.mk A410
                      clear A410
                      by_cases c42 : t279 = true
                      · subst c42
                        have H1 : (laws_FnPeriodsOfFractions.l0 kj30 l1 t256 t257 t258 t259 t260 t265 t266 t278 t259) = some r := by rw [if_pos rfl] at H; exact H
                        clear H
                        have H := H1
                        clear H1
                        have H' := Aside0.mk H
                        clear H
                        go_wp2_with (first | (go_at_call 69; (with_reducible refine (impl_FractionDigits.calls kj30 t256 t257 t258 (wrap64 (t259 + (wrap64 (2 * t260)))) t278 true _ A41.out).mono ?_); rintro e w43 ⟨v280, rfl, ho0, hb⟩; have n0_ := Aside0.mk (Kd.R_elder' (by (with_reducible repeat (first | apply Kd.R_alloc | apply Kd.R_drewN | apply Kd.R_drew)); exact HO_14.out) (Kd.R_base ho0) hb); have n1_ := Aside0.mk (Kd.R_lower (Kd.R_new' ho0 (Kd.R_lt (by (with_reducible repeat (first | apply Kd.R_alloc | apply Kd.R_drewN | apply Kd.R_drew)); exact HO_14.out))) (below_size (by repeat (first | (with_reducible first | exact HB.out | apply below_alloc | apply pw_below_drewN | apply below_drew1) | exact HB.out)))); have n2_ := Aside0.mk (below_step (by repeat (first | (with_reducible first | exact HB.out | apply below_alloc | apply pw_below_drewN | apply below_drew1) | exact HB.out)) hb); clear HO_14; clear HB; have HO_14 := n0_; have HO281 := n1_; have HB := n2_; clear n0_ n1_ n2_; (try clear hb); (try clear hb2); (try clear hk); (try clear hi); (try clear ho0)))
                        repeat (go_quiet (first | (go_at_call 69; (with_reducible refine (impl_FractionDigits.calls kj30 t256 t257 t258 (wrap64 (t259 + (wrap64 (2 * t260)))) t278 true _ A41.out).mono ?_); rintro e w43 ⟨v280, rfl, ho0, hb⟩; have n0_ := Aside0.mk (Kd.R_elder' (by (with_reducible repeat (first | apply Kd.R_alloc | apply Kd.R_drewN | apply Kd.R_drew)); exact HO_14.out) (Kd.R_base ho0) hb); have n1_ := Aside0.mk (Kd.R_lower (Kd.R_new' ho0 (Kd.R_lt (by (with_reducible repeat (first | apply Kd.R_alloc | apply Kd.R_drewN | apply Kd.R_drew)); exact HO_14.out))) (below_size (by repeat (first | (with_reducible first | exact HB.out | apply below_alloc | apply pw_below_drewN | apply below_drew1) | exact HB.out)))); have n2_ := Aside0.mk (below_step (by repeat (first | (with_reducible first | exact HB.out | apply below_alloc | apply pw_below_drewN | apply below_drew1) | exact HB.out)) hb); clear HO_14; clear HB; have HO_14 := n0_; have HO281 := n1_; have HB := n2_; clear n0_ n1_ n2_; (try clear hb); (try clear hb2); (try clear hk); (try clear hi); (try clear ho0))); try go_wp2_with (first | (go_at_call 69; (with_reducible refine (impl_FractionDigits.calls kj30 t256 t257 t258 (wrap64 (t259 + (wrap64 (2 * t260)))) t278 true _ A41.out).mono ?_); rintro e w43 ⟨v280, rfl, ho0, hb⟩; have n0_ := Aside0.mk (Kd.R_elder' (by (with_reducible repeat (first | apply Kd.R_alloc | apply Kd.R_drewN | apply Kd.R_drew)); exact HO_14.out) (Kd.R_base ho0) hb); have n1_ := Aside0.mk (Kd.R_lower (Kd.R_new' ho0 (Kd.R_lt (by (with_reducible repeat (first | apply Kd.R_alloc | apply Kd.R_drewN | apply Kd.R_drew)); exact HO_14.out))) (below_size (by repeat (first | (with_reducible first | exact HB.out | apply below_alloc | apply pw_below_drewN | apply below_drew1) | exact HB.out)))); have n2_ := Aside0.mk (below_step (by repeat (first | (with_reducible first | exact HB.out | apply below_alloc | apply pw_below_drewN | apply below_drew1) | exact HB.out)) hb); clear HO_14; clear HB; have HO_14 := n0_; have HO281 := n1_; have HB := n2_; clear n0_ n1_ n2_; (try clear hb); (try clear hb2); (try clear hk); (try clear hi); (try clear ho0))))
                        go_loopg [22] kj30 (fun kq v22 w' => ∃ (x22_3 : Int), v22 = .int .i64 x22_3 ∧ Aside0 (laws_FnPeriodsOfFractions.l0 kq l1 t256 t257 t258 t259 t260 t265 t266 t278 x22_3 = some r) ∧ Aside0 (kq ≤ kj30) ∧ Aside0 (Kd.R (Kd.int .i64) 3 w' w.heap.size (fun k_ => some k_ ≠ (v280 : Value).ownBlock) v267 t265) ∧ Aside0 (Kd.R (Kd.int .i64) 3 w' w.heap.size (fun k_ => some k_ ≠ (v267 : Value).ownBlock) v280 t278) ∧ Aside0 (Below w.heap.size w w'))
                        case atStart => exact ⟨(t259), (by first | rfl | (simp; done) | (simp [*]; done)), H', ⟨Nat.le_refl _⟩, ⟨by (with_reducible repeat (first | apply Kd.R_alloc | apply Kd.R_drewN | apply Kd.R_drew)); exact Kd.R_mono HO_14.out (fun _ hk => hk.2)⟩, ⟨by (with_reducible repeat (first | apply Kd.R_alloc | apply Kd.R_drewN | apply Kd.R_drew)); exact Kd.R_mono HO281.out (fun _ hk => hk.2)⟩, ⟨by repeat (first | (with_reducible first | exact HB.out | apply below_alloc | apply pw_below_drewN | apply below_drew1) | exact HB.out)⟩⟩
                        case round =>
                          clear H'
                          try clear c1
                          try clear c2
                          try clear p2
                          try clear c3
                          try clear c4
                          try clear p6
                          try clear c8
                          try clear c16
                          try clear c16b0
                          try clear c16b1
                          try clear c16b2
                          try clear c17
                          try clear c17b0
                          try clear c17b1
                          try clear c18
                          try clear c18b0
                          try clear c18b1
                          try clear c19
                          try clear c19b0
                          try clear c19b1
                          try clear c19b2
                          try clear c21
                          try clear c22
                          try clear c27
                          try clear c29
                          try clear c33
                          try clear c33b0
                          try clear c33b1
                          try clear c33b2
                          try clear c34
                          try clear c36
                          try clear c36b0
                          try clear c36b1
                          try clear c37
                          try clear c37b0
                          try clear c37b1
                          try clear c38
                          try clear c38b0
                          try clear c38b1
                          try clear c39
                          try clear c40
                          try clear c40b0
                          try clear c42
                          try clear p2
                          obtain ⟨x22_3, rfl, HA, HK3, HO_14, HO_20, HB⟩ := hrel
                          cases gk with
                          | zero => exact absurd HA.out (by simp [laws_FnPeriodsOfFractions.l0])
                          | succ k3 =>
                            have H := HA.out
                            clear HA
                            simp only [laws_FnPeriodsOfFractions.l0] at H
                            by_cases c44 : x22_3 < (wrap64 (t259 + t260))
                            · rw [if_pos c44] at H
                              have c44b0 : decide (x22_3 < (wrap64 (t259 + t260))) = true := decide_eq_true c44
                              clear c44
                              by_cases c45 : 0 ≤ x22_3
                              · rw [if_pos c45] at H
                                have c45b0 : decide (0 ≤ x22_3) = true := decide_eq_true c45
                                clear c45
                                by_cases c46 : x22_3 < (t278.length : Int)
                                · rw [if_pos c46] at H
                                  have c46b0 : decide (x22_3 < (t278.length : Int)) = true := decide_eq_true c46
                                  clear c46
                                  obtain ⟨ji47, hji47⟩ : ∃ j_ : Int, (wrap64 (x22_3 + t260)) = j_ := ⟨_, rfl⟩
                                  replace H : (if 0 ≤ (ji47) then (if (ji47) < (t278.length : Int) then (if (rd t278 x22_3) = (rd t278 (ji47)) then (if t266 = true then (if 0 ≤ (wrap64 (x22_3 - t259)) then (if (wrap64 (x22_3 - t259)) < (t265.length : Int) then (if (rd t278 x22_3) = (rd t265 (wrap64 (x22_3 - t259))) then (laws_FnPeriodsOfFractions.l0 k3 l1 t256 t257 t258 t259 t260 t265 t266 t278 (wrap64 (x22_3 + 1))) else (some false)) else (none)) else (none)) else (laws_FnPeriodsOfFractions.l0 k3 l1 t256 t257 t258 t259 t260 t265 t266 t278 (wrap64 (x22_3 + 1)))) else (some false)) else (none)) else (none)) = some r := by first | (rw [hji47] at H; exact H) | (simp only [hji47] at H ⊢; exact H)
                                  have hji47w : (IntKind.i64.wrap (x22_3 + t260)) = ji47 := (i64_w _).trans hji47
                                  by_cases c48 : 0 ≤ (ji47)
                                  · rw [if_pos c48] at H
                                    have c48b0 : decide (0 ≤ (ji47)) = true := decide_eq_true c48
                                    clear c48
                                    by_cases c49 : (ji47) < (t278.length : Int)
                                    · rw [if_pos c49] at H
                                      have c49b0 : decide ((ji47) < (t278.length : Int)) = true := decide_eq_true c49
                                      clear c49
                                      by_cases c50 : (rd t278 x22_3) = (rd t278 (ji47))
                                      · rw [if_pos c50] at H
                                        have c50b0 : ((rd t278 x22_3) == (rd t278 (ji47))) = true := beq_iff_eq.mpr c50
                                        have c50b1 : ((rd t278 x22_3) != (rd t278 (ji47))) = false := bne_eq_false_iff_eq.mpr c50
                                        clear c50
                                        by_cases c51 : t266 = true
                                        · subst c51
                                          have H1 : (if 0 ≤ (wrap64 (x22_3 - t259)) then (if (wrap64 (x22_3 - t259)) < (t265.length : Int) then (if (rd t278 x22_3) = (rd t265 (wrap64 (x22_3 - t259))) then (laws_FnPeriodsOfFractions.l0 k3 l1 t256 t257 t258 t259 t260 t265 true t278 (wrap64 (x22_3 + 1))) else (some false)) else (none)) else (none)) = some r := by rw [if_pos rfl] at H; exact H
                                          clear H
                                          have H := H1
                                          clear H1
                                          obtain ⟨ji52, hji52⟩ : ∃ j_ : Int, (wrap64 (x22_3 - t259)) = j_ := ⟨_, rfl⟩
                                          replace H : (if 0 ≤ (ji52) then (if (ji52) < (t265.length : Int) then (if (rd t278 x22_3) = (rd t265 (ji52)) then (laws_FnPeriodsOfFractions.l0 k3 l1 t256 t257 t258 t259 t260 t265 true t278 (wrap64 (x22_3 + 1))) else (some false)) else (none)) else (none)) = some r := by first | (rw [hji52] at H; exact H) | (simp only [hji52] at H ⊢; exact H)
                                          have hji52w : (IntKind.i64.wrap (x22_3 - t259)) = ji52 := (i64_w _).trans hji52
                                          by_cases c53 : 0 ≤ (ji52)
                                          · rw [if_pos c53] at H
                                            have c53b0 : decide (0 ≤ (ji52)) = true := decide_eq_true c53
                                            clear c53
                                            by_cases c54 : (ji52) < (t265.length : Int)
                                            · rw [if_pos c54] at H
                                              have c54b0 : decide ((ji52) < (t265.length : Int)) = true := decide_eq_true c54
                                              clear c54
                                              by_cases c55 : (rd t278 x22_3) = (rd t265 (ji52))
                                              · rw [if_pos c55] at H
                                                have c55b0 : ((rd t278 x22_3) == (rd t265 (ji52))) = true := beq_iff_eq.mpr c55
                                                have c55b1 : ((rd t278 x22_3) != (rd t265 (ji52))) = false := bne_eq_false_iff_eq.mpr c55
                                                clear c55
                                                as_aux_lemma =>
                                                  have H' := Aside0.mk H
                                                  clear H
                                                  obtain ⟨Ao56, co56, eo56⟩ := Kd.R_slice HO_20.out
                                                  subst eo56
                                                  have p282 : 0 ≤ (x22_3 : Int) := of_decide_eq_true (by first | (with_reducible assumption) | assumption)
                                                  have q282 : x22_3 < (t278.length : Int) := of_decide_eq_true (by first | (with_reducible assumption) | assumption)
                                                  obtain ⟨ad282, e282, hx282_0⟩ := Kd.at_int (Kd.R_reads' HO_20.out).2.2 x22_3 p282 q282
                                                  cases e282
                                                  replace p282 := eq_true p282
                                                  replace q282 := eq_true q282
                                                  have p283 : 0 ≤ ((ji47) : Int) := of_decide_eq_true (by first | (with_reducible assumption) | assumption)
                                                  have q283 : (ji47) < (t278.length : Int) := of_decide_eq_true (by first | (with_reducible assumption) | assumption)
                                                  obtain ⟨ad283, e283, hx283_0⟩ := Kd.at_int (Kd.R_reads' HO_20.out).2.2 (ji47) p283 q283
                                                  obtain rfl : ad282 = ad283 := (by injection e283)
                                                  replace p283 := eq_true p283
                                                  replace q283 := eq_true q283
                                                  have p284 : 0 ≤ (x22_3 : Int) := of_decide_eq_true (by first | (with_reducible assumption) | assumption)
                                                  have q284 : x22_3 < (t278.length : Int) := of_decide_eq_true (by first | (with_reducible assumption) | assumption)
                                                  obtain ⟨ad284, e284, hx284_0⟩ := Kd.at_int (Kd.R_reads' HO_20.out).2.2 x22_3 p284 q284
                                                  obtain rfl : ad282 = ad284 := (by injection e284)
                                                  replace p284 := eq_true p284
                                                  replace q284 := eq_true q284
                                                  obtain ⟨Ao57, co57, eo57⟩ := Kd.R_slice HO_14.out
                                                  subst eo57
                                                  have p285 : 0 ≤ ((ji52) : Int) := of_decide_eq_true (by first | (with_reducible assumption) | assumption)
                                                  have q285 : (ji52) < (t265.length : Int) := of_decide_eq_true (by first | (with_reducible assumption) | assumption)
                                                  obtain ⟨ad285, e285, hx285_0⟩ := Kd.at_int (Kd.R_reads' HO_14.out).2.2 (ji52) p285 q285
                                                  cases e285
                                                  replace p285 := eq_true p285
                                                  replace q285 := eq_true q285
                                                  go_wp2
                                                  repeat (go_quiet (fail); try go_wp2)
                                                  go_roundg k3
                                                  case measure => have := HJ9.out; have := HJ30.out; have := HK3.out; omega
                                                  case rel => exact ⟨(wrap64 (x22_3 + 1)), (by first | rfl | (simp; done) | (simp [*]; done)), H', ⟨by have := HJ9.out; have := HJ30.out; have := HK3.out; omega⟩, ⟨by (with_reducible repeat (first | apply Kd.R_alloc | apply Kd.R_drewN | apply Kd.R_drew)); exact HO_14.out⟩, ⟨by (with_reducible repeat (first | apply Kd.R_alloc | apply Kd.R_drewN | apply Kd.R_drew)); exact HO_20.out⟩, ⟨by repeat (first | (with_reducible first | exact HB.out | apply below_alloc | apply pw_below_drewN | apply below_drew1) | exact HB.out)⟩⟩
                                              · rw [if_neg c55] at H
                                                have c55b0 : ((rd t278 x22_3) == (rd t265 (ji52))) = false := beq_eq_false_iff_ne.mpr c55
                                                have c55b1 : ((rd t278 x22_3) != (rd t265 (ji52))) = true := bne_iff_ne.mpr c55
                                                exact absurd (Option.some.inj H) (by rw [HR_.out]; decide)
                                            · rw [if_neg c54] at H
                                              exact absurd H (by simp)
                                          · rw [if_neg c53] at H
                                            exact absurd H (by simp)
                                        · replace c51 := Bool.eq_false_iff.mpr c51
                                          subst c51
                                          have H1 : (laws_FnPeriodsOfFractions.l0 k3 l1 t256 t257 t258 t259 t260 t265 false t278 (wrap64 (x22_3 + 1))) = some r := by rw [if_neg (show ¬ (false = true) by decide)] at H; exact H
                                          clear H
                                          have H := H1
                                          clear H1
                                          as_aux_lemma =>
                                            have H' := Aside0.mk H
                                            clear H
                                            obtain ⟨Ao58, co58, eo58⟩ := Kd.R_slice HO_20.out
                                            subst eo58
                                            have p282 : 0 ≤ (x22_3 : Int) := of_decide_eq_true (by first | (with_reducible assumption) | assumption)
                                            have q282 : x22_3 < (t278.length : Int) := of_decide_eq_true (by first | (with_reducible assumption) | assumption)
                                            obtain ⟨ad282, e282, hx282_0⟩ := Kd.at_int (Kd.R_reads' HO_20.out).2.2 x22_3 p282 q282
                                            cases e282
                                            replace p282 := eq_true p282
                                            replace q282 := eq_true q282
                                            have p283 : 0 ≤ ((ji47) : Int) := of_decide_eq_true (by first | (with_reducible assumption) | assumption)
                                            have q283 : (ji47) < (t278.length : Int) := of_decide_eq_true (by first | (with_reducible assumption) | assumption)
                                            obtain ⟨ad283, e283, hx283_0⟩ := Kd.at_int (Kd.R_reads' HO_20.out).2.2 (ji47) p283 q283
                                            obtain rfl : ad282 = ad283 := (by injection e283)
                                            replace p283 := eq_true p283
                                            replace q283 := eq_true q283
                                            go_wp2
                                            repeat (go_quiet (fail); try go_wp2)
                                            go_roundg k3
                                            case measure => have := HJ9.out; have := HJ30.out; have := HK3.out; omega
                                            case rel => exact ⟨(wrap64 (x22_3 + 1)), (by first | rfl | (simp; done) | (simp [*]; done)), H', ⟨by have := HJ9.out; have := HJ30.out; have := HK3.out; omega⟩, ⟨by (with_reducible repeat (first | apply Kd.R_alloc | apply Kd.R_drewN | apply Kd.R_drew)); exact HO_14.out⟩, ⟨by (with_reducible repeat (first | apply Kd.R_alloc | apply Kd.R_drewN | apply Kd.R_drew)); exact HO_20.out⟩, ⟨by repeat (first | (with_reducible first | exact HB.out | apply below_alloc | apply pw_below_drewN | apply below_drew1) | exact HB.out)⟩⟩
                                      · rw [if_neg c50] at H
                                        have c50b0 : ((rd t278 x22_3) == (rd t278 (ji47))) = false := beq_eq_false_iff_ne.mpr c50
                                        have c50b1 : ((rd t278 x22_3) != (rd t278 (ji47))) = true := bne_iff_ne.mpr c50
                                        exact absurd (Option.some.inj H) (by rw [HR_.out]; decide)
                                    · rw [if_neg c49] at H
                                      exact absurd H (by simp)
                                  · rw [if_neg c48] at H
                                    exact absurd H (by simp)
                                · rw [if_neg c46] at H
                                  exact absurd H (by simp)
                              · rw [if_neg c45] at H
                                exact absurd H (by simp)
                            · rw [if_neg c44] at H
                              have c44b0 : decide (x22_3 < (wrap64 (t259 + t260))) = false := decide_eq_false c44
                              clear c44
                              have H' := Aside0.mk H
                              clear H
                              obtain ⟨Ao59, co59, eo59⟩ := Kd.R_slice HO_20.out
                              subst eo59
                              go_wp2
                              repeat (go_quiet (fail); try go_wp2)
                              go_loopg [23, 207] k3 (fun kq v23 v207 w' => ∃ (x23_4 : Int) (x207_4 : Int), v23 = .int .i64 x23_4 ∧ v207 = .int .i64 x207_4 ∧ Aside0 (laws_FnPeriodsOfFractions.l1 kq l1 t257 t258 x23_4 t278 (t278.length : Int) x207_4 = some r) ∧ Aside0 (kq ≤ k3) ∧ Aside0 (Kd.R (Kd.int .i64) 3 w' w.heap.size (fun _ => True) (.slice Ao59 t278.length co59) t278) ∧ Aside0 (Below w.heap.size w w'))
                              case atStart => exact ⟨(t256), (0), (by first | rfl | (simp; done) | (simp [*]; done)), (by first | rfl | (simp; done) | (simp [*]; done)), H', ⟨Nat.le_refl _⟩, ⟨by (with_reducible repeat (first | apply Kd.R_alloc | apply Kd.R_drewN | apply Kd.R_drew)); exact Kd.R_mono HO_20.out (fun _ hk => trivial)⟩, ⟨by repeat (first | (with_reducible first | exact HB.out | apply below_alloc | apply pw_below_drewN | apply below_drew1) | exact HB.out)⟩⟩
                              case round =>
                                clear H'
                                try clear c1
                                try clear c2
                                try clear p2
                                try clear q2
                                try clear hx2
                                try clear c3
                                try clear c4
                                try clear c5
                                try clear p6
                                try clear c8
                                try clear c16
                                try clear c16b0
                                try clear c16b1
                                try clear c16b2
                                try clear c17
                                try clear c17b0
                                try clear c17b1
                                try clear c18
                                try clear c18b0
                                try clear c18b1
                                try clear c19
                                try clear c19b0
                                try clear c19b1
                                try clear c19b2
                                try clear c21
                                try clear c22
                                try clear c27
                                try clear p28
                                try clear q28
                                try clear hx28
                                try clear c29
                                try clear c33
                                try clear c33b0
                                try clear c33b1
                                try clear c33b2
                                try clear c34
                                try clear c36
                                try clear c36b0
                                try clear c36b1
                                try clear c37
                                try clear c37b0
                                try clear c37b1
                                try clear c38
                                try clear c38b0
                                try clear c38b1
                                try clear c39
                                try clear c40
                                try clear c40b0
                                try clear c42
                                try clear c44
                                try clear c44b0
                                try clear c45
                                try clear c45b0
                                try clear c46
                                try clear c46b0
                                try clear c48
                                try clear c48b0
                                try clear c49
                                try clear c49b0
                                try clear c50
                                try clear c50b0
                                try clear c50b1
                                try clear c51
                                try clear c53
                                try clear c53b0
                                try clear c54
                                try clear c54b0
                                try clear c55
                                try clear c55b0
                                try clear c55b1
                                try clear hx282_0
                                try clear hx283_0
                                try clear hx284_0
                                try clear hx285_0
                                try clear p2
                                try clear p282
                                try clear p283
                                try clear p284
                                try clear p285
                                try clear p6
                                try clear q282
                                try clear q283
                                try clear q284
                                try clear q285
                                obtain ⟨x23_4, x207_4, rfl, rfl, HA, HK4, HO_205, HB⟩ := hrel
                                cases gk with
                                | zero => exact absurd HA.out (by simp [laws_FnPeriodsOfFractions.l1])
                                | succ k4 =>
                                  have H := HA.out
                                  clear HA
                                  simp only [laws_FnPeriodsOfFractions.l1] at H
                                  by_cases c60 : x207_4 < (t278.length : Int)
                                  · rw [if_pos c60] at H
                                    have c60b0 : decide (x207_4 < (t278.length : Int)) = true := decide_eq_true c60
                                    clear c60
                                    by_cases c61 : 0 ≤ x207_4
                                    · rw [if_pos c61] at H
                                      have c61b0 : decide (0 ≤ x207_4) = true := decide_eq_true c61
                                      clear c61
                                      by_cases c62 : x207_4 < (t278.length : Int)
                                      · rw [if_pos c62] at H
                                        have c62b0 : decide (x207_4 < (t278.length : Int)) = true := decide_eq_true c62
                                        clear c62
                                        by_cases c63 : t257 = 0
                                        · rw [if_pos c63] at H
                                          exact absurd H (by simp)
                                        · rw [if_neg c63] at H
                                          have c63b0 : (t257 == 0) = false := beq_eq_false_iff_ne.mpr c63
                                          have c63b1 : (t257 != 0) = true := bne_iff_ne.mpr c63
                                          by_cases c64 : (rd t278 x207_4) = (wrap64 (Int.tdiv (wrap64 (x23_4 * t258)) t257))
                                          · rw [if_pos c64] at H
                                            have c64b0 : ((rd t278 x207_4) == (wrap64 (Int.tdiv (wrap64 (x23_4 * t258)) t257))) = true := beq_iff_eq.mpr c64
                                            have c64b1 : ((rd t278 x207_4) != (wrap64 (Int.tdiv (wrap64 (x23_4 * t258)) t257))) = false := bne_eq_false_iff_eq.mpr c64
                                            clear c64
                                            by_cases c65 : (rd t278 x207_4) < 0
                                            · rw [if_pos c65] at H
                                              have c65b0 : decide ((rd t278 x207_4) < 0) = true := decide_eq_true c65
                                              clear c65
                                              exact absurd (Option.some.inj H) (by rw [HR_.out]; decide)
                                            · rw [if_neg c65] at H
                                              have c65b0 : decide ((rd t278 x207_4) < 0) = false := decide_eq_false c65
                                              clear c65
                                              by_cases c66 : (rd t278 x207_4) ≥ t258
                                              · rw [if_pos c66] at H
                                                have c66b0 : decide (t258 ≤ (rd t278 x207_4)) = true := decide_eq_true c66
                                                clear c66
                                                exact absurd (Option.some.inj H) (by rw [HR_.out]; decide)
                                              · rw [if_neg c66] at H
                                                have c66b0 : decide (t258 ≤ (rd t278 x207_4)) = false := decide_eq_false c66
                                                clear c66
                                                as_aux_lemma =>
                                                  have H' := Aside0.mk H
                                                  clear H
                                                  have p286 : 0 ≤ (x207_4 : Int) := of_decide_eq_true (by first | (with_reducible assumption) | assumption)
                                                  have q286 : x207_4 < (t278.length : Int) := of_decide_eq_true (by first | (with_reducible assumption) | assumption)
                                                  obtain ⟨ad286, e286, hx286_0⟩ := Kd.at_int (Kd.R_reads' HO_205.out).2.2 x207_4 p286 q286
                                                  cases e286
                                                  replace p286 := eq_true p286
                                                  replace q286 := eq_true q286
                                                  go_wp2
                                                  repeat (go_quiet (fail); try go_wp2)
                                                  go_roundg k4
                                                  case measure => have := HJ9.out; have := HJ30.out; have := HK3.out; have := HK4.out; omega
                                                  case rel => exact ⟨(Int.tmod (wrap64 (x23_4 * t258)) t257), (wrap64 (x207_4 + 1)), (by first | rfl | (simp; done) | (simp [*]; done)), (by first | rfl | (simp; done) | (simp [*]; done)), H', ⟨by have := HJ9.out; have := HJ30.out; have := HK3.out; have := HK4.out; omega⟩, ⟨by (with_reducible repeat (first | apply Kd.R_alloc | apply Kd.R_drewN | apply Kd.R_drew)); exact HO_205.out⟩, ⟨by repeat (first | (with_reducible first | exact HB.out | apply below_alloc | apply pw_below_drewN | apply below_drew1) | exact HB.out)⟩⟩
                                          · rw [if_neg c64] at H
                                            have c64b0 : ((rd t278 x207_4) == (wrap64 (Int.tdiv (wrap64 (x23_4 * t258)) t257))) = false := beq_eq_false_iff_ne.mpr c64
                                            have c64b1 : ((rd t278 x207_4) != (wrap64 (Int.tdiv (wrap64 (x23_4 * t258)) t257))) = true := bne_iff_ne.mpr c64
                                            exact absurd (Option.some.inj H) (by rw [HR_.out]; decide)
                                      · rw [if_neg c62] at H
                                        exact absurd H (by simp)
                                    · rw [if_neg c61] at H
                                      exact absurd H (by simp)
                                  · rw [if_neg c60] at H
                                    have c60b0 : decide (x207_4 < (t278.length : Int)) = false := decide_eq_false c60
                                    clear c60
                                    as_aux_lemma =>
                                      have H' := Aside0.mk H
                                      clear H
                                      go_wp2
                                      repeat (go_quiet (fail); try go_wp2)
                                      go_meet
                                      case rel => exact ⟨_, H', ⟨by have := HJ9.out; have := HJ30.out; have := HK3.out; have := HK4.out; first | omega | exact Nat.le_refl _⟩, ⟨by repeat (first | (with_reducible first | exact HB.out | apply below_alloc | apply pw_below_drewN | apply below_drew1) | exact HB.out)⟩⟩
                      · replace c42 := Bool.eq_false_iff.mpr c42
                        subst c42
                        have H1 : (some false) = some r := by rw [if_neg (show ¬ (false = true) by decide)] at H; exact H
                        clear H
                        have H := H1
                        clear H1
                        exact absurd (Option.some.inj H) (by rw [HR_.out]; decide)
                    · rw [if_neg c40] at H
                      have c40b0 : decide ((wrap64 (t259 + (wrap64 (2 * t260)))) ≤ 200) = false := decide_eq_false c40
                      clear c40
                      as_aux_lemma =>
                        have H' := Aside0.mk H
                        clear H
                        go_wp2
                        repeat (go_quiet (fail); try go_wp2)
                        go_meet
                        case rel => exact ⟨_, H', ⟨by have := HJ9.out; have := HJ30.out; first | omega | exact Nat.le_refl _⟩, ⟨by repeat (first | (with_reducible first | exact HB.out | apply below_alloc | apply pw_below_drewN | apply below_drew1) | exact HB.out)⟩⟩
            · replace c29 := Bool.eq_false_iff.mpr c29
              subst c29
              have H1 : (laws_FnPeriodsOfFractions.j4 kj9 l1) = some r := by rw [if_neg (show ¬ (false = true) by decide)] at H; exact H
              clear H
              have H := H1
              clear H1
              as_aux_lemma =>
                have H' := Aside0.mk H
                clear H
                go_wp2
                repeat (go_quiet (fail); try go_wp2)
                go_meet
                case rel => exact ⟨_, H', ⟨by have := HJ9.out; first | omega | exact Nat.le_refl _⟩, ⟨by repeat (first | (with_reducible first | exact HB.out | apply below_alloc | apply pw_below_drewN | apply below_drew1) | exact HB.out)⟩⟩
          case rest =>
            clear HC28
            try clear c1
            try clear c2
            try clear p2
            try clear q2
            try clear hx2
            try clear c3
            try clear c4
            try clear c5
            try clear c6
            try clear p6
            try clear c8
            try clear c16
            try clear c16b0
            try clear c16b1
            try clear c16b2
            try clear c17
            try clear c17b0
            try clear c17b1
            try clear c18
            try clear c18b0
            try clear c18b1
            try clear c19
            try clear c19b0
            try clear c19b1
            try clear c19b2
            try clear c21
            try clear c22
            try clear c27
            try clear p28
            try clear q28
            try clear hx28
            try clear c29
            try clear c33
            try clear c33b0
            try clear c33b1
            try clear c33b2
            try clear c34
            try clear c36
            try clear c36b0
            try clear c36b1
            try clear c37
            try clear c37b0
            try clear c37b1
            try clear c38
            try clear c38b0
            try clear c38b1
            try clear c39
            try clear c40
            try clear c40b0
            try clear c42
            try clear c44
            try clear c44b0
            try clear c45
            try clear c45b0
            try clear c46
            try clear c46b0
            try clear c48
            try clear c48b0
            try clear c49
            try clear c49b0
            try clear c50
            try clear c50b0
            try clear c50b1
            try clear c51
            try clear c53
            try clear c53b0
            try clear c54
            try clear c54b0
            try clear c55
            try clear c55b0
            try clear c55b1
            try clear c60
            try clear c60b0
            try clear c61
            try clear c61b0
            try clear c62
            try clear c62b0
            try clear c63
            try clear c63b0
            try clear c63b1
            try clear c64
            try clear c64b0
            try clear c64b1
            try clear p64
            try clear c65
            try clear c65b0
            try clear c66
            try clear c66b0
            try clear hx282_0
            try clear hx283_0
            try clear hx284_0
            try clear hx285_0
            try clear hx286_0
            try clear p2
            try clear p28
            try clear p282
            try clear p283
            try clear p284
            try clear p285
            try clear p286
            try clear p6
            try clear q2
            try clear q28
            try clear q282
            try clear q283
            try clear q284
            try clear q285
            try clear q286
            obtain ⟨kq, HA, HJ27, HB⟩ := hcut
            cases kq with
            | zero => exact absurd HA.out (by simp [laws_FnPeriodsOfFractions.j4])
            | succ kj27 =>
              have H := HA.out
              clear HA
              simp only [laws_FnPeriodsOfFractions.j4] at H
              replace H := Option.bind_eq_some_iff.mp H
              obtain ⟨⟨t287, t288⟩, A670, H⟩ := H
              replace H : ((impl_OrderOf.f kj27 t287 t288).bind fun bt289 => ((spec_OrderOf.f kj27 t287 t288).bind fun bt291 => (if (bt289.2 != bt291.2) = true then (laws_FnPeriodsOfFractions.j5 kj27 l1 t287 t288 bt289.1 bt289.2 true) else (laws_FnPeriodsOfFractions.j5 kj27 l1 t287 t288 bt289.1 bt289.2 (bt289.1 != bt291.1))))) = some r := H
              have A67 := Aside0.mk A670
              clear A670
              replace H := Option.bind_eq_some_iff.mp H
              obtain ⟨⟨t289, t290⟩, A680, H⟩ := H
              replace H : ((spec_OrderOf.f kj27 t287 t288).bind fun bt291 => (if (t290 != bt291.2) = true then (laws_FnPeriodsOfFractions.j5 kj27 l1 t287 t288 t289 t290 true) else (laws_FnPeriodsOfFractions.j5 kj27 l1 t287 t288 t289 t290 (t289 != bt291.1)))) = some r := H
              have A68 := Aside0.mk A680
              clear A680
              replace H := Option.bind_eq_some_iff.mp H
              obtain ⟨⟨t291, t292⟩, A690, H⟩ := H
              replace H : (if (t290 != t292) = true then (laws_FnPeriodsOfFractions.j5 kj27 l1 t287 t288 t289 t290 true) else (laws_FnPeriodsOfFractions.j5 kj27 l1 t287 t288 t289 t290 (t289 != t291))) = some r := H
              have A69 := Aside0.mk A690
              clear A690
              have HC70 := Aside0.mk H
              clear H
              go_upto_region 34 with (first | (go_at_call 70; (with_reducible refine (spec_DrawOrderOf.calls _ _ l1 t287 t288 _ ?side1 ?side2 A67.out).mono ?_); (case side1 => repeat (first | exact (Kd.C_below HR1.out HB.out) | (with_reducible refine Kd.C_alloc ?_ _) | (with_reducible refine Kd.C_drewN ?_ _) | (with_reducible refine Kd.C_drew ?_))); (case side2 => exact HC1.out); rintro e w71 ⟨rfl, hb⟩; have n0_ := Aside0.mk (below_step (by repeat (first | (with_reducible first | exact HB.out | apply below_alloc | apply pw_below_drewN | apply below_drew1) | exact HB.out)) hb); clear HB; have HB := n0_; clear n0_; (try clear hb); (try clear hb2); (try clear hk); (try clear hi)) | (go_at_call 68; (with_reducible refine (impl_OrderOf.calls kj27 t287 t288 t289 t290 _ A68.out).mono ?_); rintro e w' ⟨rfl, ⟨nd, rfl⟩⟩; (try first | exact ⟨rfl, _, World.drewN_drewN _ _ _⟩ | exact ⟨rfl, _, Eq.trans (World.drewN_drewN _ _ _) (congrArg (World.drewN _) (Nat.add_assoc _ _ _))⟩)) | (go_at_call 71; (with_reducible refine (spec_OrderOf.calls kj27 t287 t288 t291 t292 _ A69.out).mono ?_); rintro e w' ⟨rfl, ⟨nd, rfl⟩⟩; (try first | exact ⟨rfl, _, World.drewN_drewN _ _ _⟩ | exact ⟨rfl, _, Eq.trans (World.drewN_drewN _ _ _) (congrArg (World.drewN _) (Nat.add_assoc _ _ _))⟩)))
              repeat (go_quiet (first | (go_at_call 70; (with_reducible refine (spec_DrawOrderOf.calls _ _ l1 t287 t288 _ ?side1 ?side2 A67.out).mono ?_); (case side1 => repeat (first | exact (Kd.C_below HR1.out HB.out) | (with_reducible refine Kd.C_alloc ?_ _) | (with_reducible refine Kd.C_drewN ?_ _) | (with_reducible refine Kd.C_drew ?_))); (case side2 => exact HC1.out); rintro e w71 ⟨rfl, hb⟩; have n0_ := Aside0.mk (below_step (by repeat (first | (with_reducible first | exact HB.out | apply below_alloc | apply pw_below_drewN | apply below_drew1) | exact HB.out)) hb); clear HB; have HB := n0_; clear n0_; (try clear hb); (try clear hb2); (try clear hk); (try clear hi)) | (go_at_call 68; (with_reducible refine (impl_OrderOf.calls kj27 t287 t288 t289 t290 _ A68.out).mono ?_); rintro e w' ⟨rfl, ⟨nd, rfl⟩⟩; (try first | exact ⟨rfl, _, World.drewN_drewN _ _ _⟩ | exact ⟨rfl, _, Eq.trans (World.drewN_drewN _ _ _) (congrArg (World.drewN _) (Nat.add_assoc _ _ _))⟩)) | (go_at_call 71; (with_reducible refine (spec_OrderOf.calls kj27 t287 t288 t291 t292 _ A69.out).mono ?_); rintro e w' ⟨rfl, ⟨nd, rfl⟩⟩; (try first | exact ⟨rfl, _, World.drewN_drewN _ _ _⟩ | exact ⟨rfl, _, Eq.trans (World.drewN_drewN _ _ _) (congrArg (World.drewN _) (Nat.add_assoc _ _ _))⟩))); go_upto_region 34 with (first | (go_at_call 70; (with_reducible refine (spec_DrawOrderOf.calls _ _ l1 t287 t288 _ ?side1 ?side2 A67.out).mono ?_); (case side1 => repeat (first | exact (Kd.C_below HR1.out HB.out) | (with_reducible refine Kd.C_alloc ?_ _) | (with_reducible refine Kd.C_drewN ?_ _) | (with_reducible refine Kd.C_drew ?_))); (case side2 => exact HC1.out); rintro e w71 ⟨rfl, hb⟩; have n0_ := Aside0.mk (below_step (by repeat (first | (with_reducible first | exact HB.out | apply below_alloc | apply pw_below_drewN | apply below_drew1) | exact HB.out)) hb); clear HB; have HB := n0_; clear n0_; (try clear hb); (try clear hb2); (try clear hk); (try clear hi)) | (go_at_call 68; (with_reducible refine (impl_OrderOf.calls kj27 t287 t288 t289 t290 _ A68.out).mono ?_); rintro e w' ⟨rfl, ⟨nd, rfl⟩⟩; (try first | exact ⟨rfl, _, World.drewN_drewN _ _ _⟩ | exact ⟨rfl, _, Eq.trans (World.drewN_drewN _ _ _) (congrArg (World.drewN _) (Nat.add_assoc _ _ _))⟩)) | (go_at_call 71; (with_reducible refine (spec_OrderOf.calls kj27 t287 t288 t291 t292 _ A69.out).mono ?_); rintro e w' ⟨rfl, ⟨nd, rfl⟩⟩; (try first | exact ⟨rfl, _, World.drewN_drewN _ _ _⟩ | exact ⟨rfl, _, Eq.trans (World.drewN_drewN _ _ _) (congrArg (World.drewN _) (Nat.add_assoc _ _ _))⟩))))
              (try simp only [Act.put, List.setIfInBounds_toArray, List.set_cons_zero, List.set_cons_succ])
              go_cut [257] (fun v257 wc => ∃ (kq : Nat) (x257_69 : Bool), v257 = .bool x257_69 ∧ Aside0 (laws_FnPeriodsOfFractions.j5 kq l1 t287 t288 t289 t290 x257_69 = some r) ∧ Aside0 (kq ≤ kj27) ∧ Aside0 (Below w.heap.size w wc))
              case first =>
                have H := HC70.out
                clear HC70
                by_cases c72 : (t290 != t292) = true
                · rw [if_pos c72] at H
                  have c72b0 : (t290 != t292) = true := c72
                  (try (have c72b1 : decide (t290 = t292) = false := by simpa using c72))
                  (try (have c72b2 : (t290 == t292) = false := by simpa using c72))
                  (try (have c72b3 : ¬ (t290 = t292) := by simpa using c72))
                  clear c72
                  (first | rw [c72b0] | (simp only [i64_w, i32_w]; rw [c72b0]) | skip)
                  exact (laws_FnPeriodsOfFractions.j5_no HR_.out _ _ _ _ _ _ H).elim
                · rw [if_neg c72] at H
                  have c72b0 : (t290 != t292) = false := by simpa using c72
                  (try (have c72b1 : decide (t290 = t292) = true := by simpa using c72))
                  (try (have c72b2 : (t290 == t292) = true := by simpa using c72))
                  clear c72
                  (first | rw [c72b0] | (simp only [i64_w, i32_w]; rw [c72b0]) | skip)
                  as_aux_lemma =>
                    have H' := Aside0.mk H
                    clear H
                    go_wp2
                    repeat (go_quiet (fail); try go_wp2)
                    go_meet
                    case rel => exact ⟨_, ((t289 != t291)), (by first | rfl | (simp; done) | (simp [*]; done)), H', ⟨by have := HJ9.out; have := HJ27.out; first | omega | exact Nat.le_refl _⟩, ⟨by repeat (first | (with_reducible first | exact HB.out | apply below_alloc | apply pw_below_drewN | apply below_drew1) | exact HB.out)⟩⟩
              case rest =>
                clear HC70
                try clear c1
                try clear c2
                try clear p2
                try clear q2
                try clear hx2
                try clear c3
                try clear c4
                try clear c5
                try clear c6
                try clear p6
                try clear c7
                try clear c8
                try clear c16
                try clear c16b0
                try clear c16b1
                try clear c16b2
                try clear c17
                try clear c17b0
                try clear c17b1
                try clear c18
                try clear c18b0
                try clear c18b1
                try clear c19
                try clear c19b0
                try clear c19b1
                try clear c19b2
                try clear c21
                try clear c22
                try clear c27
                try clear p28
                try clear q28
                try clear hx28
                try clear c29
                try clear c33
                try clear c33b0
                try clear c33b1
                try clear c33b2
                try clear c34
                try clear c36
                try clear c36b0
                try clear c36b1
                try clear c37
                try clear c37b0
                try clear c37b1
                try clear c38
                try clear c38b0
                try clear c38b1
                try clear c39
                try clear c40
                try clear c40b0
                try clear c42
                try clear c44
                try clear c44b0
                try clear c45
                try clear c45b0
                try clear c46
                try clear c46b0
                try clear c48
                try clear c48b0
                try clear c49
                try clear c49b0
                try clear c50
                try clear c50b0
                try clear c50b1
                try clear c51
                try clear c53
                try clear c53b0
                try clear c54
                try clear c54b0
                try clear c55
                try clear c55b0
                try clear c55b1
                try clear c60
                try clear c60b0
                try clear c61
                try clear c61b0
                try clear c62
                try clear c62b0
                try clear c63
                try clear c63b0
                try clear c63b1
                try clear c64
                try clear c64b0
                try clear c64b1
                try clear p64
                try clear c65
                try clear c65b0
                try clear c66
                try clear c66b0
                try clear c72
                try clear c72b0
                try clear c72b1
                try clear c72b2
                try clear hx282_0
                try clear hx283_0
                try clear hx284_0
                try clear hx285_0
                try clear hx286_0
                try clear p2
                try clear p28
                try clear p282
                try clear p283
                try clear p284
                try clear p285
                try clear p286
                try clear p6
                try clear p64
                try clear q2
                try clear q28
                try clear q282
                try clear q283
                try clear q284
                try clear q285
                try clear q286
                obtain ⟨kq, x257_69, rfl, HA, HJ69, HB⟩ := hcut
                cases kq with
                | zero => exact absurd HA.out (by simp [laws_FnPeriodsOfFractions.j5])
                | succ kj69 =>
                  have H := HA.out
                  clear HA
                  simp only [laws_FnPeriodsOfFractions.j5] at H
                  by_cases c73 : x257_69 = true
                  · subst c73
                    have H1 : (some false) = some r := by rw [if_pos rfl] at H; exact H
                    clear H
                    have H := H1
                    clear H1
                    exact absurd (Option.some.inj H) (by rw [HR_.out]; decide)
                  · replace c73 := Bool.eq_false_iff.mpr c73
                    subst c73
                    have H1 : (if t290 = true then (if t287 = 0 then (none) else (laws_FnPeriodsOfFractions.l2 kj69 l1 t287 t288 t289 ((1 : Int) % t287) 1)) else (laws_FnPeriodsOfFractions.j7 kj69 l1)) = some r := by rw [if_neg (show ¬ (false = true) by decide)] at H; exact H
                    clear H
                    have H := H1
                    clear H1
                    have HC74 := Aside0.mk H
                    clear H
                    go_upto_if 258 with (fail)
                    repeat (go_quiet (fail); go_upto_if 258 with (fail))
                    go_cut [] (fun wc => ∃ (kq : Nat), Aside0 (laws_FnPeriodsOfFractions.j7 kq l1 = some r) ∧ Aside0 (kq ≤ kj69) ∧ Aside0 (Below w.heap.size w wc))
                    case first =>
                      have H := HC74.out
                      clear HC74
                      by_cases c75 : t290 = true
                      · subst c75
                        have H1 : (if t287 = 0 then (none) else (laws_FnPeriodsOfFractions.l2 kj69 l1 t287 t288 t289 ((1 : Int) % t287) 1)) = some r := by rw [if_pos rfl] at H; exact H
                        clear H
                        have H := H1
                        clear H1
                        by_cases c76 : t287 = 0
                        · rw [if_pos c76] at H
                          exact absurd H (by simp)
                        · rw [if_neg c76] at H
                          have c76b0 : (t287 == 0) = false := beq_eq_false_iff_ne.mpr c76
                          have c76b1 : (t287 != 0) = true := bne_iff_ne.mpr c76
                          (first | rw [c76b0] | (simp only [i64_w, i32_w]; rw [c76b0]) | skip)
                          have H' := Aside0.mk H
                          clear H
                          go_wp2
                          repeat (go_quiet (fail); try go_wp2)
                          go_loopg [32, 33] kj69 (fun kq v32 v33 w' => ∃ (x32_4 : Int) (x33_4 : Int), v32 = .int .i64 x32_4 ∧ v33 = .int .i64 x33_4 ∧ Aside0 (laws_FnPeriodsOfFractions.l2 kq l1 t287 t288 t289 x32_4 x33_4 = some r) ∧ Aside0 (kq ≤ kj69) ∧ Aside0 (Below w.heap.size w w'))
                          case atStart => exact ⟨((1 : Int) % t287), (1), (by first | rfl | (simp; done) | (simp [*]; done)), (by first | rfl | (simp; done) | (simp [*]; done)), H', ⟨Nat.le_refl _⟩, ⟨by repeat (first | (with_reducible first | exact HB.out | apply below_alloc | apply pw_below_drewN | apply below_drew1) | exact HB.out)⟩⟩
                          case round =>
                            clear H'
                            try clear c1
                            try clear c2
                            try clear p2
                            try clear q2
                            try clear hx2
                            try clear c3
                            try clear c4
                            try clear c5
                            try clear c6
                            try clear p6
                            try clear c7
                            try clear c8
                            try clear c16
                            try clear c16b0
                            try clear c16b1
                            try clear c16b2
                            try clear c17
                            try clear c17b0
                            try clear c17b1
                            try clear c18
                            try clear c18b0
                            try clear c18b1
                            try clear c19
                            try clear c19b0
                            try clear c19b1
                            try clear c19b2
                            try clear c21
                            try clear c22
                            try clear c27
                            try clear p28
                            try clear q28
                            try clear hx28
                            try clear c29
                            try clear c33
                            try clear c33b0
                            try clear c33b1
                            try clear c33b2
                            try clear c34
                            try clear c36
                            try clear c36b0
                            try clear c36b1
                            try clear c37
                            try clear c37b0
                            try clear c37b1
                            try clear c38
                            try clear c38b0
                            try clear c38b1
                            try clear c39
                            try clear c40
                            try clear c40b0
                            try clear c42
                            try clear c44
                            try clear c44b0
                            try clear c45
                            try clear c45b0
                            try clear c46
                            try clear c46b0
                            try clear c48
                            try clear c48b0
                            try clear c49
                            try clear c49b0
                            try clear c50
                            try clear c50b0
                            try clear c50b1
                            try clear c51
                            try clear c53
                            try clear c53b0
                            try clear c54
                            try clear c54b0
                            try clear c55
                            try clear c55b0
                            try clear c55b1
                            try clear c60
                            try clear c60b0
                            try clear c61
                            try clear c61b0
                            try clear c62
                            try clear c62b0
                            try clear c63
                            try clear c63b0
                            try clear c63b1
                            try clear c64
                            try clear c64b0
                            try clear c64b1
                            try clear p64
                            try clear c65
                            try clear c65b0
                            try clear c66
                            try clear c66b0
                            try clear c72
                            try clear c72b0
                            try clear c72b1
                            try clear c72b2
                            try clear c73
                            try clear c75
                            try clear c76
                            try clear c76b0
                            try clear c76b1
                            try clear hx282_0
                            try clear hx283_0
                            try clear hx284_0
                            try clear hx285_0
                            try clear hx286_0
                            try clear p2
                            try clear p28
                            try clear p282
                            try clear p283
                            try clear p284
                            try clear p285
                            try clear p286
                            try clear p6
                            try clear p64
                            try clear q2
                            try clear q28
                            try clear q282
                            try clear q283
                            try clear q284
                            try clear q285
                            try clear q286
                            obtain ⟨x32_4, x33_4, rfl, rfl, HA, HK4, HB⟩ := hrel
                            cases gk with
                            | zero => exact absurd HA.out (by simp [laws_FnPeriodsOfFractions.l2])
                            | succ k4 =>
                              have H := HA.out
                              clear HA
                              simp only [laws_FnPeriodsOfFractions.l2] at H
                              by_cases c77 : x33_4 ≤ t289
                              · rw [if_pos c77] at H
                                have c77b0 : decide (x33_4 ≤ t289) = true := decide_eq_true c77
                                clear c77
                                by_cases c78 : t287 = 0
                                · rw [if_pos c78] at H
                                  exact absurd H (by simp)
                                · rw [if_neg c78] at H
                                  have c78b0 : (t287 == 0) = false := beq_eq_false_iff_ne.mpr c78
                                  have c78b1 : (t287 != 0) = true := bne_iff_ne.mpr c78
                                  by_cases c79 : (((Int.tmod (wrap64 (x32_4 * (Int.tmod t288 t287))) t287) == ((1 : Int) % t287)) != (x33_4 == t289)) = true
                                  · rw [if_pos c79] at H
                                    have c79b0 : (((Int.tmod (wrap64 (x32_4 * (Int.tmod t288 t287))) t287) == ((1 : Int) % t287)) != (x33_4 == t289)) = true := c79
                                    (try (have c79b1 : decide (((Int.tmod (wrap64 (x32_4 * (Int.tmod t288 t287))) t287) == ((1 : Int) % t287)) = (x33_4 == t289)) = false := by simpa using c79))
                                    (try (have c79b2 : (((Int.tmod (wrap64 (x32_4 * (Int.tmod t288 t287))) t287) == ((1 : Int) % t287)) == (x33_4 == t289)) = false := by simpa using c79))
                                    (try (have c79b3 : ¬ (((Int.tmod (wrap64 (x32_4 * (Int.tmod t288 t287))) t287) == ((1 : Int) % t287)) = (x33_4 == t289)) := by simpa using c79))
                                    clear c79
                                    exact absurd (Option.some.inj H) (by rw [HR_.out]; decide)
                                  · rw [if_neg c79] at H
                                    have c79b0 : (((Int.tmod (wrap64 (x32_4 * (Int.tmod t288 t287))) t287) == ((1 : Int) % t287)) != (x33_4 == t289)) = false := by simpa using c79
                                    (try (have c79b1 : decide (((Int.tmod (wrap64 (x32_4 * (Int.tmod t288 t287))) t287) == ((1 : Int) % t287)) = (x33_4 == t289)) = true := by simpa using c79))
                                    (try (have c79b2 : (((Int.tmod (wrap64 (x32_4 * (Int.tmod t288 t287))) t287) == ((1 : Int) % t287)) == (x33_4 == t289)) = true := by simpa using c79))
                                    clear c79
                                    as_aux_lemma =>
                                      have H' := Aside0.mk H
                                      clear H
                                      go_wp2
                                      repeat (go_quiet (fail); try go_wp2)
                                      go_roundg k4
                                      case measure => have := HJ9.out; have := HJ27.out; have := HJ69.out; have := HK4.out; omega
                                      case rel => exact ⟨(Int.tmod (wrap64 (x32_4 * (Int.tmod t288 t287))) t287), (wrap64 (x33_4 + 1)), (by first | rfl | (simp; done) | (simp [*]; done)), (by first | rfl | (simp; done) | (simp [*]; done)), H', ⟨by have := HJ9.out; have := HJ27.out; have := HJ69.out; have := HK4.out; omega⟩, ⟨by repeat (first | (with_reducible first | exact HB.out | apply below_alloc | apply pw_below_drewN | apply below_drew1) | exact HB.out)⟩⟩
                              · rw [if_neg c77] at H
                                have c77b0 : decide (x33_4 ≤ t289) = false := decide_eq_false c77
                                clear c77
                                as_aux_lemma =>
                                  have H' := Aside0.mk H
                                  clear H
                                  go_wp2
                                  repeat (go_quiet (fail); try go_wp2)
                                  go_meet
                                  case rel => exact ⟨_, H', ⟨by have := HJ9.out; have := HJ27.out; have := HJ69.out; have := HK4.out; first | omega | exact Nat.le_refl _⟩, ⟨by repeat (first | (with_reducible first | exact HB.out | apply below_alloc | apply pw_below_drewN | apply below_drew1) | exact HB.out)⟩⟩
                      · replace c75 := Bool.eq_false_iff.mpr c75
                        subst c75
                        have H1 : (laws_FnPeriodsOfFractions.j7 kj69 l1) = some r := by rw [if_neg (show ¬ (false = true) by decide)] at H; exact H
                        clear H
                        have H := H1
                        clear H1
                        as_aux_lemma =>
                          have H' := Aside0.mk H
                          clear H
                          go_wp2
                          repeat (go_quiet (fail); try go_wp2)
                          go_meet
                          case rel => exact ⟨_, H', ⟨by have := HJ9.out; have := HJ27.out; have := HJ69.out; first | omega | exact Nat.le_refl _⟩, ⟨by repeat (first | (with_reducible first | exact HB.out | apply below_alloc | apply pw_below_drewN | apply below_drew1) | exact HB.out)⟩⟩
                    case rest =>
                      clear HC74
                      try clear c1
                      try clear c2
                      try clear p2
                      try clear q2
                      try clear hx2
                      try clear c3
                      try clear c4
                      try clear c5
                      try clear c6
                      try clear p6
                      try clear c7
                      try clear c8
                      try clear c16
                      try clear c16b0
                      try clear c16b1
                      try clear c16b2
                      try clear c17
                      try clear c17b0
                      try clear c17b1
                      try clear c18
                      try clear c18b0
                      try clear c18b1
                      try clear c19
                      try clear c19b0
                      try clear c19b1
                      try clear c19b2
                      try clear c21
                      try clear c22
                      try clear c27
                      try clear p28
                      try clear q28
                      try clear hx28
                      try clear c29
                      try clear c33
                      try clear c33b0
                      try clear c33b1
                      try clear c33b2
                      try clear c34
                      try clear c36
                      try clear c36b0
                      try clear c36b1
                      try clear c37
                      try clear c37b0
                      try clear c37b1
                      try clear c38
                      try clear c38b0
                      try clear c38b1
                      try clear c39
                      try clear c40
                      try clear c40b0
                      try clear c42
                      try clear c44
                      try clear c44b0
                      try clear c45
                      try clear c45b0
                      try clear c46
                      try clear c46b0
                      try clear c48
                      try clear c48b0
                      try clear c49
                      try clear c49b0
                      try clear c50
                      try clear c50b0
                      try clear c50b1
                      try clear c51
                      try clear c53
                      try clear c53b0
                      try clear c54
                      try clear c54b0
                      try clear c55
                      try clear c55b0
                      try clear c55b1
                      try clear c60
                      try clear c60b0
                      try clear c61
                      try clear c61b0
                      try clear c62
                      try clear c62b0
                      try clear c63
                      try clear c63b0
                      try clear c63b1
                      try clear c64
                      try clear c64b0
                      try clear c64b1
                      try clear p64
                      try clear c65
                      try clear c65b0
                      try clear c66
                      try clear c66b0
                      try clear c72
                      try clear c72b0
                      try clear c72b1
                      try clear c72b2
                      try clear c73
                      try clear c75
                      try clear c76
                      try clear c76b0
                      try clear c76b1
                      try clear c77
                      try clear c77b0
                      try clear c78
                      try clear c78b0
                      try clear c78b1
                      try clear c79
                      try clear c79b0
                      try clear c79b1
                      try clear c79b2
                      try clear hx282_0
                      try clear hx283_0
                      try clear hx284_0
                      try clear hx285_0
                      try clear hx286_0
                      try clear p2
                      try clear p28
                      try clear p282
                      try clear p283
                      try clear p284
                      try clear p285
                      try clear p286
                      try clear p6
                      try clear p64
                      try clear q2
                      try clear q28
                      try clear q282
                      try clear q283
                      try clear q284
                      try clear q285
                      try clear q286
                      obtain ⟨kq, HA, HJ73, HB⟩ := hcut
                      cases kq with
                      | zero => exact absurd HA.out (by simp [laws_FnPeriodsOfFractions.j7])
                      | succ kj73 =>
                        have H := HA.out
                        clear HA
                        simp only [laws_FnPeriodsOfFractions.j7] at H
                        replace H := Option.bind_eq_some_iff.mp H
                        obtain ⟨⟨t293, t294, t295, t296⟩, A800, H⟩ := H
                        replace H : ((impl_FractionDigits.f kj73 t293 t294 t295 t296).bind fun bt297 => ((spec_FractionDigits.f kj73 t293 t294 t295 t296).bind fun bt301 => (if (bt297.2 == bt301.2) = true then ((laws_qSame.f kj73 bt297.1 bt301.1).bind fun t305 => (some t305)) else (some false)))) = some r := H
                        have A80 := Aside0.mk A800
                        clear A800
                        replace H := Option.bind_eq_some_iff.mp H
                        obtain ⟨⟨t297, t298⟩, A810, H⟩ := H
                        replace H : ((spec_FractionDigits.f kj73 t293 t294 t295 t296).bind fun bt301 => (if (t298 == bt301.2) = true then ((laws_qSame.f kj73 t297 bt301.1).bind fun t305 => (some t305)) else (some false))) = some r := H
                        have A81 := Aside0.mk A810
                        clear A810
                        replace H := Option.bind_eq_some_iff.mp H
                        obtain ⟨⟨t301, t302⟩, A820, H⟩ := H
                        replace H : (if (t298 == t302) = true then ((laws_qSame.f kj73 t297 t301).bind fun t305 => (some t305)) else (some false)) = some r := H
                        have A82 := Aside0.mk A820
                        clear A820
                        by_cases c83 : (t298 == t302) = true
                        · rw [if_pos c83] at H
                          have c83b0 : (t298 == t302) = true := c83
                          (try (have c83b1 : decide (t298 = t302) = true := by simpa using c83))
                          (try (have c83b2 : (t298 == t302) = true := by simpa using c83))
                          clear c83
                          replace H := Option.bind_eq_some_iff.mp H
                          obtain ⟨t305, A840, H⟩ := H
                          replace H : (some t305) = some r := H
                          have A84 := Aside0.mk A840
                          clear A840
                          as_aux_lemma =>
                            obtain rfl := Option.some.inj H
                            go_wp2_with (first | (go_at_call 72; (with_reducible refine (spec_DrawFractionDigits.calls _ _ l1 t293 t294 t295 t296 _ ?side1 ?side2 A80.out).mono ?_); (case side1 => repeat (first | exact (Kd.C_below HR1.out HB.out) | (with_reducible refine Kd.C_alloc ?_ _) | (with_reducible refine Kd.C_drewN ?_ _) | (with_reducible refine Kd.C_drew ?_))); (case side2 => exact HC1.out); rintro e w85 ⟨rfl, hb⟩; have n0_ := Aside0.mk (below_step (by repeat (first | (with_reducible first | exact HB.out | apply below_alloc | apply pw_below_drewN | apply below_drew1) | exact HB.out)) hb); clear HB; have HB := n0_; clear n0_; (try clear hb); (try clear hb2); (try clear hk); (try clear hi)) | (go_at_call 69; (with_reducible refine (impl_FractionDigits.calls kj73 t293 t294 t295 t296 t297 t298 _ A81.out).mono ?_); rintro e w86 ⟨v299, rfl, ho0, hb⟩; have n0_ := Aside0.mk (Kd.R_lower ho0 (below_size (by repeat (first | (with_reducible first | exact HB.out | apply below_alloc | apply pw_below_drewN | apply below_drew1) | exact HB.out)))); have n1_ := Aside0.mk (below_step (by repeat (first | (with_reducible first | exact HB.out | apply below_alloc | apply pw_below_drewN | apply below_drew1) | exact HB.out)) hb); clear HB; have HO300 := n0_; have HB := n1_; clear n0_ n1_; (try clear hb); (try clear hb2); (try clear hk); (try clear hi); (try clear ho0)) | (go_at_call 73; (with_reducible refine (spec_FractionDigits.calls kj73 t293 t294 t295 t296 t301 t302 _ A82.out).mono ?_); rintro e w87 ⟨v303, rfl, ho0, hb⟩; have n0_ := Aside0.mk (Kd.R_elder' (by (with_reducible repeat (first | apply Kd.R_alloc | apply Kd.R_drewN | apply Kd.R_drew)); exact HO300.out) (Kd.R_base ho0) hb); have n1_ := Aside0.mk (Kd.R_lower (Kd.R_new' ho0 (Kd.R_lt (by (with_reducible repeat (first | apply Kd.R_alloc | apply Kd.R_drewN | apply Kd.R_drew)); exact HO300.out))) (below_size (by repeat (first | (with_reducible first | exact HB.out | apply below_alloc | apply pw_below_drewN | apply below_drew1) | exact HB.out)))); have n2_ := Aside0.mk (below_step (by repeat (first | (with_reducible first | exact HB.out | apply below_alloc | apply pw_below_drewN | apply below_drew1) | exact HB.out)) hb); clear HO300; clear HB; have HO300 := n0_; have HO304 := n1_; have HB := n2_; clear n0_ n1_ n2_; (try clear hb); (try clear hb2); (try clear hk); (try clear hi); (try clear ho0); obtain ⟨Ao88, co88, eo88⟩ := Kd.R_slice HO300.out; subst eo88; obtain ⟨Ao89, co89, eo89⟩ := Kd.R_slice HO304.out; subst eo89) | (go_at_call 32; (with_reducible refine (laws_qSame.calls kj73 _ _ t297 _ _ t301 t305 _ ?side1 ?side2 ?side3 ?side4 A84.out).mono ?_); (case side1 => repeat (first | exact (Kd.R_reads' HO300.out).2.2 | (with_reducible refine Kd.C_alloc ?_ _) | (with_reducible refine Kd.C_drewN ?_ _) | (with_reducible refine Kd.C_drew ?_))); (case side2 => exact (Kd.R_reads' HO300.out).2.1); (case side3 => repeat (first | exact (Kd.R_reads' HO304.out).2.2 | (with_reducible refine Kd.C_alloc ?_ _) | (with_reducible refine Kd.C_drewN ?_ _) | (with_reducible refine Kd.C_drew ?_))); (case side4 => exact (Kd.R_reads' HO304.out).2.1); rintro e w' ⟨rfl, ⟨nd, rfl⟩⟩; (try first | exact ⟨rfl, _, World.drewN_drewN _ _ _⟩ | exact ⟨rfl, _, Eq.trans (World.drewN_drewN _ _ _) (congrArg (World.drewN _) (Nat.add_assoc _ _ _))⟩)))
                            repeat (go_quiet (first | (go_at_call 72; (with_reducible refine (spec_DrawFractionDigits.calls _ _ l1 t293 t294 t295 t296 _ ?side1 ?side2 A80.out).mono ?_); (case side1 => repeat (first | exact (Kd.C_below HR1.out HB.out) | (with_reducible refine Kd.C_alloc ?_ _) | (with_reducible refine Kd.C_drewN ?_ _) | (with_reducible refine Kd.C_drew ?_))); (case side2 => exact HC1.out); rintro e w85 ⟨rfl, hb⟩; have n0_ := Aside0.mk (below_step (by repeat (first | (with_reducible first | exact HB.out | apply below_alloc | apply pw_below_drewN | apply below_drew1) | exact HB.out)) hb); clear HB; have HB := n0_; clear n0_; (try clear hb); (try clear hb2); (try clear hk); (try clear hi)) | (go_at_call 69; (with_reducible refine (impl_FractionDigits.calls kj73 t293 t294 t295 t296 t297 t298 _ A81.out).mono ?_); rintro e w86 ⟨v299, rfl, ho0, hb⟩; have n0_ := Aside0.mk (Kd.R_lower ho0 (below_size (by repeat (first | (with_reducible first | exact HB.out | apply below_alloc | apply pw_below_drewN | apply below_drew1) | exact HB.out)))); have n1_ := Aside0.mk (below_step (by repeat (first | (with_reducible first | exact HB.out | apply below_alloc | apply pw_below_drewN | apply below_drew1) | exact HB.out)) hb); clear HB; have HO300 := n0_; have HB := n1_; clear n0_ n1_; (try clear hb); (try clear hb2); (try clear hk); (try clear hi); (try clear ho0)) | (go_at_call 73; (with_reducible refine (spec_FractionDigits.calls kj73 t293 t294 t295 t296 t301 t302 _ A82.out).mono ?_); rintro e w87 ⟨v303, rfl, ho0, hb⟩; have n0_ := Aside0.mk (Kd.R_elder' (by (with_reducible repeat (first | apply Kd.R_alloc | apply Kd.R_drewN | apply Kd.R_drew)); exact HO300.out) (Kd.R_base ho0) hb); have n1_ := Aside0.mk (Kd.R_lower (Kd.R_new' ho0 (Kd.R_lt (by (with_reducible repeat (first | apply Kd.R_alloc | apply Kd.R_drewN | apply Kd.R_drew)); exact HO300.out))) (below_size (by repeat (first | (with_reducible first | exact HB.out | apply below_alloc | apply pw_below_drewN | apply below_drew1) | exact HB.out)))); have n2_ := Aside0.mk (below_step (by repeat (first | (with_reducible first | exact HB.out | apply below_alloc | apply pw_below_drewN | apply below_drew1) | exact HB.out)) hb); clear HO300; clear HB; have HO300 := n0_; have HO304 := n1_; have HB := n2_; clear n0_ n1_ n2_; (try clear hb); (try clear hb2); (try clear hk); (try clear hi); (try clear ho0); obtain ⟨Ao88, co88, eo88⟩ := Kd.R_slice HO300.out; subst eo88; obtain ⟨Ao89, co89, eo89⟩ := Kd.R_slice HO304.out; subst eo89) | (go_at_call 32; (with_reducible refine (laws_qSame.calls kj73 _ _ t297 _ _ t301 t305 _ ?side1 ?side2 ?side3 ?side4 A84.out).mono ?_); (case side1 => repeat (first | exact (Kd.R_reads' HO300.out).2.2 | (with_reducible refine Kd.C_alloc ?_ _) | (with_reducible refine Kd.C_drewN ?_ _) | (with_reducible refine Kd.C_drew ?_))); (case side2 => exact (Kd.R_reads' HO300.out).2.1); (case side3 => repeat (first | exact (Kd.R_reads' HO304.out).2.2 | (with_reducible refine Kd.C_alloc ?_ _) | (with_reducible refine Kd.C_drewN ?_ _) | (with_reducible refine Kd.C_drew ?_))); (case side4 => exact (Kd.R_reads' HO304.out).2.1); rintro e w' ⟨rfl, ⟨nd, rfl⟩⟩; (try first | exact ⟨rfl, _, World.drewN_drewN _ _ _⟩ | exact ⟨rfl, _, Eq.trans (World.drewN_drewN _ _ _) (congrArg (World.drewN _) (Nat.add_assoc _ _ _))⟩))); try go_wp2_with (first | (go_at_call 72; (with_reducible refine (spec_DrawFractionDigits.calls _ _ l1 t293 t294 t295 t296 _ ?side1 ?side2 A80.out).mono ?_); (case side1 => repeat (first | exact (Kd.C_below HR1.out HB.out) | (with_reducible refine Kd.C_alloc ?_ _) | (with_reducible refine Kd.C_drewN ?_ _) | (with_reducible refine Kd.C_drew ?_))); (case side2 => exact HC1.out); rintro e w85 ⟨rfl, hb⟩; have n0_ := Aside0.mk (below_step (by repeat (first | (with_reducible first | exact HB.out | apply below_alloc | apply pw_below_drewN | apply below_drew1) | exact HB.out)) hb); clear HB; have HB := n0_; clear n0_; (try clear hb); (try clear hb2); (try clear hk); (try clear hi)) | (go_at_call 69; (with_reducible refine (impl_FractionDigits.calls kj73 t293 t294 t295 t296 t297 t298 _ A81.out).mono ?_); rintro e w86 ⟨v299, rfl, ho0, hb⟩; have n0_ := Aside0.mk (Kd.R_lower ho0 (below_size (by repeat (first | (with_reducible first | exact HB.out | apply below_alloc | apply pw_below_drewN | apply below_drew1) | exact HB.out)))); have n1_ := Aside0.mk (below_step (by repeat (first | (with_reducible first | exact HB.out | apply below_alloc | apply pw_below_drewN | apply below_drew1) | exact HB.out)) hb); clear HB; have HO300 := n0_; have HB := n1_; clear n0_ n1_; (try clear hb); (try clear hb2); (try clear hk); (try clear hi); (try clear ho0)) | (go_at_call 73; (with_reducible refine (spec_FractionDigits.calls kj73 t293 t294 t295 t296 t301 t302 _ A82.out).mono ?_); rintro e w87 ⟨v303, rfl, ho0, hb⟩; have n0_ := Aside0.mk (Kd.R_elder' (by (with_reducible repeat (first | apply Kd.R_alloc | apply Kd.R_drewN | apply Kd.R_drew)); exact HO300.out) (Kd.R_base ho0) hb); have n1_ := Aside0.mk (Kd.R_lower (Kd.R_new' ho0 (Kd.R_lt (by (with_reducible repeat (first | apply Kd.R_alloc | apply Kd.R_drewN | apply Kd.R_drew)); exact HO300.out))) (below_size (by repeat (first | (with_reducible first | exact HB.out | apply below_alloc | apply pw_below_drewN | apply below_drew1) | exact HB.out)))); have n2_ := Aside0.mk (below_step (by repeat (first | (with_reducible first | exact HB.out | apply below_alloc | apply pw_below_drewN | apply below_drew1) | exact HB.out)) hb); clear HO300; clear HB; have HO300 := n0_; have HO304 := n1_; have HB := n2_; clear n0_ n1_ n2_; (try clear hb); (try clear hb2); (try clear hk); (try clear hi); (try clear ho0); obtain ⟨Ao88, co88, eo88⟩ := Kd.R_slice HO300.out; subst eo88; obtain ⟨Ao89, co89, eo89⟩ := Kd.R_slice HO304.out; subst eo89) | (go_at_call 32; (with_reducible refine (laws_qSame.calls kj73 _ _ t297 _ _ t301 t305 _ ?side1 ?side2 ?side3 ?side4 A84.out).mono ?_); (case side1 => repeat (first | exact (Kd.R_reads' HO300.out).2.2 | (with_reducible refine Kd.C_alloc ?_ _) | (with_reducible refine Kd.C_drewN ?_ _) | (with_reducible refine Kd.C_drew ?_))); (case side2 => exact (Kd.R_reads' HO300.out).2.1); (case side3 => repeat (first | exact (Kd.R_reads' HO304.out).2.2 | (with_reducible refine Kd.C_alloc ?_ _) | (with_reducible refine Kd.C_drewN ?_ _) | (with_reducible refine Kd.C_drew ?_))); (case side4 => exact (Kd.R_reads' HO304.out).2.1); rintro e w' ⟨rfl, ⟨nd, rfl⟩⟩; (try first | exact ⟨rfl, _, World.drewN_drewN _ _ _⟩ | exact ⟨rfl, _, Eq.trans (World.drewN_drewN _ _ _) (congrArg (World.drewN _) (Nat.add_assoc _ _ _))⟩))))
                            go_ret
                            exact ⟨by first | rfl | (simp [errW_none, errW_some] <;> rfl) | (simp [*, errW_none, errW_some] <;> rfl), by repeat (first | (with_reducible first | exact HB.out | apply below_alloc | apply pw_below_drewN | apply below_drew1) | exact HB.out)⟩
                        · rw [if_neg c83] at H
                          have c83b0 : (t298 == t302) = false := by simpa using c83
                          (try (have c83b1 : decide (t298 = t302) = false := by simpa using c83))
                          (try (have c83b2 : (t298 == t302) = false := by simpa using c83))
                          (try (have c83b3 : ¬ (t298 = t302) := by simpa using c83))
                          clear c83
                          exact absurd (Option.some.inj H) (by rw [HR_.out]; decide)

/-- THE ONE PURE STATEMENT of laws_FnPeriodsOfFractions: yours. -/
def laws_FnPeriodsOfFractions.Pure : Prop := ∀ (l0 : List Int) (l1 : List Int), l0.length ≤ maxLen → l0.length * 1 ≤ 140737488351232 → (∀ x ∈ l0, (Lit.int .u8 x).wf = true) → l1.length ≤ maxLen → l1.length * 1 ≤ 140737488351232 → (∀ x ∈ l1, (Lit.int .u8 x).wf = true) → ∃ k, laws_FnPeriodsOfFractions.f k l0 l1 = some true
theorem laws_FnPeriodsOfFractions.walk (P : laws_FnPeriodsOfFractions.Pure) (a0 : Option Addr) (len0 cap0 : Nat) (z0 : List Int) (a1 : Option Addr) (len1 cap1 : Nat) (z1 : List Int) (w : World) (w0 : (a0 = none ∧ len0 = 0 ∧ cap0 = 0 ∧ z0 = []) ∨ ∃ x, a0 = some x ∧ len0 ≤ cap0 ∧ cap0 ≤ maxLen ∧ z0.length = cap0 ∧ (∀ i, i < z0.length → w.cell? (x.add i) = some (.int .u8 (z0.getD i 0))) ∧ ∀ n ∈ z0, (Lit.int .u8 n).wf = true) (y0 : len0 * 1 ≤ 140737488351232) (w1 : (a1 = none ∧ len1 = 0 ∧ cap1 = 0 ∧ z1 = []) ∨ ∃ x, a1 = some x ∧ len1 ≤ cap1 ∧ cap1 ≤ maxLen ∧ z1.length = cap1 ∧ (∀ i, i < z1.length → w.cell? (x.add i) = some (.int .u8 (z1.getD i 0))) ∧ ∀ n ∈ z1, (Lit.int .u8 n).wf = true) (y1 : len1 * 1 ≤ 140737488351232) :
    Calls Try.prog 8 #[.slice a0 len0 cap0, .slice a1 len1 cap1] w fun e w' => e = .returned (.bool true) ∧ Below w.heap.size w w' := by
  obtain ⟨l0, rfl, hr0, hm0, hw0, hc0⟩ := ReadsInt.ofRowC w0
  obtain ⟨l1, rfl, hr1, hm1, hw1, hc1⟩ := ReadsInt.ofRowC w1
  obtain ⟨k, h⟩ := P l0 l1 hm0 y0 hw0 hm1 y1 hw1
  refine (laws_FnPeriodsOfFractions.calls k _ _ l0 _ _ l1 true w (Kd.C_of_reads (d := (0 : Int)) (h1 := fun _ => rfl) hr0) hc0 (Kd.C_of_reads (d := (0 : Int)) (h1 := fun _ => rfl) hr1) hc1 h rfl).mono ?_
  rintro e w' ⟨rfl, hd⟩
  exact ⟨rfl, hd⟩

end Go.Proofs.Ytikkpehjleoplaa.PFnPeriodsOfFractions
