-- out of the kit's print, turned by wip/own_print.py
import Derived.Test.YtikkpehjleoplaaPFnDivisorsSumx0
import Derived.Test.YtikkpehjleoplaaPFnDivisorsSumx1
import Derived.Test.YtikkpehjleoplaaPFnDivisorsSumx2
import Derived.Test.YtikkpehjleoplaaPFnDivisorsSumx3
namespace Go.Proofs.Ytikkpehjleoplaa.PFnDivisorsSum
open Go.RowKit Go.Proofs.YtikkpehjleoplaaW.PrintWords Go.Proofs.YtikkpehjleoplaaW.PrintLast Go.Proofs.YtikkpehjleoplaaW.PrintMore
attribute [local go_sem] max2_int min2_int max_two min_two max_three min_three max_four min_four   -- for this text's walks alone
set_option linter.unusedVariables false
set_option linter.unusedSimpArgs false

/-! ### laws_FnDivisorsSum: function 6 -/
mutual
def laws_FnDivisorsSum.j0 : Nat → List Int → Int → Int → Bool → Int → Int → Int → List Int → Bool → Option (Bool)
  | 0, _, _, _, _, _, _, _, _, _ => none
  | k + 1, x1, x5, x6, x7, x10, x14, x18, x22, x166 => if x166 = true then (some false) else (if x7 = true then (laws_FnDivisorsSum.l0 k x1 x5 x6 x7 x10 x14 x18 x22 1 x22 (x22.length : Int) 0) else (laws_FnDivisorsSum.j4 k x1 x5 x6 x7 x10))
def laws_FnDivisorsSum.j4 : Nat → List Int → Int → Int → Bool → Int → Option (Bool)
  | 0, _, _, _, _, _ => none
  | k + 1, x1, x5, x6, x7, x10 => (spec_DrawPrimeFactors.f k x1).bind fun t244 => (if x7 = true then (if t244 ≥ 1 then (if t244 ≤ 1000000000 then (if (wrap64 (x5 * t244)) ≤ 1000000000 then ((laws_qGcd.f k x5 t244).bind fun t245 => (laws_FnDivisorsSum.j5 k x5 x6 x10 t244 (t245 == 1))) else (laws_FnDivisorsSum.j5 k x5 x6 x10 t244 false)) else (laws_FnDivisorsSum.j5 k x5 x6 x10 t244 false)) else (laws_FnDivisorsSum.j5 k x5 x6 x10 t244 false)) else (laws_FnDivisorsSum.j5 k x5 x6 x10 t244 false))
def laws_FnDivisorsSum.j5 : Nat → Int → Int → Int → Int → Bool → Option (Bool)
  | 0, _, _, _, _, _ => none
  | k + 1, x5, x6, x10, x34, x276 => if x276 = true then ((impl_SumOfDivisors.f k x34).bind fun bt246 => ((impl_SumOfDivisors.f k (wrap64 (x5 * x34))).bind fun bt248 => ((impl_CountDivisors.f k x34).bind fun bt250 => ((impl_CountDivisors.f k (wrap64 (x5 * x34))).bind fun bt252 => (if bt246.2 = true then (if bt248.2 = true then (if bt250.2 = true then (if bt252.2 = true then (if (wrap64 (bt246.1 * x6)) = bt248.1 then (some ((wrap64 (bt250.1 * x10)) == bt252.1)) else (some false)) else (some false)) else (some false)) else (some false)) else (some false)))))) else (some true)
def laws_FnDivisorsSum.l0 : Nat → List Int → Int → Int → Bool → Int → Int → Int → List Int → Int → List Int → Int → Int → Option (Bool)
  | 0, _, _, _, _, _, _, _, _, _, _, _, _ => none
  | k + 1, x1, x5, x6, x7, x10, x14, x18, x22, x26, x168, x169, x170 => if x170 < x169 then (if 0 ≤ x170 then (if x170 < (x168.length : Int) then ((impl_PrimeFactors.f k (rd x168 x170)).bind fun bt239 => (if bt239.2 = true then (if (bt239.1.length : Int) = 1 then (if x170 > 0 then (if 0 ≤ (wrap64 (x170 - 1)) then (if (wrap64 (x170 - 1)) < (x22.length : Int) then (if (rd x22 (wrap64 (x170 - 1))) > (rd x168 x170) then (some false) else (laws_FnDivisorsSum.l0 k x1 x5 x6 x7 x10 x14 x18 x22 (wrap64 (x26 * (rd x168 x170))) x168 x169 (wrap64 (x170 + 1)))) else (none)) else (none)) else (laws_FnDivisorsSum.l0 k x1 x5 x6 x7 x10 x14 x18 x22 (wrap64 (x26 * (rd x168 x170))) x168 x169 (wrap64 (x170 + 1)))) else (some false)) else (some false))) else (none)) else (none)) else (if x26 = x5 then (if x6 = (wrap64 (x14 + x5)) then (if ((x18 == 0) != (x14 == x5)) = true then (laws_FnDivisorsSum.j2 k x1 x5 x6 x7 x10 true) else (laws_FnDivisorsSum.j2 k x1 x5 x6 x7 x10 ((decide (x18 < 0)) != (decide (x14 < x5))))) else (laws_FnDivisorsSum.j2 k x1 x5 x6 x7 x10 true)) else (laws_FnDivisorsSum.j2 k x1 x5 x6 x7 x10 true))
def laws_FnDivisorsSum.j2 : Nat → List Int → Int → Int → Bool → Int → Bool → Option (Bool)
  | 0, _, _, _, _, _, _ => none
  | k + 1, x1, x5, x6, x7, x10, x229 => if x229 = true then (some false) else (if x5 ≤ 5000 then (laws_FnDivisorsSum.l1 k x1 x5 x6 x7 x10 0 0 1) else (laws_FnDivisorsSum.j4 k x1 x5 x6 x7 x10))
def laws_FnDivisorsSum.l1 : Nat → List Int → Int → Int → Bool → Int → Int → Int → Int → Option (Bool)
  | 0, _, _, _, _, _, _, _, _ => none
  | k + 1, x1, x5, x6, x7, x10, x31, x32, x33 => if x33 ≤ x5 then (if x33 = 0 then (none) else (if (Int.tmod x5 x33) = 0 then (laws_FnDivisorsSum.l1 k x1 x5 x6 x7 x10 (wrap64 (x31 + x33)) (wrap64 (x32 + 1)) (wrap64 (x33 + 1))) else (laws_FnDivisorsSum.l1 k x1 x5 x6 x7 x10 x31 x32 (wrap64 (x33 + 1))))) else (if x31 = x6 then (if x32 = x10 then (laws_FnDivisorsSum.j4 k x1 x5 x6 x7 x10) else (some false)) else (some false))
end
def laws_FnDivisorsSum.f (k : Nat) (l0 : List Int) (l1 : List Int) : Option (Bool) := (laws_big.f l0 l1).bind fun t211 => (if t211 = true then (some true) else ((spec_DrawSumOfDivisors.f k l0).bind fun t212 => ((impl_SumOfDivisors.f k t212).bind fun bt213 => ((spec_SumOfDivisors.f k t212).bind fun bt215 => ((impl_CountDivisors.f k t212).bind fun bt217 => ((spec_CountDivisors.f k t212).bind fun bt219 => ((impl_ProperSum.f k t212).bind fun bt221 => ((spec_ProperSum.f k t212).bind fun bt223 => ((impl_KindOfNumber.f k t212).bind fun bt225 => ((spec_KindOfNumber.f k t212).bind fun bt227 => ((impl_PrimeFactors.f k t212).bind fun bt229 => ((spec_PrimeFactors.f k t212).bind fun bt233 => (if (bt213.2 != bt215.2) = true then (laws_FnDivisorsSum.j0 k l1 t212 bt213.1 bt213.2 bt217.1 bt221.1 bt225.1 bt229.1 true) else (if bt213.1 = bt215.1 then (if (bt217.2 != bt219.2) = true then (laws_FnDivisorsSum.j0 k l1 t212 bt213.1 bt213.2 bt217.1 bt221.1 bt225.1 bt229.1 true) else (if bt217.1 = bt219.1 then (if (bt221.2 != bt223.2) = true then (laws_FnDivisorsSum.j0 k l1 t212 bt213.1 bt213.2 bt217.1 bt221.1 bt225.1 bt229.1 true) else (if bt221.1 = bt223.1 then (if (bt225.2 != bt227.2) = true then (laws_FnDivisorsSum.j0 k l1 t212 bt213.1 bt213.2 bt217.1 bt221.1 bt225.1 bt229.1 true) else (if bt225.1 = bt227.1 then (if (bt229.2 != bt233.2) = true then (laws_FnDivisorsSum.j0 k l1 t212 bt213.1 bt213.2 bt217.1 bt221.1 bt225.1 bt229.1 true) else ((laws_qSame.f k bt229.1 bt233.1).bind fun t237 => (if t237 = true then (if (bt217.2 != bt213.2) = true then (laws_FnDivisorsSum.j0 k l1 t212 bt213.1 bt213.2 bt217.1 bt221.1 bt225.1 bt229.1 true) else (if (bt221.2 != bt213.2) = true then (laws_FnDivisorsSum.j0 k l1 t212 bt213.1 bt213.2 bt217.1 bt221.1 bt225.1 bt229.1 true) else (if (bt225.2 != bt213.2) = true then (laws_FnDivisorsSum.j0 k l1 t212 bt213.1 bt213.2 bt217.1 bt221.1 bt225.1 bt229.1 true) else (laws_FnDivisorsSum.j0 k l1 t212 bt213.1 bt213.2 bt217.1 bt221.1 bt225.1 bt229.1 (bt229.2 != bt213.2))))) else (laws_FnDivisorsSum.j0 k l1 t212 bt213.1 bt213.2 bt217.1 bt221.1 bt225.1 bt229.1 true)))) else (laws_FnDivisorsSum.j0 k l1 t212 bt213.1 bt213.2 bt217.1 bt221.1 bt225.1 bt229.1 true))) else (laws_FnDivisorsSum.j0 k l1 t212 bt213.1 bt213.2 bt217.1 bt221.1 bt225.1 bt229.1 true))) else (laws_FnDivisorsSum.j0 k l1 t212 bt213.1 bt213.2 bt217.1 bt221.1 bt225.1 bt229.1 true))) else (laws_FnDivisorsSum.j0 k l1 t212 bt213.1 bt213.2 bt217.1 bt221.1 bt225.1 bt229.1 true)))))))))))))))
theorem laws_FnDivisorsSum.mono_l : ∀ k, (∀ y0 y1 y2 y3 y4 y5 y6 y7 y8, LeO (laws_FnDivisorsSum.j0 k y0 y1 y2 y3 y4 y5 y6 y7 y8) (laws_FnDivisorsSum.j0 (k + 1) y0 y1 y2 y3 y4 y5 y6 y7 y8)) ∧ (∀ y0 y1 y2 y3 y4, LeO (laws_FnDivisorsSum.j4 k y0 y1 y2 y3 y4) (laws_FnDivisorsSum.j4 (k + 1) y0 y1 y2 y3 y4)) ∧ (∀ y0 y1 y2 y3 y4, LeO (laws_FnDivisorsSum.j5 k y0 y1 y2 y3 y4) (laws_FnDivisorsSum.j5 (k + 1) y0 y1 y2 y3 y4)) ∧ (∀ y0 y1 y2 y3 y4 y5 y6 y7 y8 y9 y10 y11, LeO (laws_FnDivisorsSum.l0 k y0 y1 y2 y3 y4 y5 y6 y7 y8 y9 y10 y11) (laws_FnDivisorsSum.l0 (k + 1) y0 y1 y2 y3 y4 y5 y6 y7 y8 y9 y10 y11)) ∧ (∀ y0 y1 y2 y3 y4 y5, LeO (laws_FnDivisorsSum.j2 k y0 y1 y2 y3 y4 y5) (laws_FnDivisorsSum.j2 (k + 1) y0 y1 y2 y3 y4 y5)) ∧ (∀ y0 y1 y2 y3 y4 y5 y6 y7, LeO (laws_FnDivisorsSum.l1 k y0 y1 y2 y3 y4 y5 y6 y7) (laws_FnDivisorsSum.l1 (k + 1) y0 y1 y2 y3 y4 y5 y6 y7))
  | 0 => ⟨fun _ _ _ _ _ _ _ _ _ r h => by simp [laws_FnDivisorsSum.j0] at h, fun _ _ _ _ _ r h => by simp [laws_FnDivisorsSum.j4] at h, fun _ _ _ _ _ r h => by simp [laws_FnDivisorsSum.j5] at h, fun _ _ _ _ _ _ _ _ _ _ _ _ r h => by simp [laws_FnDivisorsSum.l0] at h, fun _ _ _ _ _ _ r h => by simp [laws_FnDivisorsSum.j2] at h, fun _ _ _ _ _ _ _ _ r h => by simp [laws_FnDivisorsSum.l1] at h⟩
  | k + 1 => by
    obtain ⟨ih0, ih1, ih2, ih3, ih4, ih5⟩ := laws_FnDivisorsSum.mono_l k
    refine ⟨?_, ?_, ?_, ?_, ?_, ?_⟩
    · intro y0 y1 y2 y3 y4 y5 y6 y7 y8
      unfold laws_FnDivisorsSum.j0
      repeat' first
      | (with_reducible exact ih0 _ _ _ _ _ _ _ _ _)
      | (with_reducible exact ih1 _ _ _ _ _)
      | (with_reducible exact ih2 _ _ _ _ _)
      | (with_reducible exact ih3 _ _ _ _ _ _ _ _ _ _ _ _)
      | (with_reducible exact ih4 _ _ _ _ _ _)
      | (with_reducible exact ih5 _ _ _ _ _ _ _ _)
      | (with_reducible exact impl_CountDivisors.mono _ _)
      | (with_reducible exact impl_KindOfNumber.mono _ _)
      | (with_reducible exact impl_PrimeFactors.mono _ _)
      | (with_reducible exact impl_ProperSum.mono _ _)
      | (with_reducible exact impl_SumOfDivisors.mono _ _)
      | (with_reducible exact laws_qGcd.mono _ _ _)
      | (with_reducible exact laws_qSame.mono _ _ _)
      | (with_reducible exact spec_CountDivisors.mono _ _)
      | (with_reducible exact spec_DrawPrimeFactors.mono _ _)
      | (with_reducible exact spec_DrawSumOfDivisors.mono _ _)
      | (with_reducible exact spec_KindOfNumber.mono _ _)
      | (with_reducible exact spec_PrimeFactors.mono _ _)
      | (with_reducible exact spec_ProperSum.mono _ _)
      | (with_reducible exact spec_SumOfDivisors.mono _ _)
      | (with_reducible exact LeO.refl _)
      | (with_reducible exact LeO.none _)
      | (with_reducible refine LeO.ite ?_ ?_)
      | (with_reducible refine LeO.bind ?_ (fun _ => ?_))
      | exact ih0 _ _ _ _ _ _ _ _ _
      | exact ih1 _ _ _ _ _
      | exact ih2 _ _ _ _ _
      | exact ih3 _ _ _ _ _ _ _ _ _ _ _ _
      | exact ih4 _ _ _ _ _ _
      | exact ih5 _ _ _ _ _ _ _ _
      | exact impl_CountDivisors.mono _ _
      | exact impl_KindOfNumber.mono _ _
      | exact impl_PrimeFactors.mono _ _
      | exact impl_ProperSum.mono _ _
      | exact impl_SumOfDivisors.mono _ _
      | exact laws_qGcd.mono _ _ _
      | exact laws_qSame.mono _ _ _
      | exact spec_CountDivisors.mono _ _
      | exact spec_DrawPrimeFactors.mono _ _
      | exact spec_DrawSumOfDivisors.mono _ _
      | exact spec_KindOfNumber.mono _ _
      | exact spec_PrimeFactors.mono _ _
      | exact spec_ProperSum.mono _ _
      | exact spec_SumOfDivisors.mono _ _
      | exact LeO.none _
      | refine LeO.ite ?_ ?_
      | refine LeO.bind ?_ (fun _ => ?_)
    · intro y0 y1 y2 y3 y4
      unfold laws_FnDivisorsSum.j4
      repeat' first
      | (with_reducible exact ih0 _ _ _ _ _ _ _ _ _)
      | (with_reducible exact ih1 _ _ _ _ _)
      | (with_reducible exact ih2 _ _ _ _ _)
      | (with_reducible exact ih3 _ _ _ _ _ _ _ _ _ _ _ _)
      | (with_reducible exact ih4 _ _ _ _ _ _)
      | (with_reducible exact ih5 _ _ _ _ _ _ _ _)
      | (with_reducible exact impl_CountDivisors.mono _ _)
      | (with_reducible exact impl_KindOfNumber.mono _ _)
      | (with_reducible exact impl_PrimeFactors.mono _ _)
      | (with_reducible exact impl_ProperSum.mono _ _)
      | (with_reducible exact impl_SumOfDivisors.mono _ _)
      | (with_reducible exact laws_qGcd.mono _ _ _)
      | (with_reducible exact laws_qSame.mono _ _ _)
      | (with_reducible exact spec_CountDivisors.mono _ _)
      | (with_reducible exact spec_DrawPrimeFactors.mono _ _)
      | (with_reducible exact spec_DrawSumOfDivisors.mono _ _)
      | (with_reducible exact spec_KindOfNumber.mono _ _)
      | (with_reducible exact spec_PrimeFactors.mono _ _)
      | (with_reducible exact spec_ProperSum.mono _ _)
      | (with_reducible exact spec_SumOfDivisors.mono _ _)
      | (with_reducible exact LeO.refl _)
      | (with_reducible exact LeO.none _)
      | (with_reducible refine LeO.ite ?_ ?_)
      | (with_reducible refine LeO.bind ?_ (fun _ => ?_))
      | exact ih0 _ _ _ _ _ _ _ _ _
      | exact ih1 _ _ _ _ _
      | exact ih2 _ _ _ _ _
      | exact ih3 _ _ _ _ _ _ _ _ _ _ _ _
      | exact ih4 _ _ _ _ _ _
      | exact ih5 _ _ _ _ _ _ _ _
      | exact impl_CountDivisors.mono _ _
      | exact impl_KindOfNumber.mono _ _
      | exact impl_PrimeFactors.mono _ _
      | exact impl_ProperSum.mono _ _
      | exact impl_SumOfDivisors.mono _ _
      | exact laws_qGcd.mono _ _ _
      | exact laws_qSame.mono _ _ _
      | exact spec_CountDivisors.mono _ _
      | exact spec_DrawPrimeFactors.mono _ _
      | exact spec_DrawSumOfDivisors.mono _ _
      | exact spec_KindOfNumber.mono _ _
      | exact spec_PrimeFactors.mono _ _
      | exact spec_ProperSum.mono _ _
      | exact spec_SumOfDivisors.mono _ _
      | exact LeO.none _
      | refine LeO.ite ?_ ?_
      | refine LeO.bind ?_ (fun _ => ?_)
    · intro y0 y1 y2 y3 y4
      unfold laws_FnDivisorsSum.j5
      repeat' first
      | (with_reducible exact ih0 _ _ _ _ _ _ _ _ _)
      | (with_reducible exact ih1 _ _ _ _ _)
      | (with_reducible exact ih2 _ _ _ _ _)
      | (with_reducible exact ih3 _ _ _ _ _ _ _ _ _ _ _ _)
      | (with_reducible exact ih4 _ _ _ _ _ _)
      | (with_reducible exact ih5 _ _ _ _ _ _ _ _)
      | (with_reducible exact impl_CountDivisors.mono _ _)
      | (with_reducible exact impl_KindOfNumber.mono _ _)
      | (with_reducible exact impl_PrimeFactors.mono _ _)
      | (with_reducible exact impl_ProperSum.mono _ _)
      | (with_reducible exact impl_SumOfDivisors.mono _ _)
      | (with_reducible exact laws_qGcd.mono _ _ _)
      | (with_reducible exact laws_qSame.mono _ _ _)
      | (with_reducible exact spec_CountDivisors.mono _ _)
      | (with_reducible exact spec_DrawPrimeFactors.mono _ _)
      | (with_reducible exact spec_DrawSumOfDivisors.mono _ _)
      | (with_reducible exact spec_KindOfNumber.mono _ _)
      | (with_reducible exact spec_PrimeFactors.mono _ _)
      | (with_reducible exact spec_ProperSum.mono _ _)
      | (with_reducible exact spec_SumOfDivisors.mono _ _)
      | (with_reducible exact LeO.refl _)
      | (with_reducible exact LeO.none _)
      | (with_reducible refine LeO.ite ?_ ?_)
      | (with_reducible refine LeO.bind ?_ (fun _ => ?_))
      | exact ih0 _ _ _ _ _ _ _ _ _
      | exact ih1 _ _ _ _ _
      | exact ih2 _ _ _ _ _
      | exact ih3 _ _ _ _ _ _ _ _ _ _ _ _
      | exact ih4 _ _ _ _ _ _
      | exact ih5 _ _ _ _ _ _ _ _
      | exact impl_CountDivisors.mono _ _
      | exact impl_KindOfNumber.mono _ _
      | exact impl_PrimeFactors.mono _ _
      | exact impl_ProperSum.mono _ _
      | exact impl_SumOfDivisors.mono _ _
      | exact laws_qGcd.mono _ _ _
      | exact laws_qSame.mono _ _ _
      | exact spec_CountDivisors.mono _ _
      | exact spec_DrawPrimeFactors.mono _ _
      | exact spec_DrawSumOfDivisors.mono _ _
      | exact spec_KindOfNumber.mono _ _
      | exact spec_PrimeFactors.mono _ _
      | exact spec_ProperSum.mono _ _
      | exact spec_SumOfDivisors.mono _ _
      | exact LeO.none _
      | refine LeO.ite ?_ ?_
      | refine LeO.bind ?_ (fun _ => ?_)
    · intro y0 y1 y2 y3 y4 y5 y6 y7 y8 y9 y10 y11
      unfold laws_FnDivisorsSum.l0
      repeat' first
      | (with_reducible exact ih0 _ _ _ _ _ _ _ _ _)
      | (with_reducible exact ih1 _ _ _ _ _)
      | (with_reducible exact ih2 _ _ _ _ _)
      | (with_reducible exact ih3 _ _ _ _ _ _ _ _ _ _ _ _)
      | (with_reducible exact ih4 _ _ _ _ _ _)
      | (with_reducible exact ih5 _ _ _ _ _ _ _ _)
      | (with_reducible exact impl_CountDivisors.mono _ _)
      | (with_reducible exact impl_KindOfNumber.mono _ _)
      | (with_reducible exact impl_PrimeFactors.mono _ _)
      | (with_reducible exact impl_ProperSum.mono _ _)
      | (with_reducible exact impl_SumOfDivisors.mono _ _)
      | (with_reducible exact laws_qGcd.mono _ _ _)
      | (with_reducible exact laws_qSame.mono _ _ _)
      | (with_reducible exact spec_CountDivisors.mono _ _)
      | (with_reducible exact spec_DrawPrimeFactors.mono _ _)
      | (with_reducible exact spec_DrawSumOfDivisors.mono _ _)
      | (with_reducible exact spec_KindOfNumber.mono _ _)
      | (with_reducible exact spec_PrimeFactors.mono _ _)
      | (with_reducible exact spec_ProperSum.mono _ _)
      | (with_reducible exact spec_SumOfDivisors.mono _ _)
      | (with_reducible exact LeO.refl _)
      | (with_reducible exact LeO.none _)
      | (with_reducible refine LeO.ite ?_ ?_)
      | (with_reducible refine LeO.bind ?_ (fun _ => ?_))
      | exact ih0 _ _ _ _ _ _ _ _ _
      | exact ih1 _ _ _ _ _
      | exact ih2 _ _ _ _ _
      | exact ih3 _ _ _ _ _ _ _ _ _ _ _ _
      | exact ih4 _ _ _ _ _ _
      | exact ih5 _ _ _ _ _ _ _ _
      | exact impl_CountDivisors.mono _ _
      | exact impl_KindOfNumber.mono _ _
      | exact impl_PrimeFactors.mono _ _
      | exact impl_ProperSum.mono _ _
      | exact impl_SumOfDivisors.mono _ _
      | exact laws_qGcd.mono _ _ _
      | exact laws_qSame.mono _ _ _
      | exact spec_CountDivisors.mono _ _
      | exact spec_DrawPrimeFactors.mono _ _
      | exact spec_DrawSumOfDivisors.mono _ _
      | exact spec_KindOfNumber.mono _ _
      | exact spec_PrimeFactors.mono _ _
      | exact spec_ProperSum.mono _ _
      | exact spec_SumOfDivisors.mono _ _
      | exact LeO.none _
      | refine LeO.ite ?_ ?_
      | refine LeO.bind ?_ (fun _ => ?_)
    · intro y0 y1 y2 y3 y4 y5
      unfold laws_FnDivisorsSum.j2
      repeat' first
      | (with_reducible exact ih0 _ _ _ _ _ _ _ _ _)
      | (with_reducible exact ih1 _ _ _ _ _)
      | (with_reducible exact ih2 _ _ _ _ _)
      | (with_reducible exact ih3 _ _ _ _ _ _ _ _ _ _ _ _)
      | (with_reducible exact ih4 _ _ _ _ _ _)
      | (with_reducible exact ih5 _ _ _ _ _ _ _ _)
      | (with_reducible exact impl_CountDivisors.mono _ _)
      | (with_reducible exact impl_KindOfNumber.mono _ _)
      | (with_reducible exact impl_PrimeFactors.mono _ _)
      | (with_reducible exact impl_ProperSum.mono _ _)
      | (with_reducible exact impl_SumOfDivisors.mono _ _)
      | (with_reducible exact laws_qGcd.mono _ _ _)
      | (with_reducible exact laws_qSame.mono _ _ _)
      | (with_reducible exact spec_CountDivisors.mono _ _)
      | (with_reducible exact spec_DrawPrimeFactors.mono _ _)
      | (with_reducible exact spec_DrawSumOfDivisors.mono _ _)
      | (with_reducible exact spec_KindOfNumber.mono _ _)
      | (with_reducible exact spec_PrimeFactors.mono _ _)
      | (with_reducible exact spec_ProperSum.mono _ _)
      | (with_reducible exact spec_SumOfDivisors.mono _ _)
      | (with_reducible exact LeO.refl _)
      | (with_reducible exact LeO.none _)
      | (with_reducible refine LeO.ite ?_ ?_)
      | (with_reducible refine LeO.bind ?_ (fun _ => ?_))
      | exact ih0 _ _ _ _ _ _ _ _ _
      | exact ih1 _ _ _ _ _
      | exact ih2 _ _ _ _ _
      | exact ih3 _ _ _ _ _ _ _ _ _ _ _ _
      | exact ih4 _ _ _ _ _ _
      | exact ih5 _ _ _ _ _ _ _ _
      | exact impl_CountDivisors.mono _ _
      | exact impl_KindOfNumber.mono _ _
      | exact impl_PrimeFactors.mono _ _
      | exact impl_ProperSum.mono _ _
      | exact impl_SumOfDivisors.mono _ _
      | exact laws_qGcd.mono _ _ _
      | exact laws_qSame.mono _ _ _
      | exact spec_CountDivisors.mono _ _
      | exact spec_DrawPrimeFactors.mono _ _
      | exact spec_DrawSumOfDivisors.mono _ _
      | exact spec_KindOfNumber.mono _ _
      | exact spec_PrimeFactors.mono _ _
      | exact spec_ProperSum.mono _ _
      | exact spec_SumOfDivisors.mono _ _
      | exact LeO.none _
      | refine LeO.ite ?_ ?_
      | refine LeO.bind ?_ (fun _ => ?_)
    · intro y0 y1 y2 y3 y4 y5 y6 y7
      unfold laws_FnDivisorsSum.l1
      repeat' first
      | (with_reducible exact ih0 _ _ _ _ _ _ _ _ _)
      | (with_reducible exact ih1 _ _ _ _ _)
      | (with_reducible exact ih2 _ _ _ _ _)
      | (with_reducible exact ih3 _ _ _ _ _ _ _ _ _ _ _ _)
      | (with_reducible exact ih4 _ _ _ _ _ _)
      | (with_reducible exact ih5 _ _ _ _ _ _ _ _)
      | (with_reducible exact impl_CountDivisors.mono _ _)
      | (with_reducible exact impl_KindOfNumber.mono _ _)
      | (with_reducible exact impl_PrimeFactors.mono _ _)
      | (with_reducible exact impl_ProperSum.mono _ _)
      | (with_reducible exact impl_SumOfDivisors.mono _ _)
      | (with_reducible exact laws_qGcd.mono _ _ _)
      | (with_reducible exact laws_qSame.mono _ _ _)
      | (with_reducible exact spec_CountDivisors.mono _ _)
      | (with_reducible exact spec_DrawPrimeFactors.mono _ _)
      | (with_reducible exact spec_DrawSumOfDivisors.mono _ _)
      | (with_reducible exact spec_KindOfNumber.mono _ _)
      | (with_reducible exact spec_PrimeFactors.mono _ _)
      | (with_reducible exact spec_ProperSum.mono _ _)
      | (with_reducible exact spec_SumOfDivisors.mono _ _)
      | (with_reducible exact LeO.refl _)
      | (with_reducible exact LeO.none _)
      | (with_reducible refine LeO.ite ?_ ?_)
      | (with_reducible refine LeO.bind ?_ (fun _ => ?_))
      | exact ih0 _ _ _ _ _ _ _ _ _
      | exact ih1 _ _ _ _ _
      | exact ih2 _ _ _ _ _
      | exact ih3 _ _ _ _ _ _ _ _ _ _ _ _
      | exact ih4 _ _ _ _ _ _
      | exact ih5 _ _ _ _ _ _ _ _
      | exact impl_CountDivisors.mono _ _
      | exact impl_KindOfNumber.mono _ _
      | exact impl_PrimeFactors.mono _ _
      | exact impl_ProperSum.mono _ _
      | exact impl_SumOfDivisors.mono _ _
      | exact laws_qGcd.mono _ _ _
      | exact laws_qSame.mono _ _ _
      | exact spec_CountDivisors.mono _ _
      | exact spec_DrawPrimeFactors.mono _ _
      | exact spec_DrawSumOfDivisors.mono _ _
      | exact spec_KindOfNumber.mono _ _
      | exact spec_PrimeFactors.mono _ _
      | exact spec_ProperSum.mono _ _
      | exact spec_SumOfDivisors.mono _ _
      | exact LeO.none _
      | refine LeO.ite ?_ ?_
      | refine LeO.bind ?_ (fun _ => ?_)
theorem laws_FnDivisorsSum.mono : ∀ a0 a1 k, LeO (laws_FnDivisorsSum.f k a0 a1) (laws_FnDivisorsSum.f (k + 1) a0 a1) := by
  intro a0 a1 k
  obtain ⟨ih0, ih1, ih2, ih3, ih4, ih5⟩ := laws_FnDivisorsSum.mono_l k
  unfold laws_FnDivisorsSum.f
  repeat' first
      | (with_reducible exact ih0 _ _ _ _ _ _ _ _ _)
      | (with_reducible exact ih1 _ _ _ _ _)
      | (with_reducible exact ih2 _ _ _ _ _)
      | (with_reducible exact ih3 _ _ _ _ _ _ _ _ _ _ _ _)
      | (with_reducible exact ih4 _ _ _ _ _ _)
      | (with_reducible exact ih5 _ _ _ _ _ _ _ _)
      | (with_reducible exact impl_CountDivisors.mono _ _)
      | (with_reducible exact impl_KindOfNumber.mono _ _)
      | (with_reducible exact impl_PrimeFactors.mono _ _)
      | (with_reducible exact impl_ProperSum.mono _ _)
      | (with_reducible exact impl_SumOfDivisors.mono _ _)
      | (with_reducible exact laws_qGcd.mono _ _ _)
      | (with_reducible exact laws_qSame.mono _ _ _)
      | (with_reducible exact spec_CountDivisors.mono _ _)
      | (with_reducible exact spec_DrawPrimeFactors.mono _ _)
      | (with_reducible exact spec_DrawSumOfDivisors.mono _ _)
      | (with_reducible exact spec_KindOfNumber.mono _ _)
      | (with_reducible exact spec_PrimeFactors.mono _ _)
      | (with_reducible exact spec_ProperSum.mono _ _)
      | (with_reducible exact spec_SumOfDivisors.mono _ _)
      | (with_reducible exact LeO.refl _)
      | (with_reducible exact LeO.none _)
      | (with_reducible refine LeO.ite ?_ ?_)
      | (with_reducible refine LeO.bind ?_ (fun _ => ?_))
      | exact ih0 _ _ _ _ _ _ _ _ _
      | exact ih1 _ _ _ _ _
      | exact ih2 _ _ _ _ _
      | exact ih3 _ _ _ _ _ _ _ _ _ _ _ _
      | exact ih4 _ _ _ _ _ _
      | exact ih5 _ _ _ _ _ _ _ _
      | exact impl_CountDivisors.mono _ _
      | exact impl_KindOfNumber.mono _ _
      | exact impl_PrimeFactors.mono _ _
      | exact impl_ProperSum.mono _ _
      | exact impl_SumOfDivisors.mono _ _
      | exact laws_qGcd.mono _ _ _
      | exact laws_qSame.mono _ _ _
      | exact spec_CountDivisors.mono _ _
      | exact spec_DrawPrimeFactors.mono _ _
      | exact spec_DrawSumOfDivisors.mono _ _
      | exact spec_KindOfNumber.mono _ _
      | exact spec_PrimeFactors.mono _ _
      | exact spec_ProperSum.mono _ _
      | exact spec_SumOfDivisors.mono _ _
      | exact LeO.none _
      | refine LeO.ite ?_ ?_
      | refine LeO.bind ?_ (fun _ => ?_)
theorem laws_FnDivisorsSum.j0_no {r : Bool} (hr : r = true) (k : Nat) (x1 : List Int) (x5 : Int) (x6 : Int) (x7 : Bool) (x10 : Int) (x14 : Int) (x18 : Int) (x22 : List Int) (h : laws_FnDivisorsSum.j0 k x1 x5 x6 x7 x10 x14 x18 x22 true = some r) : False := by
  subst hr
  cases k with
  | zero => simp [laws_FnDivisorsSum.j0] at h
  | succ k => simp [laws_FnDivisorsSum.j0] at h
theorem laws_FnDivisorsSum.j2_no {r : Bool} (hr : r = true) (k : Nat) (x1 : List Int) (x5 : Int) (x6 : Int) (x7 : Bool) (x10 : Int) (h : laws_FnDivisorsSum.j2 k x1 x5 x6 x7 x10 true = some r) : False := by
  subst hr
  cases k with
  | zero => simp [laws_FnDivisorsSum.j2] at h
  | succ k => simp [laws_FnDivisorsSum.j2] at h
set_option maxHeartbeats 8000000 in
set_option maxRecDepth 100000 in
theorem laws_FnDivisorsSum.calls (k : Nat) (A0 : Option Addr) (c0 : Nat) (l0 : List Int) (A1 : Option Addr) (c1 : Nat) (l1 : List Int) (r : Bool) (w : World) (hr0 : Kd.C (Kd.int .u8) w A0 l0.length l0) (hc0 : l0.length ≤ c0) (hr1 : Kd.C (Kd.int .u8) w A1 l1.length l1) (hc1 : l1.length ≤ c1) (h : laws_FnDivisorsSum.f k l0 l1 = some r) (hr_ : r = true) :
    Calls Try.prog 6 #[.slice A0 l0.length c0, .slice A1 l1.length c1] w fun e w' => e = .returned (.bool r) ∧ Below w.heap.size w w' := by
  have HR0 := Aside0.mk hr0
  have HC0 := Aside0.mk hc0
  clear hr0 hc0
  have HR1 := Aside0.mk hr1
  have HC1 := Aside0.mk hc1
  clear hr1 hc1
  have HB := Aside0.mk (Below.refl w.heap.size w)
  have H : ((laws_big.f l0 l1).bind fun t211 => (if t211 = true then (some true) else ((spec_DrawSumOfDivisors.f k l0).bind fun t212 => ((impl_SumOfDivisors.f k t212).bind fun bt213 => ((spec_SumOfDivisors.f k t212).bind fun bt215 => ((impl_CountDivisors.f k t212).bind fun bt217 => ((spec_CountDivisors.f k t212).bind fun bt219 => ((impl_ProperSum.f k t212).bind fun bt221 => ((spec_ProperSum.f k t212).bind fun bt223 => ((impl_KindOfNumber.f k t212).bind fun bt225 => ((spec_KindOfNumber.f k t212).bind fun bt227 => ((impl_PrimeFactors.f k t212).bind fun bt229 => ((spec_PrimeFactors.f k t212).bind fun bt233 => (if (bt213.2 != bt215.2) = true then (laws_FnDivisorsSum.j0 k l1 t212 bt213.1 bt213.2 bt217.1 bt221.1 bt225.1 bt229.1 true) else (if bt213.1 = bt215.1 then (if (bt217.2 != bt219.2) = true then (laws_FnDivisorsSum.j0 k l1 t212 bt213.1 bt213.2 bt217.1 bt221.1 bt225.1 bt229.1 true) else (if bt217.1 = bt219.1 then (if (bt221.2 != bt223.2) = true then (laws_FnDivisorsSum.j0 k l1 t212 bt213.1 bt213.2 bt217.1 bt221.1 bt225.1 bt229.1 true) else (if bt221.1 = bt223.1 then (if (bt225.2 != bt227.2) = true then (laws_FnDivisorsSum.j0 k l1 t212 bt213.1 bt213.2 bt217.1 bt221.1 bt225.1 bt229.1 true) else (if bt225.1 = bt227.1 then (if (bt229.2 != bt233.2) = true then (laws_FnDivisorsSum.j0 k l1 t212 bt213.1 bt213.2 bt217.1 bt221.1 bt225.1 bt229.1 true) else ((laws_qSame.f k bt229.1 bt233.1).bind fun t237 => (if t237 = true then (if (bt217.2 != bt213.2) = true then (laws_FnDivisorsSum.j0 k l1 t212 bt213.1 bt213.2 bt217.1 bt221.1 bt225.1 bt229.1 true) else (if (bt221.2 != bt213.2) = true then (laws_FnDivisorsSum.j0 k l1 t212 bt213.1 bt213.2 bt217.1 bt221.1 bt225.1 bt229.1 true) else (if (bt225.2 != bt213.2) = true then (laws_FnDivisorsSum.j0 k l1 t212 bt213.1 bt213.2 bt217.1 bt221.1 bt225.1 bt229.1 true) else (laws_FnDivisorsSum.j0 k l1 t212 bt213.1 bt213.2 bt217.1 bt221.1 bt225.1 bt229.1 (bt229.2 != bt213.2))))) else (laws_FnDivisorsSum.j0 k l1 t212 bt213.1 bt213.2 bt217.1 bt221.1 bt225.1 bt229.1 true)))) else (laws_FnDivisorsSum.j0 k l1 t212 bt213.1 bt213.2 bt217.1 bt221.1 bt225.1 bt229.1 true))) else (laws_FnDivisorsSum.j0 k l1 t212 bt213.1 bt213.2 bt217.1 bt221.1 bt225.1 bt229.1 true))) else (laws_FnDivisorsSum.j0 k l1 t212 bt213.1 bt213.2 bt217.1 bt221.1 bt225.1 bt229.1 true))) else (laws_FnDivisorsSum.j0 k l1 t212 bt213.1 bt213.2 bt217.1 bt221.1 bt225.1 bt229.1 true)))))))))))))))) = some r := h
  clear h
  have HR_ := Aside0.mk hr_
  clear hr_
  replace H := Option.bind_eq_some_iff.mp H
  obtain ⟨t211, A30, H⟩ := H
  replace H : (if t211 = true then (some true) else ((spec_DrawSumOfDivisors.f k l0).bind fun t212 => ((impl_SumOfDivisors.f k t212).bind fun bt213 => ((spec_SumOfDivisors.f k t212).bind fun bt215 => ((impl_CountDivisors.f k t212).bind fun bt217 => ((spec_CountDivisors.f k t212).bind fun bt219 => ((impl_ProperSum.f k t212).bind fun bt221 => ((spec_ProperSum.f k t212).bind fun bt223 => ((impl_KindOfNumber.f k t212).bind fun bt225 => ((spec_KindOfNumber.f k t212).bind fun bt227 => ((impl_PrimeFactors.f k t212).bind fun bt229 => ((spec_PrimeFactors.f k t212).bind fun bt233 => (if (bt213.2 != bt215.2) = true then (laws_FnDivisorsSum.j0 k l1 t212 bt213.1 bt213.2 bt217.1 bt221.1 bt225.1 bt229.1 true) else (if bt213.1 = bt215.1 then (if (bt217.2 != bt219.2) = true then (laws_FnDivisorsSum.j0 k l1 t212 bt213.1 bt213.2 bt217.1 bt221.1 bt225.1 bt229.1 true) else (if bt217.1 = bt219.1 then (if (bt221.2 != bt223.2) = true then (laws_FnDivisorsSum.j0 k l1 t212 bt213.1 bt213.2 bt217.1 bt221.1 bt225.1 bt229.1 true) else (if bt221.1 = bt223.1 then (if (bt225.2 != bt227.2) = true then (laws_FnDivisorsSum.j0 k l1 t212 bt213.1 bt213.2 bt217.1 bt221.1 bt225.1 bt229.1 true) else (if bt225.1 = bt227.1 then (if (bt229.2 != bt233.2) = true then (laws_FnDivisorsSum.j0 k l1 t212 bt213.1 bt213.2 bt217.1 bt221.1 bt225.1 bt229.1 true) else ((laws_qSame.f k bt229.1 bt233.1).bind fun t237 => (if t237 = true then (if (bt217.2 != bt213.2) = true then (laws_FnDivisorsSum.j0 k l1 t212 bt213.1 bt213.2 bt217.1 bt221.1 bt225.1 bt229.1 true) else (if (bt221.2 != bt213.2) = true then (laws_FnDivisorsSum.j0 k l1 t212 bt213.1 bt213.2 bt217.1 bt221.1 bt225.1 bt229.1 true) else (if (bt225.2 != bt213.2) = true then (laws_FnDivisorsSum.j0 k l1 t212 bt213.1 bt213.2 bt217.1 bt221.1 bt225.1 bt229.1 true) else (laws_FnDivisorsSum.j0 k l1 t212 bt213.1 bt213.2 bt217.1 bt221.1 bt225.1 bt229.1 (bt229.2 != bt213.2))))) else (laws_FnDivisorsSum.j0 k l1 t212 bt213.1 bt213.2 bt217.1 bt221.1 bt225.1 bt229.1 true)))) else (laws_FnDivisorsSum.j0 k l1 t212 bt213.1 bt213.2 bt217.1 bt221.1 bt225.1 bt229.1 true))) else (laws_FnDivisorsSum.j0 k l1 t212 bt213.1 bt213.2 bt217.1 bt221.1 bt225.1 bt229.1 true))) else (laws_FnDivisorsSum.j0 k l1 t212 bt213.1 bt213.2 bt217.1 bt221.1 bt225.1 bt229.1 true))) else (laws_FnDivisorsSum.j0 k l1 t212 bt213.1 bt213.2 bt217.1 bt221.1 bt225.1 bt229.1 true))))))))))))))) = some r := H
  have A3 := Aside0.mk A30
  clear A30
  by_cases c4 : t211 = true
  · subst c4
    have H1 : (some true) = some r := by rw [if_pos rfl] at H; exact H
    clear H
    have H := H1
    clear H1
    as_aux_lemma =>
      obtain rfl := Option.some.inj H
      go_enter Try.func6, Try.ntmps6
      go_wp2_with (first | ((with_reducible refine gate_callee (f := 25) rfl ?_); refine goesL_ (some 45) rfl rfl Try.func25 (by kernel_rfl) rfl #[.slice A0 l0.length c0, .slice A1 l1.length c1] rfl (by (try simp only [List.map_toArray, List.map_cons, List.map_nil]); first | done | rfl | (simp only [List.length_drop, List.length_take]; rfl)) ?_; (with_reducible refine (laws_big.calls _ _ l0 _ _ l1 true _ ?side1 ?side2 ?side3 ?side4 A3.out).mono ?_); (case side1 => repeat (first | exact HR0.out | (with_reducible refine Kd.C_alloc ?_ _) | (with_reducible refine Kd.C_drewN ?_ _) | (with_reducible refine Kd.C_drew ?_))); (case side2 => exact HC0.out); (case side3 => repeat (first | exact HR1.out | (with_reducible refine Kd.C_alloc ?_ _) | (with_reducible refine Kd.C_drewN ?_ _) | (with_reducible refine Kd.C_drew ?_))); (case side4 => exact HC1.out); rintro e w' ⟨rfl, ⟨nd, rfl⟩⟩; refine ⟨_, rfl, ?_⟩))
      go_ret
      exact ⟨by first | rfl | (simp [errW_none, errW_some] <;> rfl) | (simp [*, errW_none, errW_some] <;> rfl), by repeat (first | (with_reducible first | exact HB.out | apply below_alloc | apply pw_below_drewN | apply below_drew1) | exact HB.out)⟩
  · replace c4 := Bool.eq_false_iff.mpr c4
    subst c4
    have H1 : ((spec_DrawSumOfDivisors.f k l0).bind fun t212 => ((impl_SumOfDivisors.f k t212).bind fun bt213 => ((spec_SumOfDivisors.f k t212).bind fun bt215 => ((impl_CountDivisors.f k t212).bind fun bt217 => ((spec_CountDivisors.f k t212).bind fun bt219 => ((impl_ProperSum.f k t212).bind fun bt221 => ((spec_ProperSum.f k t212).bind fun bt223 => ((impl_KindOfNumber.f k t212).bind fun bt225 => ((spec_KindOfNumber.f k t212).bind fun bt227 => ((impl_PrimeFactors.f k t212).bind fun bt229 => ((spec_PrimeFactors.f k t212).bind fun bt233 => (if (bt213.2 != bt215.2) = true then (laws_FnDivisorsSum.j0 k l1 t212 bt213.1 bt213.2 bt217.1 bt221.1 bt225.1 bt229.1 true) else (if bt213.1 = bt215.1 then (if (bt217.2 != bt219.2) = true then (laws_FnDivisorsSum.j0 k l1 t212 bt213.1 bt213.2 bt217.1 bt221.1 bt225.1 bt229.1 true) else (if bt217.1 = bt219.1 then (if (bt221.2 != bt223.2) = true then (laws_FnDivisorsSum.j0 k l1 t212 bt213.1 bt213.2 bt217.1 bt221.1 bt225.1 bt229.1 true) else (if bt221.1 = bt223.1 then (if (bt225.2 != bt227.2) = true then (laws_FnDivisorsSum.j0 k l1 t212 bt213.1 bt213.2 bt217.1 bt221.1 bt225.1 bt229.1 true) else (if bt225.1 = bt227.1 then (if (bt229.2 != bt233.2) = true then (laws_FnDivisorsSum.j0 k l1 t212 bt213.1 bt213.2 bt217.1 bt221.1 bt225.1 bt229.1 true) else ((laws_qSame.f k bt229.1 bt233.1).bind fun t237 => (if t237 = true then (if (bt217.2 != bt213.2) = true then (laws_FnDivisorsSum.j0 k l1 t212 bt213.1 bt213.2 bt217.1 bt221.1 bt225.1 bt229.1 true) else (if (bt221.2 != bt213.2) = true then (laws_FnDivisorsSum.j0 k l1 t212 bt213.1 bt213.2 bt217.1 bt221.1 bt225.1 bt229.1 true) else (if (bt225.2 != bt213.2) = true then (laws_FnDivisorsSum.j0 k l1 t212 bt213.1 bt213.2 bt217.1 bt221.1 bt225.1 bt229.1 true) else (laws_FnDivisorsSum.j0 k l1 t212 bt213.1 bt213.2 bt217.1 bt221.1 bt225.1 bt229.1 (bt229.2 != bt213.2))))) else (laws_FnDivisorsSum.j0 k l1 t212 bt213.1 bt213.2 bt217.1 bt221.1 bt225.1 bt229.1 true)))) else (laws_FnDivisorsSum.j0 k l1 t212 bt213.1 bt213.2 bt217.1 bt221.1 bt225.1 bt229.1 true))) else (laws_FnDivisorsSum.j0 k l1 t212 bt213.1 bt213.2 bt217.1 bt221.1 bt225.1 bt229.1 true))) else (laws_FnDivisorsSum.j0 k l1 t212 bt213.1 bt213.2 bt217.1 bt221.1 bt225.1 bt229.1 true))) else (laws_FnDivisorsSum.j0 k l1 t212 bt213.1 bt213.2 bt217.1 bt221.1 bt225.1 bt229.1 true)))))))))))))) = some r := by rw [if_neg (show ¬ (false = true) by decide)] at H; exact H
    clear H
    have H := H1
    clear H1
    replace H := Option.bind_eq_some_iff.mp H
    obtain ⟨t212, A50, H⟩ := H
    replace H : ((impl_SumOfDivisors.f k t212).bind fun bt213 => ((spec_SumOfDivisors.f k t212).bind fun bt215 => ((impl_CountDivisors.f k t212).bind fun bt217 => ((spec_CountDivisors.f k t212).bind fun bt219 => ((impl_ProperSum.f k t212).bind fun bt221 => ((spec_ProperSum.f k t212).bind fun bt223 => ((impl_KindOfNumber.f k t212).bind fun bt225 => ((spec_KindOfNumber.f k t212).bind fun bt227 => ((impl_PrimeFactors.f k t212).bind fun bt229 => ((spec_PrimeFactors.f k t212).bind fun bt233 => (if (bt213.2 != bt215.2) = true then (laws_FnDivisorsSum.j0 k l1 t212 bt213.1 bt213.2 bt217.1 bt221.1 bt225.1 bt229.1 true) else (if bt213.1 = bt215.1 then (if (bt217.2 != bt219.2) = true then (laws_FnDivisorsSum.j0 k l1 t212 bt213.1 bt213.2 bt217.1 bt221.1 bt225.1 bt229.1 true) else (if bt217.1 = bt219.1 then (if (bt221.2 != bt223.2) = true then (laws_FnDivisorsSum.j0 k l1 t212 bt213.1 bt213.2 bt217.1 bt221.1 bt225.1 bt229.1 true) else (if bt221.1 = bt223.1 then (if (bt225.2 != bt227.2) = true then (laws_FnDivisorsSum.j0 k l1 t212 bt213.1 bt213.2 bt217.1 bt221.1 bt225.1 bt229.1 true) else (if bt225.1 = bt227.1 then (if (bt229.2 != bt233.2) = true then (laws_FnDivisorsSum.j0 k l1 t212 bt213.1 bt213.2 bt217.1 bt221.1 bt225.1 bt229.1 true) else ((laws_qSame.f k bt229.1 bt233.1).bind fun t237 => (if t237 = true then (if (bt217.2 != bt213.2) = true then (laws_FnDivisorsSum.j0 k l1 t212 bt213.1 bt213.2 bt217.1 bt221.1 bt225.1 bt229.1 true) else (if (bt221.2 != bt213.2) = true then (laws_FnDivisorsSum.j0 k l1 t212 bt213.1 bt213.2 bt217.1 bt221.1 bt225.1 bt229.1 true) else (if (bt225.2 != bt213.2) = true then (laws_FnDivisorsSum.j0 k l1 t212 bt213.1 bt213.2 bt217.1 bt221.1 bt225.1 bt229.1 true) else (laws_FnDivisorsSum.j0 k l1 t212 bt213.1 bt213.2 bt217.1 bt221.1 bt225.1 bt229.1 (bt229.2 != bt213.2))))) else (laws_FnDivisorsSum.j0 k l1 t212 bt213.1 bt213.2 bt217.1 bt221.1 bt225.1 bt229.1 true)))) else (laws_FnDivisorsSum.j0 k l1 t212 bt213.1 bt213.2 bt217.1 bt221.1 bt225.1 bt229.1 true))) else (laws_FnDivisorsSum.j0 k l1 t212 bt213.1 bt213.2 bt217.1 bt221.1 bt225.1 bt229.1 true))) else (laws_FnDivisorsSum.j0 k l1 t212 bt213.1 bt213.2 bt217.1 bt221.1 bt225.1 bt229.1 true))) else (laws_FnDivisorsSum.j0 k l1 t212 bt213.1 bt213.2 bt217.1 bt221.1 bt225.1 bt229.1 true))))))))))))) = some r := H
    have A5 := Aside0.mk A50
    clear A50
    replace H := Option.bind_eq_some_iff.mp H
    obtain ⟨⟨t213, t214⟩, A60, H⟩ := H
    replace H : ((spec_SumOfDivisors.f k t212).bind fun bt215 => ((impl_CountDivisors.f k t212).bind fun bt217 => ((spec_CountDivisors.f k t212).bind fun bt219 => ((impl_ProperSum.f k t212).bind fun bt221 => ((spec_ProperSum.f k t212).bind fun bt223 => ((impl_KindOfNumber.f k t212).bind fun bt225 => ((spec_KindOfNumber.f k t212).bind fun bt227 => ((impl_PrimeFactors.f k t212).bind fun bt229 => ((spec_PrimeFactors.f k t212).bind fun bt233 => (if (t214 != bt215.2) = true then (laws_FnDivisorsSum.j0 k l1 t212 t213 t214 bt217.1 bt221.1 bt225.1 bt229.1 true) else (if t213 = bt215.1 then (if (bt217.2 != bt219.2) = true then (laws_FnDivisorsSum.j0 k l1 t212 t213 t214 bt217.1 bt221.1 bt225.1 bt229.1 true) else (if bt217.1 = bt219.1 then (if (bt221.2 != bt223.2) = true then (laws_FnDivisorsSum.j0 k l1 t212 t213 t214 bt217.1 bt221.1 bt225.1 bt229.1 true) else (if bt221.1 = bt223.1 then (if (bt225.2 != bt227.2) = true then (laws_FnDivisorsSum.j0 k l1 t212 t213 t214 bt217.1 bt221.1 bt225.1 bt229.1 true) else (if bt225.1 = bt227.1 then (if (bt229.2 != bt233.2) = true then (laws_FnDivisorsSum.j0 k l1 t212 t213 t214 bt217.1 bt221.1 bt225.1 bt229.1 true) else ((laws_qSame.f k bt229.1 bt233.1).bind fun t237 => (if t237 = true then (if (bt217.2 != t214) = true then (laws_FnDivisorsSum.j0 k l1 t212 t213 t214 bt217.1 bt221.1 bt225.1 bt229.1 true) else (if (bt221.2 != t214) = true then (laws_FnDivisorsSum.j0 k l1 t212 t213 t214 bt217.1 bt221.1 bt225.1 bt229.1 true) else (if (bt225.2 != t214) = true then (laws_FnDivisorsSum.j0 k l1 t212 t213 t214 bt217.1 bt221.1 bt225.1 bt229.1 true) else (laws_FnDivisorsSum.j0 k l1 t212 t213 t214 bt217.1 bt221.1 bt225.1 bt229.1 (bt229.2 != t214))))) else (laws_FnDivisorsSum.j0 k l1 t212 t213 t214 bt217.1 bt221.1 bt225.1 bt229.1 true)))) else (laws_FnDivisorsSum.j0 k l1 t212 t213 t214 bt217.1 bt221.1 bt225.1 bt229.1 true))) else (laws_FnDivisorsSum.j0 k l1 t212 t213 t214 bt217.1 bt221.1 bt225.1 bt229.1 true))) else (laws_FnDivisorsSum.j0 k l1 t212 t213 t214 bt217.1 bt221.1 bt225.1 bt229.1 true))) else (laws_FnDivisorsSum.j0 k l1 t212 t213 t214 bt217.1 bt221.1 bt225.1 bt229.1 true)))))))))))) = some r := H
    have A6 := Aside0.mk A60
    clear A60
    replace H := Option.bind_eq_some_iff.mp H
    obtain ⟨⟨t215, t216⟩, A70, H⟩ := H
    replace H : ((impl_CountDivisors.f k t212).bind fun bt217 => ((spec_CountDivisors.f k t212).bind fun bt219 => ((impl_ProperSum.f k t212).bind fun bt221 => ((spec_ProperSum.f k t212).bind fun bt223 => ((impl_KindOfNumber.f k t212).bind fun bt225 => ((spec_KindOfNumber.f k t212).bind fun bt227 => ((impl_PrimeFactors.f k t212).bind fun bt229 => ((spec_PrimeFactors.f k t212).bind fun bt233 => (if (t214 != t216) = true then (laws_FnDivisorsSum.j0 k l1 t212 t213 t214 bt217.1 bt221.1 bt225.1 bt229.1 true) else (if t213 = t215 then (if (bt217.2 != bt219.2) = true then (laws_FnDivisorsSum.j0 k l1 t212 t213 t214 bt217.1 bt221.1 bt225.1 bt229.1 true) else (if bt217.1 = bt219.1 then (if (bt221.2 != bt223.2) = true then (laws_FnDivisorsSum.j0 k l1 t212 t213 t214 bt217.1 bt221.1 bt225.1 bt229.1 true) else (if bt221.1 = bt223.1 then (if (bt225.2 != bt227.2) = true then (laws_FnDivisorsSum.j0 k l1 t212 t213 t214 bt217.1 bt221.1 bt225.1 bt229.1 true) else (if bt225.1 = bt227.1 then (if (bt229.2 != bt233.2) = true then (laws_FnDivisorsSum.j0 k l1 t212 t213 t214 bt217.1 bt221.1 bt225.1 bt229.1 true) else ((laws_qSame.f k bt229.1 bt233.1).bind fun t237 => (if t237 = true then (if (bt217.2 != t214) = true then (laws_FnDivisorsSum.j0 k l1 t212 t213 t214 bt217.1 bt221.1 bt225.1 bt229.1 true) else (if (bt221.2 != t214) = true then (laws_FnDivisorsSum.j0 k l1 t212 t213 t214 bt217.1 bt221.1 bt225.1 bt229.1 true) else (if (bt225.2 != t214) = true then (laws_FnDivisorsSum.j0 k l1 t212 t213 t214 bt217.1 bt221.1 bt225.1 bt229.1 true) else (laws_FnDivisorsSum.j0 k l1 t212 t213 t214 bt217.1 bt221.1 bt225.1 bt229.1 (bt229.2 != t214))))) else (laws_FnDivisorsSum.j0 k l1 t212 t213 t214 bt217.1 bt221.1 bt225.1 bt229.1 true)))) else (laws_FnDivisorsSum.j0 k l1 t212 t213 t214 bt217.1 bt221.1 bt225.1 bt229.1 true))) else (laws_FnDivisorsSum.j0 k l1 t212 t213 t214 bt217.1 bt221.1 bt225.1 bt229.1 true))) else (laws_FnDivisorsSum.j0 k l1 t212 t213 t214 bt217.1 bt221.1 bt225.1 bt229.1 true))) else (laws_FnDivisorsSum.j0 k l1 t212 t213 t214 bt217.1 bt221.1 bt225.1 bt229.1 true))))))))))) = some r := H
    have A7 := Aside0.mk A70
    clear A70
    replace H := Option.bind_eq_some_iff.mp H
    obtain ⟨⟨t217, t218⟩, A80, H⟩ := H
    replace H : ((spec_CountDivisors.f k t212).bind fun bt219 => ((impl_ProperSum.f k t212).bind fun bt221 => ((spec_ProperSum.f k t212).bind fun bt223 => ((impl_KindOfNumber.f k t212).bind fun bt225 => ((spec_KindOfNumber.f k t212).bind fun bt227 => ((impl_PrimeFactors.f k t212).bind fun bt229 => ((spec_PrimeFactors.f k t212).bind fun bt233 => (if (t214 != t216) = true then (laws_FnDivisorsSum.j0 k l1 t212 t213 t214 t217 bt221.1 bt225.1 bt229.1 true) else (if t213 = t215 then (if (t218 != bt219.2) = true then (laws_FnDivisorsSum.j0 k l1 t212 t213 t214 t217 bt221.1 bt225.1 bt229.1 true) else (if t217 = bt219.1 then (if (bt221.2 != bt223.2) = true then (laws_FnDivisorsSum.j0 k l1 t212 t213 t214 t217 bt221.1 bt225.1 bt229.1 true) else (if bt221.1 = bt223.1 then (if (bt225.2 != bt227.2) = true then (laws_FnDivisorsSum.j0 k l1 t212 t213 t214 t217 bt221.1 bt225.1 bt229.1 true) else (if bt225.1 = bt227.1 then (if (bt229.2 != bt233.2) = true then (laws_FnDivisorsSum.j0 k l1 t212 t213 t214 t217 bt221.1 bt225.1 bt229.1 true) else ((laws_qSame.f k bt229.1 bt233.1).bind fun t237 => (if t237 = true then (if (t218 != t214) = true then (laws_FnDivisorsSum.j0 k l1 t212 t213 t214 t217 bt221.1 bt225.1 bt229.1 true) else (if (bt221.2 != t214) = true then (laws_FnDivisorsSum.j0 k l1 t212 t213 t214 t217 bt221.1 bt225.1 bt229.1 true) else (if (bt225.2 != t214) = true then (laws_FnDivisorsSum.j0 k l1 t212 t213 t214 t217 bt221.1 bt225.1 bt229.1 true) else (laws_FnDivisorsSum.j0 k l1 t212 t213 t214 t217 bt221.1 bt225.1 bt229.1 (bt229.2 != t214))))) else (laws_FnDivisorsSum.j0 k l1 t212 t213 t214 t217 bt221.1 bt225.1 bt229.1 true)))) else (laws_FnDivisorsSum.j0 k l1 t212 t213 t214 t217 bt221.1 bt225.1 bt229.1 true))) else (laws_FnDivisorsSum.j0 k l1 t212 t213 t214 t217 bt221.1 bt225.1 bt229.1 true))) else (laws_FnDivisorsSum.j0 k l1 t212 t213 t214 t217 bt221.1 bt225.1 bt229.1 true))) else (laws_FnDivisorsSum.j0 k l1 t212 t213 t214 t217 bt221.1 bt225.1 bt229.1 true)))))))))) = some r := H
    have A8 := Aside0.mk A80
    clear A80
    replace H := Option.bind_eq_some_iff.mp H
    obtain ⟨⟨t219, t220⟩, A90, H⟩ := H
    replace H : ((impl_ProperSum.f k t212).bind fun bt221 => ((spec_ProperSum.f k t212).bind fun bt223 => ((impl_KindOfNumber.f k t212).bind fun bt225 => ((spec_KindOfNumber.f k t212).bind fun bt227 => ((impl_PrimeFactors.f k t212).bind fun bt229 => ((spec_PrimeFactors.f k t212).bind fun bt233 => (if (t214 != t216) = true then (laws_FnDivisorsSum.j0 k l1 t212 t213 t214 t217 bt221.1 bt225.1 bt229.1 true) else (if t213 = t215 then (if (t218 != t220) = true then (laws_FnDivisorsSum.j0 k l1 t212 t213 t214 t217 bt221.1 bt225.1 bt229.1 true) else (if t217 = t219 then (if (bt221.2 != bt223.2) = true then (laws_FnDivisorsSum.j0 k l1 t212 t213 t214 t217 bt221.1 bt225.1 bt229.1 true) else (if bt221.1 = bt223.1 then (if (bt225.2 != bt227.2) = true then (laws_FnDivisorsSum.j0 k l1 t212 t213 t214 t217 bt221.1 bt225.1 bt229.1 true) else (if bt225.1 = bt227.1 then (if (bt229.2 != bt233.2) = true then (laws_FnDivisorsSum.j0 k l1 t212 t213 t214 t217 bt221.1 bt225.1 bt229.1 true) else ((laws_qSame.f k bt229.1 bt233.1).bind fun t237 => (if t237 = true then (if (t218 != t214) = true then (laws_FnDivisorsSum.j0 k l1 t212 t213 t214 t217 bt221.1 bt225.1 bt229.1 true) else (if (bt221.2 != t214) = true then (laws_FnDivisorsSum.j0 k l1 t212 t213 t214 t217 bt221.1 bt225.1 bt229.1 true) else (if (bt225.2 != t214) = true then (laws_FnDivisorsSum.j0 k l1 t212 t213 t214 t217 bt221.1 bt225.1 bt229.1 true) else (laws_FnDivisorsSum.j0 k l1 t212 t213 t214 t217 bt221.1 bt225.1 bt229.1 (bt229.2 != t214))))) else (laws_FnDivisorsSum.j0 k l1 t212 t213 t214 t217 bt221.1 bt225.1 bt229.1 true)))) else (laws_FnDivisorsSum.j0 k l1 t212 t213 t214 t217 bt221.1 bt225.1 bt229.1 true))) else (laws_FnDivisorsSum.j0 k l1 t212 t213 t214 t217 bt221.1 bt225.1 bt229.1 true))) else (laws_FnDivisorsSum.j0 k l1 t212 t213 t214 t217 bt221.1 bt225.1 bt229.1 true))) else (laws_FnDivisorsSum.j0 k l1 t212 t213 t214 t217 bt221.1 bt225.1 bt229.1 true))))))))) = some r := H
    have A9 := Aside0.mk A90
    clear A90
    replace H := Option.bind_eq_some_iff.mp H
    obtain ⟨⟨t221, t222⟩, A100, H⟩ := H
    replace H : ((spec_ProperSum.f k t212).bind fun bt223 => ((impl_KindOfNumber.f k t212).bind fun bt225 => ((spec_KindOfNumber.f k t212).bind fun bt227 => ((impl_PrimeFactors.f k t212).bind fun bt229 => ((spec_PrimeFactors.f k t212).bind fun bt233 => (if (t214 != t216) = true then (laws_FnDivisorsSum.j0 k l1 t212 t213 t214 t217 t221 bt225.1 bt229.1 true) else (if t213 = t215 then (if (t218 != t220) = true then (laws_FnDivisorsSum.j0 k l1 t212 t213 t214 t217 t221 bt225.1 bt229.1 true) else (if t217 = t219 then (if (t222 != bt223.2) = true then (laws_FnDivisorsSum.j0 k l1 t212 t213 t214 t217 t221 bt225.1 bt229.1 true) else (if t221 = bt223.1 then (if (bt225.2 != bt227.2) = true then (laws_FnDivisorsSum.j0 k l1 t212 t213 t214 t217 t221 bt225.1 bt229.1 true) else (if bt225.1 = bt227.1 then (if (bt229.2 != bt233.2) = true then (laws_FnDivisorsSum.j0 k l1 t212 t213 t214 t217 t221 bt225.1 bt229.1 true) else ((laws_qSame.f k bt229.1 bt233.1).bind fun t237 => (if t237 = true then (if (t218 != t214) = true then (laws_FnDivisorsSum.j0 k l1 t212 t213 t214 t217 t221 bt225.1 bt229.1 true) else (if (t222 != t214) = true then (laws_FnDivisorsSum.j0 k l1 t212 t213 t214 t217 t221 bt225.1 bt229.1 true) else (if (bt225.2 != t214) = true then (laws_FnDivisorsSum.j0 k l1 t212 t213 t214 t217 t221 bt225.1 bt229.1 true) else (laws_FnDivisorsSum.j0 k l1 t212 t213 t214 t217 t221 bt225.1 bt229.1 (bt229.2 != t214))))) else (laws_FnDivisorsSum.j0 k l1 t212 t213 t214 t217 t221 bt225.1 bt229.1 true)))) else (laws_FnDivisorsSum.j0 k l1 t212 t213 t214 t217 t221 bt225.1 bt229.1 true))) else (laws_FnDivisorsSum.j0 k l1 t212 t213 t214 t217 t221 bt225.1 bt229.1 true))) else (laws_FnDivisorsSum.j0 k l1 t212 t213 t214 t217 t221 bt225.1 bt229.1 true))) else (laws_FnDivisorsSum.j0 k l1 t212 t213 t214 t217 t221 bt225.1 bt229.1 true)))))))) = some r := H
    have A10 := Aside0.mk A100
    clear A100
    replace H := Option.bind_eq_some_iff.mp H
    obtain ⟨⟨t223, t224⟩, A110, H⟩ := H
    replace H : ((impl_KindOfNumber.f k t212).bind fun bt225 => ((spec_KindOfNumber.f k t212).bind fun bt227 => ((impl_PrimeFactors.f k t212).bind fun bt229 => ((spec_PrimeFactors.f k t212).bind fun bt233 => (if (t214 != t216) = true then (laws_FnDivisorsSum.j0 k l1 t212 t213 t214 t217 t221 bt225.1 bt229.1 true) else (if t213 = t215 then (if (t218 != t220) = true then (laws_FnDivisorsSum.j0 k l1 t212 t213 t214 t217 t221 bt225.1 bt229.1 true) else (if t217 = t219 then (if (t222 != t224) = true then (laws_FnDivisorsSum.j0 k l1 t212 t213 t214 t217 t221 bt225.1 bt229.1 true) else (if t221 = t223 then (if (bt225.2 != bt227.2) = true then (laws_FnDivisorsSum.j0 k l1 t212 t213 t214 t217 t221 bt225.1 bt229.1 true) else (if bt225.1 = bt227.1 then (if (bt229.2 != bt233.2) = true then (laws_FnDivisorsSum.j0 k l1 t212 t213 t214 t217 t221 bt225.1 bt229.1 true) else ((laws_qSame.f k bt229.1 bt233.1).bind fun t237 => (if t237 = true then (if (t218 != t214) = true then (laws_FnDivisorsSum.j0 k l1 t212 t213 t214 t217 t221 bt225.1 bt229.1 true) else (if (t222 != t214) = true then (laws_FnDivisorsSum.j0 k l1 t212 t213 t214 t217 t221 bt225.1 bt229.1 true) else (if (bt225.2 != t214) = true then (laws_FnDivisorsSum.j0 k l1 t212 t213 t214 t217 t221 bt225.1 bt229.1 true) else (laws_FnDivisorsSum.j0 k l1 t212 t213 t214 t217 t221 bt225.1 bt229.1 (bt229.2 != t214))))) else (laws_FnDivisorsSum.j0 k l1 t212 t213 t214 t217 t221 bt225.1 bt229.1 true)))) else (laws_FnDivisorsSum.j0 k l1 t212 t213 t214 t217 t221 bt225.1 bt229.1 true))) else (laws_FnDivisorsSum.j0 k l1 t212 t213 t214 t217 t221 bt225.1 bt229.1 true))) else (laws_FnDivisorsSum.j0 k l1 t212 t213 t214 t217 t221 bt225.1 bt229.1 true))) else (laws_FnDivisorsSum.j0 k l1 t212 t213 t214 t217 t221 bt225.1 bt229.1 true))))))) = some r := H
    have A11 := Aside0.mk A110
    clear A110
    replace H := Option.bind_eq_some_iff.mp H
    obtain ⟨⟨t225, t226⟩, A120, H⟩ := H
    replace H : ((spec_KindOfNumber.f k t212).bind fun bt227 => ((impl_PrimeFactors.f k t212).bind fun bt229 => ((spec_PrimeFactors.f k t212).bind fun bt233 => (if (t214 != t216) = true then (laws_FnDivisorsSum.j0 k l1 t212 t213 t214 t217 t221 t225 bt229.1 true) else (if t213 = t215 then (if (t218 != t220) = true then (laws_FnDivisorsSum.j0 k l1 t212 t213 t214 t217 t221 t225 bt229.1 true) else (if t217 = t219 then (if (t222 != t224) = true then (laws_FnDivisorsSum.j0 k l1 t212 t213 t214 t217 t221 t225 bt229.1 true) else (if t221 = t223 then (if (t226 != bt227.2) = true then (laws_FnDivisorsSum.j0 k l1 t212 t213 t214 t217 t221 t225 bt229.1 true) else (if t225 = bt227.1 then (if (bt229.2 != bt233.2) = true then (laws_FnDivisorsSum.j0 k l1 t212 t213 t214 t217 t221 t225 bt229.1 true) else ((laws_qSame.f k bt229.1 bt233.1).bind fun t237 => (if t237 = true then (if (t218 != t214) = true then (laws_FnDivisorsSum.j0 k l1 t212 t213 t214 t217 t221 t225 bt229.1 true) else (if (t222 != t214) = true then (laws_FnDivisorsSum.j0 k l1 t212 t213 t214 t217 t221 t225 bt229.1 true) else (if (t226 != t214) = true then (laws_FnDivisorsSum.j0 k l1 t212 t213 t214 t217 t221 t225 bt229.1 true) else (laws_FnDivisorsSum.j0 k l1 t212 t213 t214 t217 t221 t225 bt229.1 (bt229.2 != t214))))) else (laws_FnDivisorsSum.j0 k l1 t212 t213 t214 t217 t221 t225 bt229.1 true)))) else (laws_FnDivisorsSum.j0 k l1 t212 t213 t214 t217 t221 t225 bt229.1 true))) else (laws_FnDivisorsSum.j0 k l1 t212 t213 t214 t217 t221 t225 bt229.1 true))) else (laws_FnDivisorsSum.j0 k l1 t212 t213 t214 t217 t221 t225 bt229.1 true))) else (laws_FnDivisorsSum.j0 k l1 t212 t213 t214 t217 t221 t225 bt229.1 true)))))) = some r := H
    have A12 := Aside0.mk A120
    clear A120
    replace H := Option.bind_eq_some_iff.mp H
    obtain ⟨⟨t227, t228⟩, A130, H⟩ := H
    replace H : ((impl_PrimeFactors.f k t212).bind fun bt229 => ((spec_PrimeFactors.f k t212).bind fun bt233 => (if (t214 != t216) = true then (laws_FnDivisorsSum.j0 k l1 t212 t213 t214 t217 t221 t225 bt229.1 true) else (if t213 = t215 then (if (t218 != t220) = true then (laws_FnDivisorsSum.j0 k l1 t212 t213 t214 t217 t221 t225 bt229.1 true) else (if t217 = t219 then (if (t222 != t224) = true then (laws_FnDivisorsSum.j0 k l1 t212 t213 t214 t217 t221 t225 bt229.1 true) else (if t221 = t223 then (if (t226 != t228) = true then (laws_FnDivisorsSum.j0 k l1 t212 t213 t214 t217 t221 t225 bt229.1 true) else (if t225 = t227 then (if (bt229.2 != bt233.2) = true then (laws_FnDivisorsSum.j0 k l1 t212 t213 t214 t217 t221 t225 bt229.1 true) else ((laws_qSame.f k bt229.1 bt233.1).bind fun t237 => (if t237 = true then (if (t218 != t214) = true then (laws_FnDivisorsSum.j0 k l1 t212 t213 t214 t217 t221 t225 bt229.1 true) else (if (t222 != t214) = true then (laws_FnDivisorsSum.j0 k l1 t212 t213 t214 t217 t221 t225 bt229.1 true) else (if (t226 != t214) = true then (laws_FnDivisorsSum.j0 k l1 t212 t213 t214 t217 t221 t225 bt229.1 true) else (laws_FnDivisorsSum.j0 k l1 t212 t213 t214 t217 t221 t225 bt229.1 (bt229.2 != t214))))) else (laws_FnDivisorsSum.j0 k l1 t212 t213 t214 t217 t221 t225 bt229.1 true)))) else (laws_FnDivisorsSum.j0 k l1 t212 t213 t214 t217 t221 t225 bt229.1 true))) else (laws_FnDivisorsSum.j0 k l1 t212 t213 t214 t217 t221 t225 bt229.1 true))) else (laws_FnDivisorsSum.j0 k l1 t212 t213 t214 t217 t221 t225 bt229.1 true))) else (laws_FnDivisorsSum.j0 k l1 t212 t213 t214 t217 t221 t225 bt229.1 true))))) = some r := H
    have A13 := Aside0.mk A130
    clear A130
    replace H := Option.bind_eq_some_iff.mp H
    obtain ⟨⟨t229, t230⟩, A140, H⟩ := H
    replace H : ((spec_PrimeFactors.f k t212).bind fun bt233 => (if (t214 != t216) = true then (laws_FnDivisorsSum.j0 k l1 t212 t213 t214 t217 t221 t225 t229 true) else (if t213 = t215 then (if (t218 != t220) = true then (laws_FnDivisorsSum.j0 k l1 t212 t213 t214 t217 t221 t225 t229 true) else (if t217 = t219 then (if (t222 != t224) = true then (laws_FnDivisorsSum.j0 k l1 t212 t213 t214 t217 t221 t225 t229 true) else (if t221 = t223 then (if (t226 != t228) = true then (laws_FnDivisorsSum.j0 k l1 t212 t213 t214 t217 t221 t225 t229 true) else (if t225 = t227 then (if (t230 != bt233.2) = true then (laws_FnDivisorsSum.j0 k l1 t212 t213 t214 t217 t221 t225 t229 true) else ((laws_qSame.f k t229 bt233.1).bind fun t237 => (if t237 = true then (if (t218 != t214) = true then (laws_FnDivisorsSum.j0 k l1 t212 t213 t214 t217 t221 t225 t229 true) else (if (t222 != t214) = true then (laws_FnDivisorsSum.j0 k l1 t212 t213 t214 t217 t221 t225 t229 true) else (if (t226 != t214) = true then (laws_FnDivisorsSum.j0 k l1 t212 t213 t214 t217 t221 t225 t229 true) else (laws_FnDivisorsSum.j0 k l1 t212 t213 t214 t217 t221 t225 t229 (t230 != t214))))) else (laws_FnDivisorsSum.j0 k l1 t212 t213 t214 t217 t221 t225 t229 true)))) else (laws_FnDivisorsSum.j0 k l1 t212 t213 t214 t217 t221 t225 t229 true))) else (laws_FnDivisorsSum.j0 k l1 t212 t213 t214 t217 t221 t225 t229 true))) else (laws_FnDivisorsSum.j0 k l1 t212 t213 t214 t217 t221 t225 t229 true))) else (laws_FnDivisorsSum.j0 k l1 t212 t213 t214 t217 t221 t225 t229 true)))) = some r := H
    have A14 := Aside0.mk A140
    clear A140
    replace H := Option.bind_eq_some_iff.mp H
    obtain ⟨⟨t233, t234⟩, A150, H⟩ := H
    replace H : (if (t214 != t216) = true then (laws_FnDivisorsSum.j0 k l1 t212 t213 t214 t217 t221 t225 t229 true) else (if t213 = t215 then (if (t218 != t220) = true then (laws_FnDivisorsSum.j0 k l1 t212 t213 t214 t217 t221 t225 t229 true) else (if t217 = t219 then (if (t222 != t224) = true then (laws_FnDivisorsSum.j0 k l1 t212 t213 t214 t217 t221 t225 t229 true) else (if t221 = t223 then (if (t226 != t228) = true then (laws_FnDivisorsSum.j0 k l1 t212 t213 t214 t217 t221 t225 t229 true) else (if t225 = t227 then (if (t230 != t234) = true then (laws_FnDivisorsSum.j0 k l1 t212 t213 t214 t217 t221 t225 t229 true) else ((laws_qSame.f k t229 t233).bind fun t237 => (if t237 = true then (if (t218 != t214) = true then (laws_FnDivisorsSum.j0 k l1 t212 t213 t214 t217 t221 t225 t229 true) else (if (t222 != t214) = true then (laws_FnDivisorsSum.j0 k l1 t212 t213 t214 t217 t221 t225 t229 true) else (if (t226 != t214) = true then (laws_FnDivisorsSum.j0 k l1 t212 t213 t214 t217 t221 t225 t229 true) else (laws_FnDivisorsSum.j0 k l1 t212 t213 t214 t217 t221 t225 t229 (t230 != t214))))) else (laws_FnDivisorsSum.j0 k l1 t212 t213 t214 t217 t221 t225 t229 true)))) else (laws_FnDivisorsSum.j0 k l1 t212 t213 t214 t217 t221 t225 t229 true))) else (laws_FnDivisorsSum.j0 k l1 t212 t213 t214 t217 t221 t225 t229 true))) else (laws_FnDivisorsSum.j0 k l1 t212 t213 t214 t217 t221 t225 t229 true))) else (laws_FnDivisorsSum.j0 k l1 t212 t213 t214 t217 t221 t225 t229 true))) = some r := H
    have A15 := Aside0.mk A150
    clear A150
    have HC16 := Aside0.mk H
    clear H
    go_enter Try.func6, Try.ntmps6
    go_upto_region 14 with (first | ((with_reducible refine gate_callee (f := 25) rfl ?_); refine goesL_ (some 45) rfl rfl Try.func25 (by kernel_rfl) rfl #[.slice A0 l0.length c0, .slice A1 l1.length c1] rfl (by (try simp only [List.map_toArray, List.map_cons, List.map_nil]); first | done | rfl | (simp only [List.length_drop, List.length_take]; rfl)) ?_; (with_reducible refine (laws_big.calls _ _ l0 _ _ l1 false _ ?side1 ?side2 ?side3 ?side4 A3.out).mono ?_); (case side1 => repeat (first | exact HR0.out | (with_reducible refine Kd.C_alloc ?_ _) | (with_reducible refine Kd.C_drewN ?_ _) | (with_reducible refine Kd.C_drew ?_))); (case side2 => exact HC0.out); (case side3 => repeat (first | exact HR1.out | (with_reducible refine Kd.C_alloc ?_ _) | (with_reducible refine Kd.C_drewN ?_ _) | (with_reducible refine Kd.C_drew ?_))); (case side4 => exact HC1.out); rintro e w' ⟨rfl, ⟨nd, rfl⟩⟩; refine ⟨_, rfl, ?_⟩) | ((with_reducible refine gate_callee (f := 38) rfl ?_); refine goesL_ (some 47) rfl rfl Try.func38 (by kernel_rfl) rfl #[.slice A0 l0.length c0] rfl (by (try simp only [List.map_toArray, List.map_cons, List.map_nil]); first | done | rfl | (simp only [List.length_drop, List.length_take]; rfl)) ?_; (with_reducible refine (spec_DrawSumOfDivisors.calls k _ _ l0 t212 _ ?side1 ?side2 A5.out).mono ?_); (case side1 => repeat (first | exact HR0.out | (with_reducible refine Kd.C_alloc ?_ _) | (with_reducible refine Kd.C_drewN ?_ _) | (with_reducible refine Kd.C_drew ?_))); (case side2 => exact HC0.out); rintro e w17 ⟨rfl, hb⟩; refine ⟨_, rfl, ?_⟩; have n0_ := Aside0.mk (below_step (by repeat (first | (with_reducible first | exact HB.out | apply below_alloc | apply pw_below_drewN | apply below_drew1) | exact HB.out)) hb); clear HB; have HB := n0_; clear n0_; (try clear hb); (try clear hb2); (try clear hk); (try clear hi)) | ((with_reducible refine gate_callee (f := 39) rfl ?_); refine goesL_ (some 50) rfl rfl Try.func39 (by kernel_rfl) rfl #[.int .i64 t212] rfl (by (try simp only [List.map_toArray, List.map_cons, List.map_nil]); first | done | rfl | (simp only [List.length_drop, List.length_take]; rfl)) ?_; (with_reducible refine (impl_SumOfDivisors.calls k t212 t213 t214 _ A6.out).mono ?_); rintro e w18 ⟨rfl, hb⟩; refine ⟨_, rfl, ?_⟩; have n0_ := Aside0.mk (below_step (by repeat (first | (with_reducible first | exact HB.out | apply below_alloc | apply pw_below_drewN | apply below_drew1) | exact HB.out)) hb); clear HB; have HB := n0_; clear n0_; (try clear hb); (try clear hb2); (try clear hk); (try clear hi)) | ((with_reducible refine gate_callee (f := 40) rfl ?_); refine goesL_ (some 55) rfl rfl Try.func40 (by kernel_rfl) rfl #[.int .i64 t212] rfl (by (try simp only [List.map_toArray, List.map_cons, List.map_nil]); first | done | rfl | (simp only [List.length_drop, List.length_take]; rfl)) ?_; (with_reducible refine (spec_SumOfDivisors.calls k t212 t215 t216 _ A7.out).mono ?_); rintro e w19 ⟨rfl, hb⟩; refine ⟨_, rfl, ?_⟩; have n0_ := Aside0.mk (below_step (by repeat (first | (with_reducible first | exact HB.out | apply below_alloc | apply pw_below_drewN | apply below_drew1) | exact HB.out)) hb); clear HB; have HB := n0_; clear n0_; (try clear hb); (try clear hb2); (try clear hk); (try clear hi)) | ((with_reducible refine gate_callee (f := 41) rfl ?_); refine goesL_ (some 60) rfl rfl Try.func41 (by kernel_rfl) rfl #[.int .i64 t212] rfl (by (try simp only [List.map_toArray, List.map_cons, List.map_nil]); first | done | rfl | (simp only [List.length_drop, List.length_take]; rfl)) ?_; (with_reducible refine (impl_CountDivisors.calls k t212 t217 t218 _ A8.out).mono ?_); rintro e w20 ⟨rfl, hb⟩; refine ⟨_, rfl, ?_⟩; have n0_ := Aside0.mk (below_step (by repeat (first | (with_reducible first | exact HB.out | apply below_alloc | apply pw_below_drewN | apply below_drew1) | exact HB.out)) hb); clear HB; have HB := n0_; clear n0_; (try clear hb); (try clear hb2); (try clear hk); (try clear hi)) | ((with_reducible refine gate_callee (f := 42) rfl ?_); refine goesL_ (some 65) rfl rfl Try.func42 (by kernel_rfl) rfl #[.int .i64 t212] rfl (by (try simp only [List.map_toArray, List.map_cons, List.map_nil]); first | done | rfl | (simp only [List.length_drop, List.length_take]; rfl)) ?_; (with_reducible refine (spec_CountDivisors.calls k t212 t219 t220 _ A9.out).mono ?_); rintro e w21 ⟨rfl, hb⟩; refine ⟨_, rfl, ?_⟩; have n0_ := Aside0.mk (below_step (by repeat (first | (with_reducible first | exact HB.out | apply below_alloc | apply pw_below_drewN | apply below_drew1) | exact HB.out)) hb); clear HB; have HB := n0_; clear n0_; (try clear hb); (try clear hb2); (try clear hk); (try clear hi)) | ((with_reducible refine gate_callee (f := 43) rfl ?_); refine goesL_ (some 70) rfl rfl Try.func43 (by kernel_rfl) rfl #[.int .i64 t212] rfl (by (try simp only [List.map_toArray, List.map_cons, List.map_nil]); first | done | rfl | (simp only [List.length_drop, List.length_take]; rfl)) ?_; (with_reducible refine (impl_ProperSum.calls k t212 t221 t222 _ A10.out).mono ?_); rintro e w22 ⟨rfl, hb⟩; refine ⟨_, rfl, ?_⟩; have n0_ := Aside0.mk (below_step (by repeat (first | (with_reducible first | exact HB.out | apply below_alloc | apply pw_below_drewN | apply below_drew1) | exact HB.out)) hb); clear HB; have HB := n0_; clear n0_; (try clear hb); (try clear hb2); (try clear hk); (try clear hi)) | ((with_reducible refine gate_callee (f := 44) rfl ?_); refine goesL_ (some 75) rfl rfl Try.func44 (by kernel_rfl) rfl #[.int .i64 t212] rfl (by (try simp only [List.map_toArray, List.map_cons, List.map_nil]); first | done | rfl | (simp only [List.length_drop, List.length_take]; rfl)) ?_; (with_reducible refine (spec_ProperSum.calls k t212 t223 t224 _ A11.out).mono ?_); rintro e w23 ⟨rfl, hb⟩; refine ⟨_, rfl, ?_⟩; have n0_ := Aside0.mk (below_step (by repeat (first | (with_reducible first | exact HB.out | apply below_alloc | apply pw_below_drewN | apply below_drew1) | exact HB.out)) hb); clear HB; have HB := n0_; clear n0_; (try clear hb); (try clear hb2); (try clear hk); (try clear hi)) | ((with_reducible refine gate_callee (f := 45) rfl ?_); refine goesL_ (some 80) rfl rfl Try.func45 (by kernel_rfl) rfl #[.int .i64 t212] rfl (by (try simp only [List.map_toArray, List.map_cons, List.map_nil]); first | done | rfl | (simp only [List.length_drop, List.length_take]; rfl)) ?_; (with_reducible refine (impl_KindOfNumber.calls k t212 t225 t226 _ A12.out).mono ?_); rintro e w24 ⟨rfl, hb⟩; refine ⟨_, rfl, ?_⟩; have n0_ := Aside0.mk (below_step (by repeat (first | (with_reducible first | exact HB.out | apply below_alloc | apply pw_below_drewN | apply below_drew1) | exact HB.out)) hb); clear HB; have HB := n0_; clear n0_; (try clear hb); (try clear hb2); (try clear hk); (try clear hi)) | ((with_reducible refine gate_callee (f := 46) rfl ?_); refine goesL_ (some 85) rfl rfl Try.func46 (by kernel_rfl) rfl #[.int .i64 t212] rfl (by (try simp only [List.map_toArray, List.map_cons, List.map_nil]); first | done | rfl | (simp only [List.length_drop, List.length_take]; rfl)) ?_; (with_reducible refine (spec_KindOfNumber.calls k t212 t227 t228 _ A13.out).mono ?_); rintro e w25 ⟨rfl, hb⟩; refine ⟨_, rfl, ?_⟩; have n0_ := Aside0.mk (below_step (by repeat (first | (with_reducible first | exact HB.out | apply below_alloc | apply pw_below_drewN | apply below_drew1) | exact HB.out)) hb); clear HB; have HB := n0_; clear n0_; (try clear hb); (try clear hb2); (try clear hk); (try clear hi)) | ((with_reducible refine gate_callee (f := 47) rfl ?_); refine goesL_ (some 90) rfl rfl Try.func47 (by kernel_rfl) rfl #[.int .i64 t212] rfl (by (try simp only [List.map_toArray, List.map_cons, List.map_nil]); first | done | rfl | (simp only [List.length_drop, List.length_take]; rfl)) ?_; (with_reducible refine (impl_PrimeFactors.calls k t212 t229 t230 _ A14.out).mono ?_); rintro e w26 ⟨v231, rfl, ho0, hb⟩; refine ⟨_, rfl, ?_⟩; have n0_ := Aside0.mk (Kd.R_lower ho0 (below_size (by repeat (first | (with_reducible first | exact HB.out | apply below_alloc | apply pw_below_drewN | apply below_drew1) | exact HB.out)))); have n1_ := Aside0.mk (below_step (by repeat (first | (with_reducible first | exact HB.out | apply below_alloc | apply pw_below_drewN | apply below_drew1) | exact HB.out)) hb); clear HB; have HO232 := n0_; have HB := n1_; clear n0_ n1_; (try clear hb); (try clear hb2); (try clear hk); (try clear hi); (try clear ho0)) | ((with_reducible refine gate_callee (f := 48) rfl ?_); refine goesL_ (some 95) rfl rfl Try.func48 (by kernel_rfl) rfl #[.int .i64 t212] rfl (by (try simp only [List.map_toArray, List.map_cons, List.map_nil]); first | done | rfl | (simp only [List.length_drop, List.length_take]; rfl)) ?_; (with_reducible refine (spec_PrimeFactors.calls k t212 t233 t234 _ A15.out).mono ?_); rintro e w27 ⟨v235, rfl, ho0, hb⟩; refine ⟨_, rfl, ?_⟩; have n0_ := Aside0.mk (Kd.R_elder' (by (with_reducible repeat (first | apply Kd.R_alloc | apply Kd.R_drewN | apply Kd.R_drew)); exact HO232.out) (Kd.R_base ho0) hb); have n1_ := Aside0.mk (Kd.R_lower (Kd.R_new' ho0 (Kd.R_lt (by (with_reducible repeat (first | apply Kd.R_alloc | apply Kd.R_drewN | apply Kd.R_drew)); exact HO232.out))) (below_size (by repeat (first | (with_reducible first | exact HB.out | apply below_alloc | apply pw_below_drewN | apply below_drew1) | exact HB.out)))); have n2_ := Aside0.mk (below_step (by repeat (first | (with_reducible first | exact HB.out | apply below_alloc | apply pw_below_drewN | apply below_drew1) | exact HB.out)) hb); clear HO232; clear HB; have HO232 := n0_; have HO236 := n1_; have HB := n2_; clear n0_ n1_ n2_; (try clear hb); (try clear hb2); (try clear hk); (try clear hi); (try clear ho0)))
    (try simp only [Act.put, List.setIfInBounds_toArray, List.set_cons_zero, List.set_cons_succ])
    go_cut [166] (fun v166 wc => ∃ (kq : Nat) (x166_15 : Bool), v166 = .bool x166_15 ∧ Aside0 (laws_FnDivisorsSum.j0 kq l1 t212 t213 t214 t217 t221 t225 t229 x166_15 = some r) ∧ Aside0 (kq ≤ k) ∧ Aside0 (Kd.R (Kd.int .i64) 3 wc w.heap.size (fun _ => True) v231 t229) ∧ Aside0 (Below w.heap.size w wc))
    case first =>
      have H := HC16.out
      clear HC16
      by_cases c28 : (t214 != t216) = true
      · rw [if_pos c28] at H
        have c28b0 : (t214 != t216) = true := c28
        (try (have c28b1 : decide (t214 = t216) = false := by simpa using c28))
        (try (have c28b2 : (t214 == t216) = false := by simpa using c28))
        (try (have c28b3 : ¬ (t214 = t216) := by simpa using c28))
        clear c28
        (first | rw [c28b0] | (simp only [i64_w, i32_w]; rw [c28b0]) | skip)
        exact (laws_FnDivisorsSum.j0_no HR_.out _ _ _ _ _ _ _ _ _ H).elim
      · rw [if_neg c28] at H
        have c28b0 : (t214 != t216) = false := by simpa using c28
        (try (have c28b1 : decide (t214 = t216) = true := by simpa using c28))
        (try (have c28b2 : (t214 == t216) = true := by simpa using c28))
        clear c28
        (first | rw [c28b0] | (simp only [i64_w, i32_w]; rw [c28b0]) | skip)
        by_cases c29 : t213 = t215
        · rw [if_pos c29] at H
          have c29b0 : (t213 == t215) = true := beq_iff_eq.mpr c29
          have c29b1 : (t213 != t215) = false := bne_eq_false_iff_eq.mpr c29
          clear c29
          by_cases c30 : (t218 != t220) = true
          · rw [if_pos c30] at H
            have c30b0 : (t218 != t220) = true := c30
            (try (have c30b1 : decide (t218 = t220) = false := by simpa using c30))
            (try (have c30b2 : (t218 == t220) = false := by simpa using c30))
            (try (have c30b3 : ¬ (t218 = t220) := by simpa using c30))
            clear c30
            exact (laws_FnDivisorsSum.j0_no HR_.out _ _ _ _ _ _ _ _ _ H).elim
          · rw [if_neg c30] at H
            have c30b0 : (t218 != t220) = false := by simpa using c30
            (try (have c30b1 : decide (t218 = t220) = true := by simpa using c30))
            (try (have c30b2 : (t218 == t220) = true := by simpa using c30))
            clear c30
            by_cases c31 : t217 = t219
            · rw [if_pos c31] at H
              have c31b0 : (t217 == t219) = true := beq_iff_eq.mpr c31
              have c31b1 : (t217 != t219) = false := bne_eq_false_iff_eq.mpr c31
              clear c31
              by_cases c32 : (t222 != t224) = true
              · rw [if_pos c32] at H
                have c32b0 : (t222 != t224) = true := c32
                (try (have c32b1 : decide (t222 = t224) = false := by simpa using c32))
                (try (have c32b2 : (t222 == t224) = false := by simpa using c32))
                (try (have c32b3 : ¬ (t222 = t224) := by simpa using c32))
                clear c32
                exact (laws_FnDivisorsSum.j0_no HR_.out _ _ _ _ _ _ _ _ _ H).elim
              · rw [if_neg c32] at H
                have c32b0 : (t222 != t224) = false := by simpa using c32
                (try (have c32b1 : decide (t222 = t224) = true := by simpa using c32))
                (try (have c32b2 : (t222 == t224) = true := by simpa using c32))
                clear c32
                by_cases c33 : t221 = t223
                · rw [if_pos c33] at H
                  have c33b0 : (t221 == t223) = true := beq_iff_eq.mpr c33
                  have c33b1 : (t221 != t223) = false := bne_eq_false_iff_eq.mpr c33
                  clear c33
                  by_cases c34 : (t226 != t228) = true
                  · rw [if_pos c34] at H
                    have c34b0 : (t226 != t228) = true := c34
                    (try (have c34b1 : decide (t226 = t228) = false := by simpa using c34))
                    (try (have c34b2 : (t226 == t228) = false := by simpa using c34))
                    (try (have c34b3 : ¬ (t226 = t228) := by simpa using c34))
                    clear c34
                    exact (laws_FnDivisorsSum.j0_no HR_.out _ _ _ _ _ _ _ _ _ H).elim
                  · rw [if_neg c34] at H
                    have c34b0 : (t226 != t228) = false := by simpa using c34
                    (try (have c34b1 : decide (t226 = t228) = true := by simpa using c34))
                    (try (have c34b2 : (t226 == t228) = true := by simpa using c34))
                    clear c34
                    by_cases c35 : t225 = t227
                    · rw [if_pos c35] at H
                      have c35b0 : (t225 == t227) = true := beq_iff_eq.mpr c35
                      have c35b1 : (t225 != t227) = false := bne_eq_false_iff_eq.mpr c35
                      clear c35
                      by_cases c36 : (t230 != t234) = true
                      · rw [if_pos c36] at H
                        have c36b0 : (t230 != t234) = true := c36
                        (try (have c36b1 : decide (t230 = t234) = false := by simpa using c36))
                        (try (have c36b2 : (t230 == t234) = false := by simpa using c36))
                        (try (have c36b3 : ¬ (t230 = t234) := by simpa using c36))
                        clear c36
                        exact (laws_FnDivisorsSum.j0_no HR_.out _ _ _ _ _ _ _ _ _ H).elim
                      · rw [if_neg c36] at H
                        have c36b0 : (t230 != t234) = false := by simpa using c36
                        (try (have c36b1 : decide (t230 = t234) = true := by simpa using c36))
                        (try (have c36b2 : (t230 == t234) = true := by simpa using c36))
                        clear c36
                        replace H := Option.bind_eq_some_iff.mp H
                        obtain ⟨t237, A370, H⟩ := H
                        replace H : (if t237 = true then (if (t218 != t214) = true then (laws_FnDivisorsSum.j0 k l1 t212 t213 t214 t217 t221 t225 t229 true) else (if (t222 != t214) = true then (laws_FnDivisorsSum.j0 k l1 t212 t213 t214 t217 t221 t225 t229 true) else (if (t226 != t214) = true then (laws_FnDivisorsSum.j0 k l1 t212 t213 t214 t217 t221 t225 t229 true) else (laws_FnDivisorsSum.j0 k l1 t212 t213 t214 t217 t221 t225 t229 (t230 != t214))))) else (laws_FnDivisorsSum.j0 k l1 t212 t213 t214 t217 t221 t225 t229 true)) = some r := H
                        have A37 := Aside0.mk A370
                        clear A370
                        by_cases c38 : t237 = true
                        · subst c38
                          have H1 : (if (t218 != t214) = true then (laws_FnDivisorsSum.j0 k l1 t212 t213 t214 t217 t221 t225 t229 true) else (if (t222 != t214) = true then (laws_FnDivisorsSum.j0 k l1 t212 t213 t214 t217 t221 t225 t229 true) else (if (t226 != t214) = true then (laws_FnDivisorsSum.j0 k l1 t212 t213 t214 t217 t221 t225 t229 true) else (laws_FnDivisorsSum.j0 k l1 t212 t213 t214 t217 t221 t225 t229 (t230 != t214))))) = some r := by rw [if_pos rfl] at H; exact H
                          clear H
                          have H := H1
                          clear H1
                          by_cases c39 : (t218 != t214) = true
                          · rw [if_pos c39] at H
                            have c39b0 : (t218 != t214) = true := c39
                            (try (have c39b1 : decide (t218 = t214) = false := by simpa using c39))
                            (try (have c39b2 : (t218 == t214) = false := by simpa using c39))
                            (try (have c39b3 : ¬ (t218 = t214) := by simpa using c39))
                            clear c39
                            exact (laws_FnDivisorsSum.j0_no HR_.out _ _ _ _ _ _ _ _ _ H).elim
                          · rw [if_neg c39] at H
                            have c39b0 : (t218 != t214) = false := by simpa using c39
                            (try (have c39b1 : decide (t218 = t214) = true := by simpa using c39))
                            (try (have c39b2 : (t218 == t214) = true := by simpa using c39))
                            clear c39
                            by_cases c40 : (t222 != t214) = true
                            · rw [if_pos c40] at H
                              have c40b0 : (t222 != t214) = true := c40
                              (try (have c40b1 : decide (t222 = t214) = false := by simpa using c40))
                              (try (have c40b2 : (t222 == t214) = false := by simpa using c40))
                              (try (have c40b3 : ¬ (t222 = t214) := by simpa using c40))
                              clear c40
                              exact (laws_FnDivisorsSum.j0_no HR_.out _ _ _ _ _ _ _ _ _ H).elim
                            · rw [if_neg c40] at H
                              have c40b0 : (t222 != t214) = false := by simpa using c40
                              (try (have c40b1 : decide (t222 = t214) = true := by simpa using c40))
                              (try (have c40b2 : (t222 == t214) = true := by simpa using c40))
                              clear c40
                              by_cases c41 : (t226 != t214) = true
                              · rw [if_pos c41] at H
                                have c41b0 : (t226 != t214) = true := c41
                                (try (have c41b1 : decide (t226 = t214) = false := by simpa using c41))
                                (try (have c41b2 : (t226 == t214) = false := by simpa using c41))
                                (try (have c41b3 : ¬ (t226 = t214) := by simpa using c41))
                                clear c41
                                exact (laws_FnDivisorsSum.j0_no HR_.out _ _ _ _ _ _ _ _ _ H).elim
                              · rw [if_neg c41] at H
                                have c41b0 : (t226 != t214) = false := by simpa using c41
                                (try (have c41b1 : decide (t226 = t214) = true := by simpa using c41))
                                (try (have c41b2 : (t226 == t214) = true := by simpa using c41))
                                clear c41
                                as_aux_lemma =>
                                  have H' := Aside0.mk H
                                  clear H
                                  obtain ⟨Ao42, co42, eo42⟩ := Kd.R_slice HO232.out
                                  subst eo42
                                  obtain ⟨Ao43, co43, eo43⟩ := Kd.R_slice HO236.out
                                  subst eo43
                                  go_wp2_with (first | (go_at_call 32; (with_reducible refine (laws_qSame.calls k _ _ t229 _ _ t233 true _ ?side1 ?side2 ?side3 ?side4 A37.out).mono ?_); (case side1 => repeat (first | exact (Kd.R_reads' HO232.out).2.2 | (with_reducible refine Kd.C_alloc ?_ _) | (with_reducible refine Kd.C_drewN ?_ _) | (with_reducible refine Kd.C_drew ?_))); (case side2 => exact (Kd.R_reads' HO232.out).2.1); (case side3 => repeat (first | exact (Kd.R_reads' HO236.out).2.2 | (with_reducible refine Kd.C_alloc ?_ _) | (with_reducible refine Kd.C_drewN ?_ _) | (with_reducible refine Kd.C_drew ?_))); (case side4 => exact (Kd.R_reads' HO236.out).2.1); rintro e w' ⟨rfl, ⟨nd, rfl⟩⟩))
                                  go_meet
                                  case rel => exact ⟨_, ((t230 != t214)), (by first | rfl | (simp; done) | (simp [*]; done)), H', ⟨by first | omega | exact Nat.le_refl _⟩, ⟨by (with_reducible repeat (first | apply Kd.R_alloc | apply Kd.R_drewN | apply Kd.R_drew)); exact Kd.R_mono HO232.out (fun _ hk => trivial)⟩, ⟨by repeat (first | (with_reducible first | exact HB.out | apply below_alloc | apply pw_below_drewN | apply below_drew1) | exact HB.out)⟩⟩
                        · replace c38 := Bool.eq_false_iff.mpr c38
                          subst c38
                          have H1 : (laws_FnDivisorsSum.j0 k l1 t212 t213 t214 t217 t221 t225 t229 true) = some r := by rw [if_neg (show ¬ (false = true) by decide)] at H; exact H
                          clear H
                          have H := H1
                          clear H1
                          exact (laws_FnDivisorsSum.j0_no HR_.out _ _ _ _ _ _ _ _ _ H).elim
                    · rw [if_neg c35] at H
                      have c35b0 : (t225 == t227) = false := beq_eq_false_iff_ne.mpr c35
                      have c35b1 : (t225 != t227) = true := bne_iff_ne.mpr c35
                      exact (laws_FnDivisorsSum.j0_no HR_.out _ _ _ _ _ _ _ _ _ H).elim
                · rw [if_neg c33] at H
                  have c33b0 : (t221 == t223) = false := beq_eq_false_iff_ne.mpr c33
                  have c33b1 : (t221 != t223) = true := bne_iff_ne.mpr c33
                  exact (laws_FnDivisorsSum.j0_no HR_.out _ _ _ _ _ _ _ _ _ H).elim
            · rw [if_neg c31] at H
              have c31b0 : (t217 == t219) = false := beq_eq_false_iff_ne.mpr c31
              have c31b1 : (t217 != t219) = true := bne_iff_ne.mpr c31
              exact (laws_FnDivisorsSum.j0_no HR_.out _ _ _ _ _ _ _ _ _ H).elim
        · rw [if_neg c29] at H
          have c29b0 : (t213 == t215) = false := beq_eq_false_iff_ne.mpr c29
          have c29b1 : (t213 != t215) = true := bne_iff_ne.mpr c29
          exact (laws_FnDivisorsSum.j0_no HR_.out _ _ _ _ _ _ _ _ _ H).elim
    case rest =>
      clear HC16
      try clear c1
      try clear c2
      try clear p2
      try clear c3
      try clear c4
      try clear c6
      try clear c25
      try clear c28
      try clear c28b0
      try clear c28b1
      try clear c28b2
      try clear c29
      try clear c29b0
      try clear c29b1
      try clear c30
      try clear c30b0
      try clear c30b1
      try clear c30b2
      try clear c31
      try clear c31b0
      try clear c31b1
      try clear c32
      try clear c32b0
      try clear c32b1
      try clear c32b2
      try clear c33
      try clear c33b0
      try clear c33b1
      try clear c34
      try clear c34b0
      try clear c34b1
      try clear c34b2
      try clear c35
      try clear c35b0
      try clear c35b1
      try clear c36
      try clear c36b0
      try clear c36b1
      try clear c36b2
      try clear c38
      try clear c39
      try clear c39b0
      try clear c39b1
      try clear c39b2
      try clear c40
      try clear c40b0
      try clear c40b1
      try clear c40b2
      try clear c41
      try clear c41b0
      try clear c41b1
      try clear c41b2
      try clear c42
      try clear c43
      obtain ⟨kq, x166_15, rfl, HA, HJ15, HO_22, HB⟩ := hcut
      cases kq with
      | zero => exact absurd HA.out (by simp [laws_FnDivisorsSum.j0])
      | succ kj15 =>
        have H := HA.out
        clear HA
        simp only [laws_FnDivisorsSum.j0] at H
        by_cases c44 : x166_15 = true
        · subst c44
          have H1 : (some false) = some r := by rw [if_pos rfl] at H; exact H
          clear H
          have H := H1
          clear H1
          exact absurd (Option.some.inj H) (by rw [HR_.out]; decide)
        · replace c44 := Bool.eq_false_iff.mpr c44
          subst c44
          have H1 : (if t214 = true then (laws_FnDivisorsSum.l0 kj15 l1 t212 t213 t214 t217 t221 t225 t229 1 t229 (t229.length : Int) 0) else (laws_FnDivisorsSum.j4 kj15 l1 t212 t213 t214 t217)) = some r := by rw [if_neg (show ¬ (false = true) by decide)] at H; exact H
          clear H
          have H := H1
          clear H1
          have HC45 := Aside0.mk H
          clear H
          go_upto_if 167 with (fail)
          go_cut [] (fun wc => ∃ (kq : Nat), Aside0 (laws_FnDivisorsSum.j4 kq l1 t212 t213 t214 t217 = some r) ∧ Aside0 (kq ≤ kj15) ∧ Aside0 (Below w.heap.size w wc))
          case first =>
            have H := HC45.out
            clear HC45
            by_cases c46 : t214 = true
            · subst c46
              have H1 : (laws_FnDivisorsSum.l0 kj15 l1 t212 t213 true t217 t221 t225 t229 1 t229 (t229.length : Int) 0) = some r := by rw [if_pos rfl] at H; exact H
              clear H
              have H := H1
              clear H1
              have H' := Aside0.mk H
              clear H
              obtain ⟨Ao47, co47, eo47⟩ := Kd.R_slice HO_22.out
              subst eo47
              go_wp2
              go_loopg [26, 170] kj15 (fun kq v26 v170 w' => ∃ (x26_2 : Int) (x170_2 : Int), v26 = .int .i64 x26_2 ∧ v170 = .int .i64 x170_2 ∧ Aside0 (laws_FnDivisorsSum.l0 kq l1 t212 t213 true t217 t221 t225 t229 x26_2 t229 (t229.length : Int) x170_2 = some r) ∧ Aside0 (kq ≤ kj15) ∧ Aside0 (Kd.R (Kd.int .i64) 3 w' w.heap.size (fun _ => True) (.slice Ao47 t229.length co47) t229) ∧ Aside0 (Kd.R (Kd.int .i64) 3 w' w.heap.size (fun _ => True) (.slice Ao47 t229.length co47) t229) ∧ Aside0 (Below w.heap.size w w'))
              case atStart => exact ⟨(1), (0), (by first | rfl | (simp; done) | (simp [*]; done)), (by first | rfl | (simp; done) | (simp [*]; done)), H', ⟨Nat.le_refl _⟩, ⟨by (with_reducible repeat (first | apply Kd.R_alloc | apply Kd.R_drewN | apply Kd.R_drew)); exact HO_22.out⟩, ⟨by (with_reducible repeat (first | apply Kd.R_alloc | apply Kd.R_drewN | apply Kd.R_drew)); exact HO_22.out⟩, ⟨by repeat (first | (with_reducible first | exact HB.out | apply below_alloc | apply pw_below_drewN | apply below_drew1) | exact HB.out)⟩⟩
              case round =>
                clear H'
                try clear c1
                try clear c2
                try clear p2
                try clear c3
                try clear c4
                try clear c6
                try clear c25
                try clear c28
                try clear c28b0
                try clear c28b1
                try clear c28b2
                try clear c29
                try clear c29b0
                try clear c29b1
                try clear c30
                try clear c30b0
                try clear c30b1
                try clear c30b2
                try clear c31
                try clear c31b0
                try clear c31b1
                try clear c32
                try clear c32b0
                try clear c32b1
                try clear c32b2
                try clear c33
                try clear c33b0
                try clear c33b1
                try clear c34
                try clear c34b0
                try clear c34b1
                try clear c34b2
                try clear c35
                try clear c35b0
                try clear c35b1
                try clear c36
                try clear c36b0
                try clear c36b1
                try clear c36b2
                try clear c38
                try clear c39
                try clear c39b0
                try clear c39b1
                try clear c39b2
                try clear c40
                try clear c40b0
                try clear c40b1
                try clear c40b2
                try clear c41
                try clear c41b0
                try clear c41b1
                try clear c41b2
                try clear c42
                try clear c43
                try clear c44
                try clear c45
                try clear c46
                try clear c47
                try clear p2
                obtain ⟨x26_2, x170_2, rfl, rfl, HA, HK2, HO_22, HO_168, HB⟩ := hrel
                cases gk with
                | zero => exact absurd HA.out (by simp [laws_FnDivisorsSum.l0])
                | succ k2 =>
                  have H := HA.out
                  clear HA
                  simp only [laws_FnDivisorsSum.l0] at H
                  by_cases c48 : x170_2 < (t229.length : Int)
                  · rw [if_pos c48] at H
                    have c48b0 : decide (x170_2 < (t229.length : Int)) = true := decide_eq_true c48
                    clear c48
                    (first | rw [c48b0] | (simp only [i64_w, i32_w]; rw [c48b0]) | skip)
                    by_cases c49 : 0 ≤ x170_2
                    · rw [if_pos c49] at H
                      have c49b0 : decide (0 ≤ x170_2) = true := decide_eq_true c49
                      clear c49
                      by_cases c50 : x170_2 < (t229.length : Int)
                      · rw [if_pos c50] at H
                        have c50b0 : decide (x170_2 < (t229.length : Int)) = true := decide_eq_true c50
                        clear c50
                        replace H := Option.bind_eq_some_iff.mp H
                        obtain ⟨⟨t239, t240⟩, A510, H⟩ := H
                        replace H : (if t240 = true then (if (t239.length : Int) = 1 then (if x170_2 > 0 then (if 0 ≤ (wrap64 (x170_2 - 1)) then (if (wrap64 (x170_2 - 1)) < (t229.length : Int) then (if (rd t229 (wrap64 (x170_2 - 1))) > (rd t229 x170_2) then (some false) else (laws_FnDivisorsSum.l0 k2 l1 t212 t213 true t217 t221 t225 t229 (wrap64 (x26_2 * (rd t229 x170_2))) t229 (t229.length : Int) (wrap64 (x170_2 + 1)))) else (none)) else (none)) else (laws_FnDivisorsSum.l0 k2 l1 t212 t213 true t217 t221 t225 t229 (wrap64 (x26_2 * (rd t229 x170_2))) t229 (t229.length : Int) (wrap64 (x170_2 + 1)))) else (some false)) else (some false)) = some r := H
                        have A51 := Aside0.mk A510
                        clear A510
                        by_cases c52 : t240 = true
                        · subst c52
                          have H1 : (if (t239.length : Int) = 1 then (if x170_2 > 0 then (if 0 ≤ (wrap64 (x170_2 - 1)) then (if (wrap64 (x170_2 - 1)) < (t229.length : Int) then (if (rd t229 (wrap64 (x170_2 - 1))) > (rd t229 x170_2) then (some false) else (laws_FnDivisorsSum.l0 k2 l1 t212 t213 true t217 t221 t225 t229 (wrap64 (x26_2 * (rd t229 x170_2))) t229 (t229.length : Int) (wrap64 (x170_2 + 1)))) else (none)) else (none)) else (laws_FnDivisorsSum.l0 k2 l1 t212 t213 true t217 t221 t225 t229 (wrap64 (x26_2 * (rd t229 x170_2))) t229 (t229.length : Int) (wrap64 (x170_2 + 1)))) else (some false)) = some r := by rw [if_pos rfl] at H; exact H
                          clear H
                          have H := H1
                          clear H1
                          by_cases c53 : (t239.length : Int) = 1
                          · rw [if_pos c53] at H
                            have c53b0 : ((t239.length : Int) == 1) = true := beq_iff_eq.mpr c53
                            have c53b1 : ((t239.length : Int) != 1) = false := bne_eq_false_iff_eq.mpr c53
                            clear c53
                            by_cases c54 : x170_2 > 0
                            · rw [if_pos c54] at H
                              have c54b0 : decide (0 < x170_2) = true := decide_eq_true c54
                              clear c54
                              obtain ⟨ji55, hji55⟩ : ∃ j_ : Int, (wrap64 (x170_2 - 1)) = j_ := ⟨_, rfl⟩
                              replace H : (if 0 ≤ (ji55) then (if (ji55) < (t229.length : Int) then (if (rd t229 (ji55)) > (rd t229 x170_2) then (some false) else (laws_FnDivisorsSum.l0 k2 l1 t212 t213 true t217 t221 t225 t229 (wrap64 (x26_2 * (rd t229 x170_2))) t229 (t229.length : Int) (wrap64 (x170_2 + 1)))) else (none)) else (none)) = some r := by first | (rw [hji55] at H; exact H) | (simp only [hji55] at H ⊢; exact H)
                              (try rw [hji55] at A51)
                              have hji55w : (IntKind.i64.wrap (x170_2 - 1)) = ji55 := (i64_w _).trans hji55
                              by_cases c56 : 0 ≤ (ji55)
                              · rw [if_pos c56] at H
                                have c56b0 : decide (0 ≤ (ji55)) = true := decide_eq_true c56
                                clear c56
                                by_cases c57 : (ji55) < (t229.length : Int)
                                · rw [if_pos c57] at H
                                  have c57b0 : decide ((ji55) < (t229.length : Int)) = true := decide_eq_true c57
                                  clear c57
                                  by_cases c58 : (rd t229 (ji55)) > (rd t229 x170_2)
                                  · rw [if_pos c58] at H
                                    have c58b0 : decide ((rd t229 x170_2) < (rd t229 (ji55))) = true := decide_eq_true c58
                                    clear c58
                                    exact absurd (Option.some.inj H) (by rw [HR_.out]; decide)
                                  · rw [if_neg c58] at H
                                    have c58b0 : decide ((rd t229 x170_2) < (rd t229 (ji55))) = false := decide_eq_false c58
                                    clear c58
                                    as_aux_lemma =>
                                      have H' := Aside0.mk H
                                      clear H
                                      have p238 : 0 ≤ (x170_2 : Int) := of_decide_eq_true (by first | (with_reducible assumption) | assumption)
                                      have q238 : x170_2 < (t229.length : Int) := of_decide_eq_true (by first | (with_reducible assumption) | assumption)
                                      obtain ⟨ad238, e238, hx238_0⟩ := Kd.at_int (Kd.R_reads' HO_168.out).2.2 x170_2 p238 q238
                                      cases e238
                                      replace p238 := eq_true p238
                                      replace q238 := eq_true q238
                                      go_wp2_with (first | ((with_reducible refine gate_callee (f := 47) rfl ?_); refine goesL_ (some 177) rfl rfl Try.func47 (by kernel_rfl) rfl #[.int .i64 (rd t229 x170_2)] rfl (by (try simp only [List.map_toArray, List.map_cons, List.map_nil]); first | done | rfl | (simp only [List.length_drop, List.length_take]; rfl)) ?_; (with_reducible refine (impl_PrimeFactors.calls k2 (rd t229 x170_2) t239 true _ A51.out).mono ?_); rintro e w59 ⟨v241, rfl, ho0, hb⟩; refine ⟨_, rfl, ?_⟩; have n0_ := Aside0.mk (Kd.R_elder' (by (with_reducible repeat (first | apply Kd.R_alloc | apply Kd.R_drewN | apply Kd.R_drew)); exact HO_22.out) (Kd.R_base ho0) hb); have n1_ := Aside0.mk (Kd.R_elder' (by (with_reducible repeat (first | apply Kd.R_alloc | apply Kd.R_drewN | apply Kd.R_drew)); exact HO_168.out) (Kd.R_base ho0) hb); have n2_ := Aside0.mk (Kd.R_lower (Kd.R_new' (Kd.R_new' ho0 (Kd.R_lt (by (with_reducible repeat (first | apply Kd.R_alloc | apply Kd.R_drewN | apply Kd.R_drew)); exact HO_22.out))) (Kd.R_lt (by (with_reducible repeat (first | apply Kd.R_alloc | apply Kd.R_drewN | apply Kd.R_drew)); exact HO_168.out))) (below_size (by repeat (first | (with_reducible first | exact HB.out | apply below_alloc | apply pw_below_drewN | apply below_drew1) | exact HB.out)))); have n3_ := Aside0.mk (below_step (by repeat (first | (with_reducible first | exact HB.out | apply below_alloc | apply pw_below_drewN | apply below_drew1) | exact HB.out)) hb); clear HO_22; clear HO_168; clear HB; have HO_22 := n0_; have HO_168 := n1_; have HO242 := n2_; have HB := n3_; clear n0_ n1_ n2_ n3_; (try clear hb); (try clear hb2); (try clear hk); (try clear hi); (try clear ho0); obtain ⟨Ao60, co60, eo60⟩ := Kd.R_slice HO242.out; subst eo60; have p243 : 0 ≤ ((ji55) : Int) := of_decide_eq_true (by first | (with_reducible assumption) | assumption); have q243 : (ji55) < (t229.length : Int) := of_decide_eq_true (by first | (with_reducible assumption) | assumption); obtain ⟨ad243, e243, hx243_0⟩ := Kd.at_int (Kd.R_reads' HO_22.out).2.2 (ji55) p243 q243; obtain rfl : ad238 = ad243 := (by injection e243); replace p243 := eq_true p243; replace q243 := eq_true q243))
                                      go_roundg k2
                                      case measure => have := HJ15.out; have := HK2.out; omega
                                      case rel => exact ⟨(wrap64 (x26_2 * (rd t229 x170_2))), (wrap64 (x170_2 + 1)), (by first | rfl | (simp; done) | (simp [*]; done)), (by first | rfl | (simp; done) | (simp [*]; done)), H', ⟨by have := HJ15.out; have := HK2.out; omega⟩, ⟨by (with_reducible repeat (first | apply Kd.R_alloc | apply Kd.R_drewN | apply Kd.R_drew)); exact Kd.R_mono HO_22.out (fun _ hk => trivial)⟩, ⟨by (with_reducible repeat (first | apply Kd.R_alloc | apply Kd.R_drewN | apply Kd.R_drew)); exact Kd.R_mono HO_168.out (fun _ hk => trivial)⟩, ⟨by repeat (first | (with_reducible first | exact HB.out | apply below_alloc | apply pw_below_drewN | apply below_drew1) | exact HB.out)⟩⟩
                                · rw [if_neg c57] at H
                                  exact absurd H (by simp)
                              · rw [if_neg c56] at H
                                exact absurd H (by simp)
                            · rw [if_neg c54] at H
                              have c54b0 : decide (0 < x170_2) = false := decide_eq_false c54
                              clear c54
                              as_aux_lemma =>
                                have H' := Aside0.mk H
                                clear H
                                have p238 : 0 ≤ (x170_2 : Int) := of_decide_eq_true (by first | (with_reducible assumption) | assumption)
                                have q238 : x170_2 < (t229.length : Int) := of_decide_eq_true (by first | (with_reducible assumption) | assumption)
                                obtain ⟨ad238, e238, hx238_0⟩ := Kd.at_int (Kd.R_reads' HO_168.out).2.2 x170_2 p238 q238
                                cases e238
                                replace p238 := eq_true p238
                                replace q238 := eq_true q238
                                go_wp2_with (first | ((with_reducible refine gate_callee (f := 47) rfl ?_); refine goesL_ (some 177) rfl rfl Try.func47 (by kernel_rfl) rfl #[.int .i64 (rd t229 x170_2)] rfl (by (try simp only [List.map_toArray, List.map_cons, List.map_nil]); first | done | rfl | (simp only [List.length_drop, List.length_take]; rfl)) ?_; (with_reducible refine (impl_PrimeFactors.calls k2 (rd t229 x170_2) t239 true _ A51.out).mono ?_); rintro e w61 ⟨v241, rfl, ho0, hb⟩; refine ⟨_, rfl, ?_⟩; have n0_ := Aside0.mk (Kd.R_elder' (by (with_reducible repeat (first | apply Kd.R_alloc | apply Kd.R_drewN | apply Kd.R_drew)); exact HO_22.out) (Kd.R_base ho0) hb); have n1_ := Aside0.mk (Kd.R_elder' (by (with_reducible repeat (first | apply Kd.R_alloc | apply Kd.R_drewN | apply Kd.R_drew)); exact HO_168.out) (Kd.R_base ho0) hb); have n2_ := Aside0.mk (Kd.R_lower (Kd.R_new' (Kd.R_new' ho0 (Kd.R_lt (by (with_reducible repeat (first | apply Kd.R_alloc | apply Kd.R_drewN | apply Kd.R_drew)); exact HO_22.out))) (Kd.R_lt (by (with_reducible repeat (first | apply Kd.R_alloc | apply Kd.R_drewN | apply Kd.R_drew)); exact HO_168.out))) (below_size (by repeat (first | (with_reducible first | exact HB.out | apply below_alloc | apply pw_below_drewN | apply below_drew1) | exact HB.out)))); have n3_ := Aside0.mk (below_step (by repeat (first | (with_reducible first | exact HB.out | apply below_alloc | apply pw_below_drewN | apply below_drew1) | exact HB.out)) hb); clear HO_22; clear HO_168; clear HB; have HO_22 := n0_; have HO_168 := n1_; have HO242 := n2_; have HB := n3_; clear n0_ n1_ n2_ n3_; (try clear hb); (try clear hb2); (try clear hk); (try clear hi); (try clear ho0); obtain ⟨Ao62, co62, eo62⟩ := Kd.R_slice HO242.out; subst eo62))
                                go_roundg k2
                                case measure => have := HJ15.out; have := HK2.out; omega
                                case rel => exact ⟨(wrap64 (x26_2 * (rd t229 x170_2))), (wrap64 (x170_2 + 1)), (by first | rfl | (simp; done) | (simp [*]; done)), (by first | rfl | (simp; done) | (simp [*]; done)), H', ⟨by have := HJ15.out; have := HK2.out; omega⟩, ⟨by (with_reducible repeat (first | apply Kd.R_alloc | apply Kd.R_drewN | apply Kd.R_drew)); exact Kd.R_mono HO_22.out (fun _ hk => trivial)⟩, ⟨by (with_reducible repeat (first | apply Kd.R_alloc | apply Kd.R_drewN | apply Kd.R_drew)); exact Kd.R_mono HO_168.out (fun _ hk => trivial)⟩, ⟨by repeat (first | (with_reducible first | exact HB.out | apply below_alloc | apply pw_below_drewN | apply below_drew1) | exact HB.out)⟩⟩
                          · rw [if_neg c53] at H
                            have c53b0 : ((t239.length : Int) == 1) = false := beq_eq_false_iff_ne.mpr c53
                            have c53b1 : ((t239.length : Int) != 1) = true := bne_iff_ne.mpr c53
                            exact absurd (Option.some.inj H) (by rw [HR_.out]; decide)
                        · replace c52 := Bool.eq_false_iff.mpr c52
                          subst c52
                          have H1 : (some false) = some r := by rw [if_neg (show ¬ (false = true) by decide)] at H; exact H
                          clear H
                          have H := H1
                          clear H1
                          exact absurd (Option.some.inj H) (by rw [HR_.out]; decide)
                      · rw [if_neg c50] at H
                        exact absurd H (by simp)
                    · rw [if_neg c49] at H
                      exact absurd H (by simp)
                  · rw [if_neg c48] at H
                    have c48b0 : decide (x170_2 < (t229.length : Int)) = false := decide_eq_false c48
                    clear c48
                    (first | rw [c48b0] | (simp only [i64_w, i32_w]; rw [c48b0]) | skip)
                    have HC63 := Aside0.mk H
                    clear H
                    go_upto_region 26 with (fail)
                    go_cut [229] (fun v229 wc => ∃ (kq : Nat) (x229_62 : Bool), v229 = .bool x229_62 ∧ Aside0 (laws_FnDivisorsSum.j2 kq l1 t212 t213 true t217 x229_62 = some r) ∧ Aside0 (kq ≤ k2) ∧ Aside0 (Below w.heap.size w wc))
                    case first =>
                      have H := HC63.out
                      clear HC63
                      by_cases c64 : x26_2 = t212
                      · rw [if_pos c64] at H
                        have c64b0 : (x26_2 == t212) = true := beq_iff_eq.mpr c64
                        have c64b1 : (x26_2 != t212) = false := bne_eq_false_iff_eq.mpr c64
                        clear c64
                        (first | rw [c64b0] | (simp only [i64_w, i32_w]; rw [c64b0]) | skip)
                        by_cases c65 : t213 = (wrap64 (t221 + t212))
                        · rw [if_pos c65] at H
                          have c65b0 : (t213 == (wrap64 (t221 + t212))) = true := beq_iff_eq.mpr c65
                          have c65b1 : (t213 != (wrap64 (t221 + t212))) = false := bne_eq_false_iff_eq.mpr c65
                          clear c65
                          by_cases c66 : ((t225 == 0) != (t221 == t212)) = true
                          · rw [if_pos c66] at H
                            have c66b0 : ((t225 == 0) != (t221 == t212)) = true := c66
                            (try (have c66b1 : decide ((t225 == 0) = (t221 == t212)) = false := by simpa using c66))
                            (try (have c66b2 : ((t225 == 0) == (t221 == t212)) = false := by simpa using c66))
                            (try (have c66b3 : ¬ ((t225 == 0) = (t221 == t212)) := by simpa using c66))
                            clear c66
                            exact (laws_FnDivisorsSum.j2_no HR_.out _ _ _ _ _ _ H).elim
                          · rw [if_neg c66] at H
                            have c66b0 : ((t225 == 0) != (t221 == t212)) = false := by simpa using c66
                            (try (have c66b1 : decide ((t225 == 0) = (t221 == t212)) = true := by simpa using c66))
                            (try (have c66b2 : ((t225 == 0) == (t221 == t212)) = true := by simpa using c66))
                            clear c66
                            as_aux_lemma =>
                              have H' := Aside0.mk H
                              clear H
                              go_wp2
                              go_meet
                              case rel => exact ⟨_, (((decide (t225 < 0)) != (decide (t221 < t212)))), (by first | rfl | (simp; done) | (simp [*]; done)), H', ⟨by have := HJ15.out; have := HK2.out; first | omega | exact Nat.le_refl _⟩, ⟨by repeat (first | (with_reducible first | exact HB.out | apply below_alloc | apply pw_below_drewN | apply below_drew1) | exact HB.out)⟩⟩
                        · rw [if_neg c65] at H
                          have c65b0 : (t213 == (wrap64 (t221 + t212))) = false := beq_eq_false_iff_ne.mpr c65
                          have c65b1 : (t213 != (wrap64 (t221 + t212))) = true := bne_iff_ne.mpr c65
                          exact (laws_FnDivisorsSum.j2_no HR_.out _ _ _ _ _ _ H).elim
                      · rw [if_neg c64] at H
                        have c64b0 : (x26_2 == t212) = false := beq_eq_false_iff_ne.mpr c64
                        have c64b1 : (x26_2 != t212) = true := bne_iff_ne.mpr c64
                        (first | rw [c64b0] | (simp only [i64_w, i32_w]; rw [c64b0]) | skip)
                        exact (laws_FnDivisorsSum.j2_no HR_.out _ _ _ _ _ _ H).elim
                    case rest =>
                      clear HC63
                      try clear c1
                      try clear c2
                      try clear p2
                      try clear q2
                      try clear hx2
                      try clear c3
                      try clear c4
                      try clear c5
                      try clear c6
                      try clear p6
                      try clear p23
                      try clear q23
                      try clear hx23
                      try clear p24
                      try clear q24
                      try clear hx24
                      try clear c25
                      try clear c28
                      try clear c28b0
                      try clear c28b1
                      try clear c28b2
                      try clear c29
                      try clear c29b0
                      try clear c29b1
                      try clear c30
                      try clear c30b0
                      try clear c30b1
                      try clear c30b2
                      try clear c31
                      try clear c31b0
                      try clear c31b1
                      try clear c32
                      try clear c32b0
                      try clear c32b1
                      try clear c32b2
                      try clear c33
                      try clear c33b0
                      try clear c33b1
                      try clear c34
                      try clear c34b0
                      try clear c34b1
                      try clear c34b2
                      try clear c35
                      try clear c35b0
                      try clear c35b1
                      try clear c36
                      try clear c36b0
                      try clear c36b1
                      try clear c36b2
                      try clear c38
                      try clear c39
                      try clear c39b0
                      try clear c39b1
                      try clear c39b2
                      try clear c40
                      try clear c40b0
                      try clear c40b1
                      try clear c40b2
                      try clear c41
                      try clear c41b0
                      try clear c41b1
                      try clear c41b2
                      try clear c42
                      try clear c43
                      try clear c44
                      try clear c45
                      try clear c46
                      try clear c47
                      try clear c48
                      try clear c48b0
                      try clear c49
                      try clear c49b0
                      try clear c50
                      try clear c50b0
                      try clear c52
                      try clear c53
                      try clear c53b0
                      try clear c53b1
                      try clear c54
                      try clear c54b0
                      try clear c56
                      try clear c56b0
                      try clear c57
                      try clear c57b0
                      try clear c58
                      try clear c58b0
                      try clear c64
                      try clear c64b0
                      try clear c64b1
                      try clear p64
                      try clear c65
                      try clear c65b0
                      try clear c65b1
                      try clear c66
                      try clear c66b0
                      try clear c66b1
                      try clear c66b2
                      try clear hx238_0
                      try clear hx243_0
                      try clear p2
                      try clear p238
                      try clear p243
                      try clear q238
                      try clear q243
                      obtain ⟨kq, x229_62, rfl, HA, HJ62, HB⟩ := hcut
                      cases kq with
                      | zero => exact absurd HA.out (by simp [laws_FnDivisorsSum.j2])
                      | succ kj62 =>
                        have H := HA.out
                        clear HA
                        simp only [laws_FnDivisorsSum.j2] at H
                        by_cases c67 : x229_62 = true
                        · subst c67
                          have H1 : (some false) = some r := by rw [if_pos rfl] at H; exact H
                          clear H
                          have H := H1
                          clear H1
                          exact absurd (Option.some.inj H) (by rw [HR_.out]; decide)
                        · replace c67 := Bool.eq_false_iff.mpr c67
                          subst c67
                          have H1 : (if t212 ≤ 5000 then (laws_FnDivisorsSum.l1 kj62 l1 t212 t213 true t217 0 0 1) else (laws_FnDivisorsSum.j4 kj62 l1 t212 t213 true t217)) = some r := by rw [if_neg (show ¬ (false = true) by decide)] at H; exact H
                          clear H
                          have H := H1
                          clear H1
                          by_cases c68 : t212 ≤ 5000
                          · rw [if_pos c68] at H
                            have c68b0 : decide (t212 ≤ 5000) = true := decide_eq_true c68
                            clear c68
                            have H' := Aside0.mk H
                            clear H
                            go_wp2
                            go_loopg [31, 32, 33] kj62 (fun kq v31 v32 v33 w' => ∃ (x31_4 : Int) (x32_4 : Int) (x33_4 : Int), v31 = .int .i64 x31_4 ∧ v32 = .int .i64 x32_4 ∧ v33 = .int .i64 x33_4 ∧ Aside0 (laws_FnDivisorsSum.l1 kq l1 t212 t213 true t217 x31_4 x32_4 x33_4 = some r) ∧ Aside0 (kq ≤ kj62) ∧ Aside0 (Below w.heap.size w w'))
                            case atStart => exact ⟨(0), (0), (1), (by first | rfl | (simp; done) | (simp [*]; done)), (by first | rfl | (simp; done) | (simp [*]; done)), (by first | rfl | (simp; done) | (simp [*]; done)), H', ⟨Nat.le_refl _⟩, ⟨by repeat (first | (with_reducible first | exact HB.out | apply below_alloc | apply pw_below_drewN | apply below_drew1) | exact HB.out)⟩⟩
                            case round =>
                              clear H'
                              try clear c1
                              try clear c2
                              try clear p2
                              try clear q2
                              try clear hx2
                              try clear c3
                              try clear c4
                              try clear c5
                              try clear c6
                              try clear p6
                              try clear p23
                              try clear q23
                              try clear hx23
                              try clear p24
                              try clear q24
                              try clear hx24
                              try clear c25
                              try clear c28
                              try clear c28b0
                              try clear c28b1
                              try clear c28b2
                              try clear c29
                              try clear c29b0
                              try clear c29b1
                              try clear c30
                              try clear c30b0
                              try clear c30b1
                              try clear c30b2
                              try clear c31
                              try clear c31b0
                              try clear c31b1
                              try clear c32
                              try clear c32b0
                              try clear c32b1
                              try clear c32b2
                              try clear c33
                              try clear c33b0
                              try clear c33b1
                              try clear c34
                              try clear c34b0
                              try clear c34b1
                              try clear c34b2
                              try clear c35
                              try clear c35b0
                              try clear c35b1
                              try clear c36
                              try clear c36b0
                              try clear c36b1
                              try clear c36b2
                              try clear c38
                              try clear c39
                              try clear c39b0
                              try clear c39b1
                              try clear c39b2
                              try clear c40
                              try clear c40b0
                              try clear c40b1
                              try clear c40b2
                              try clear c41
                              try clear c41b0
                              try clear c41b1
                              try clear c41b2
                              try clear c42
                              try clear c43
                              try clear c44
                              try clear c45
                              try clear c46
                              try clear c47
                              try clear c48
                              try clear c48b0
                              try clear c49
                              try clear c49b0
                              try clear c50
                              try clear c50b0
                              try clear c52
                              try clear c53
                              try clear c53b0
                              try clear c53b1
                              try clear c54
                              try clear c54b0
                              try clear c56
                              try clear c56b0
                              try clear c57
                              try clear c57b0
                              try clear c58
                              try clear c58b0
                              try clear c64
                              try clear c64b0
                              try clear c64b1
                              try clear p64
                              try clear c65
                              try clear c65b0
                              try clear c65b1
                              try clear c66
                              try clear c66b0
                              try clear c66b1
                              try clear c66b2
                              try clear c67
                              try clear c68
                              try clear c68b0
                              try clear hx238_0
                              try clear hx243_0
                              try clear p2
                              try clear p23
                              try clear p238
                              try clear p24
                              try clear p243
                              try clear p6
                              try clear p64
                              try clear q2
                              try clear q23
                              try clear q238
                              try clear q24
                              try clear q243
                              obtain ⟨x31_4, x32_4, x33_4, rfl, rfl, rfl, HA, HK4, HB⟩ := hrel
                              cases gk with
                              | zero => exact absurd HA.out (by simp [laws_FnDivisorsSum.l1])
                              | succ k4 =>
                                have H := HA.out
                                clear HA
                                simp only [laws_FnDivisorsSum.l1] at H
                                by_cases c69 : x33_4 ≤ t212
                                · rw [if_pos c69] at H
                                  have c69b0 : decide (x33_4 ≤ t212) = true := decide_eq_true c69
                                  clear c69
                                  by_cases c70 : x33_4 = 0
                                  · rw [if_pos c70] at H
                                    exact absurd H (by simp)
                                  · rw [if_neg c70] at H
                                    have c70b0 : (x33_4 == 0) = false := beq_eq_false_iff_ne.mpr c70
                                    have c70b1 : (x33_4 != 0) = true := bne_iff_ne.mpr c70
                                    by_cases c71 : (Int.tmod t212 x33_4) = 0
                                    · rw [if_pos c71] at H
                                      have c71b0 : ((Int.tmod t212 x33_4) == 0) = true := beq_iff_eq.mpr c71
                                      have c71b1 : ((Int.tmod t212 x33_4) != 0) = false := bne_eq_false_iff_eq.mpr c71
                                      clear c71
                                      as_aux_lemma =>
                                        have H' := Aside0.mk H
                                        clear H
                                        go_wp2
                                        go_roundg k4
                                        case measure => have := HJ15.out; have := HK2.out; have := HJ62.out; have := HK4.out; omega
                                        case rel => exact ⟨(wrap64 (x31_4 + x33_4)), (wrap64 (x32_4 + 1)), (wrap64 (x33_4 + 1)), (by first | rfl | (simp; done) | (simp [*]; done)), (by first | rfl | (simp; done) | (simp [*]; done)), (by first | rfl | (simp; done) | (simp [*]; done)), H', ⟨by have := HJ15.out; have := HK2.out; have := HJ62.out; have := HK4.out; omega⟩, ⟨by repeat (first | (with_reducible first | exact HB.out | apply below_alloc | apply pw_below_drewN | apply below_drew1) | exact HB.out)⟩⟩
                                    · rw [if_neg c71] at H
                                      have c71b0 : ((Int.tmod t212 x33_4) == 0) = false := beq_eq_false_iff_ne.mpr c71
                                      have c71b1 : ((Int.tmod t212 x33_4) != 0) = true := bne_iff_ne.mpr c71
                                      as_aux_lemma =>
                                        have H' := Aside0.mk H
                                        clear H
                                        go_wp2
                                        go_roundg k4
                                        case measure => have := HJ15.out; have := HK2.out; have := HJ62.out; have := HK4.out; omega
                                        case rel => exact ⟨(x31_4), (x32_4), (wrap64 (x33_4 + 1)), (by first | rfl | (simp; done) | (simp [*]; done)), (by first | rfl | (simp; done) | (simp [*]; done)), (by first | rfl | (simp; done) | (simp [*]; done)), H', ⟨by have := HJ15.out; have := HK2.out; have := HJ62.out; have := HK4.out; omega⟩, ⟨by repeat (first | (with_reducible first | exact HB.out | apply below_alloc | apply pw_below_drewN | apply below_drew1) | exact HB.out)⟩⟩
                                · rw [if_neg c69] at H
                                  have c69b0 : decide (x33_4 ≤ t212) = false := decide_eq_false c69
                                  clear c69
                                  by_cases c72 : x31_4 = t213
                                  · rw [if_pos c72] at H
                                    have c72b0 : (x31_4 == t213) = true := beq_iff_eq.mpr c72
                                    have c72b1 : (x31_4 != t213) = false := bne_eq_false_iff_eq.mpr c72
                                    clear c72
                                    by_cases c73 : x32_4 = t217
                                    · rw [if_pos c73] at H
                                      have c73b0 : (x32_4 == t217) = true := beq_iff_eq.mpr c73
                                      have c73b1 : (x32_4 != t217) = false := bne_eq_false_iff_eq.mpr c73
                                      clear c73
                                      as_aux_lemma =>
                                        have H' := Aside0.mk H
                                        clear H
                                        go_wp2
                                        go_meet
                                        case rel => exact ⟨_, H', ⟨by have := HJ15.out; have := HK2.out; have := HJ62.out; have := HK4.out; first | omega | exact Nat.le_refl _⟩, ⟨by repeat (first | (with_reducible first | exact HB.out | apply below_alloc | apply pw_below_drewN | apply below_drew1) | exact HB.out)⟩⟩
                                    · rw [if_neg c73] at H
                                      have c73b0 : (x32_4 == t217) = false := beq_eq_false_iff_ne.mpr c73
                                      have c73b1 : (x32_4 != t217) = true := bne_iff_ne.mpr c73
                                      exact absurd (Option.some.inj H) (by rw [HR_.out]; decide)
                                  · rw [if_neg c72] at H
                                    have c72b0 : (x31_4 == t213) = false := beq_eq_false_iff_ne.mpr c72
                                    have c72b1 : (x31_4 != t213) = true := bne_iff_ne.mpr c72
                                    exact absurd (Option.some.inj H) (by rw [HR_.out]; decide)
                          · rw [if_neg c68] at H
                            have c68b0 : decide (t212 ≤ 5000) = false := decide_eq_false c68
                            clear c68
                            as_aux_lemma =>
                              have H' := Aside0.mk H
                              clear H
                              go_wp2
                              go_meet
                              case rel => exact ⟨_, H', ⟨by have := HJ15.out; have := HK2.out; have := HJ62.out; first | omega | exact Nat.le_refl _⟩, ⟨by repeat (first | (with_reducible first | exact HB.out | apply below_alloc | apply pw_below_drewN | apply below_drew1) | exact HB.out)⟩⟩
            · replace c46 := Bool.eq_false_iff.mpr c46
              subst c46
              have H1 : (laws_FnDivisorsSum.j4 kj15 l1 t212 t213 false t217) = some r := by rw [if_neg (show ¬ (false = true) by decide)] at H; exact H
              clear H
              have H := H1
              clear H1
              as_aux_lemma =>
                have H' := Aside0.mk H
                clear H
                go_wp2
                go_meet
                case rel => exact ⟨_, H', ⟨by have := HJ15.out; first | omega | exact Nat.le_refl _⟩, ⟨by repeat (first | (with_reducible first | exact HB.out | apply below_alloc | apply pw_below_drewN | apply below_drew1) | exact HB.out)⟩⟩
          case rest =>
            clear HC45
            try clear c1
            try clear c2
            try clear p2
            try clear q2
            try clear hx2
            try clear c3
            try clear c4
            try clear c5
            try clear c6
            try clear p6
            try clear c7
            try clear p23
            try clear q23
            try clear hx23
            try clear p24
            try clear q24
            try clear hx24
            try clear c25
            try clear c28
            try clear c28b0
            try clear c28b1
            try clear c28b2
            try clear c29
            try clear c29b0
            try clear c29b1
            try clear c30
            try clear c30b0
            try clear c30b1
            try clear c30b2
            try clear c31
            try clear c31b0
            try clear c31b1
            try clear c32
            try clear c32b0
            try clear c32b1
            try clear c32b2
            try clear c33
            try clear c33b0
            try clear c33b1
            try clear c34
            try clear c34b0
            try clear c34b1
            try clear c34b2
            try clear c35
            try clear c35b0
            try clear c35b1
            try clear c36
            try clear c36b0
            try clear c36b1
            try clear c36b2
            try clear c38
            try clear c39
            try clear c39b0
            try clear c39b1
            try clear c39b2
            try clear c40
            try clear c40b0
            try clear c40b1
            try clear c40b2
            try clear c41
            try clear c41b0
            try clear c41b1
            try clear c41b2
            try clear c42
            try clear c43
            try clear c44
            try clear c45
            try clear c46
            try clear c47
            try clear c48
            try clear c48b0
            try clear c49
            try clear c49b0
            try clear c50
            try clear c50b0
            try clear c52
            try clear c53
            try clear c53b0
            try clear c53b1
            try clear c54
            try clear c54b0
            try clear c56
            try clear c56b0
            try clear c57
            try clear c57b0
            try clear c58
            try clear c58b0
            try clear c64
            try clear c64b0
            try clear c64b1
            try clear p64
            try clear c65
            try clear c65b0
            try clear c65b1
            try clear c66
            try clear c66b0
            try clear c66b1
            try clear c66b2
            try clear c67
            try clear c68
            try clear c68b0
            try clear c69
            try clear c69b0
            try clear c70
            try clear c70b0
            try clear c70b1
            try clear c71
            try clear c71b0
            try clear c71b1
            try clear c72
            try clear c72b0
            try clear c72b1
            try clear c73
            try clear c73b0
            try clear c73b1
            try clear hx238_0
            try clear hx243_0
            try clear p2
            try clear p23
            try clear p238
            try clear p24
            try clear p243
            try clear p6
            try clear p64
            try clear q2
            try clear q23
            try clear q238
            try clear q24
            try clear q243
            obtain ⟨kq, HA, HJ44, HB⟩ := hcut
            cases kq with
            | zero => exact absurd HA.out (by simp [laws_FnDivisorsSum.j4])
            | succ kj44 =>
              have H := HA.out
              clear HA
              simp only [laws_FnDivisorsSum.j4] at H
              replace H := Option.bind_eq_some_iff.mp H
              obtain ⟨t244, A740, H⟩ := H
              replace H : (if t214 = true then (if t244 ≥ 1 then (if t244 ≤ 1000000000 then (if (wrap64 (t212 * t244)) ≤ 1000000000 then ((laws_qGcd.f kj44 t212 t244).bind fun t245 => (laws_FnDivisorsSum.j5 kj44 t212 t213 t217 t244 (t245 == 1))) else (laws_FnDivisorsSum.j5 kj44 t212 t213 t217 t244 false)) else (laws_FnDivisorsSum.j5 kj44 t212 t213 t217 t244 false)) else (laws_FnDivisorsSum.j5 kj44 t212 t213 t217 t244 false)) else (laws_FnDivisorsSum.j5 kj44 t212 t213 t217 t244 false)) = some r := H
              have A74 := Aside0.mk A740
              clear A740
              have HC75 := Aside0.mk H
              clear H
              go_upto_region 39 with (first | ((with_reducible refine gate_callee (f := 49) rfl ?_); refine goesL_ (some 255) rfl rfl Try.func49 (by kernel_rfl) rfl #[.slice A1 l1.length c1] rfl (by (try simp only [List.map_toArray, List.map_cons, List.map_nil]); first | done | rfl | (simp only [List.length_drop, List.length_take]; rfl)) ?_; (with_reducible refine (spec_DrawPrimeFactors.calls kj44 _ _ l1 t244 _ ?side1 ?side2 A74.out).mono ?_); (case side1 => repeat (first | exact (Kd.C_below HR1.out HB.out) | (with_reducible refine Kd.C_alloc ?_ _) | (with_reducible refine Kd.C_drewN ?_ _) | (with_reducible refine Kd.C_drew ?_))); (case side2 => exact HC1.out); rintro e w76 ⟨rfl, hb⟩; refine ⟨_, rfl, ?_⟩; have n0_ := Aside0.mk (below_step (by repeat (first | (with_reducible first | exact HB.out | apply below_alloc | apply pw_below_drewN | apply below_drew1) | exact HB.out)) hb); clear HB; have HB := n0_; clear n0_; (try clear hb); (try clear hb2); (try clear hk); (try clear hi)))
              (try simp only [Act.put, List.setIfInBounds_toArray, List.set_cons_zero, List.set_cons_succ])
              go_cut [276] (fun v276 wc => ∃ (kq : Nat) (x276_74 : Bool), v276 = .bool x276_74 ∧ Aside0 (laws_FnDivisorsSum.j5 kq t212 t213 t217 t244 x276_74 = some r) ∧ Aside0 (kq ≤ kj44) ∧ Aside0 (Below w.heap.size w wc))
              case first =>
                have H := HC75.out
                clear HC75
                by_cases c77 : t214 = true
                · subst c77
                  have H1 : (if t244 ≥ 1 then (if t244 ≤ 1000000000 then (if (wrap64 (t212 * t244)) ≤ 1000000000 then ((laws_qGcd.f kj44 t212 t244).bind fun t245 => (laws_FnDivisorsSum.j5 kj44 t212 t213 t217 t244 (t245 == 1))) else (laws_FnDivisorsSum.j5 kj44 t212 t213 t217 t244 false)) else (laws_FnDivisorsSum.j5 kj44 t212 t213 t217 t244 false)) else (laws_FnDivisorsSum.j5 kj44 t212 t213 t217 t244 false)) = some r := by rw [if_pos rfl] at H; exact H
                  clear H
                  have H := H1
                  clear H1
                  by_cases c78 : t244 ≥ 1
                  · rw [if_pos c78] at H
                    have c78b0 : decide (1 ≤ t244) = true := decide_eq_true c78
                    clear c78
                    (first | rw [c78b0] | (simp only [i64_w, i32_w]; rw [c78b0]) | skip)
                    by_cases c79 : t244 ≤ 1000000000
                    · rw [if_pos c79] at H
                      have c79b0 : decide (t244 ≤ 1000000000) = true := decide_eq_true c79
                      clear c79
                      by_cases c80 : (wrap64 (t212 * t244)) ≤ 1000000000
                      · rw [if_pos c80] at H
                        have c80b0 : decide ((wrap64 (t212 * t244)) ≤ 1000000000) = true := decide_eq_true c80
                        clear c80
                        replace H := Option.bind_eq_some_iff.mp H
                        obtain ⟨t245, A810, H⟩ := H
                        replace H : (laws_FnDivisorsSum.j5 kj44 t212 t213 t217 t244 (t245 == 1)) = some r := H
                        have A81 := Aside0.mk A810
                        clear A810
                        as_aux_lemma =>
                          have H' := Aside0.mk H
                          clear H
                          go_wp2_with (first | (go_at_call 50; (with_reducible refine (laws_qGcd.calls kj44 t212 t244 t245 _ A81.out).mono ?_); rintro e w' ⟨rfl, ⟨nd, rfl⟩⟩))
                          go_meet
                          case rel => exact ⟨_, ((t245 == 1)), (by first | rfl | (simp; done) | (simp [*]; done)), H', ⟨by have := HJ15.out; have := HJ44.out; first | omega | exact Nat.le_refl _⟩, ⟨by repeat (first | (with_reducible first | exact HB.out | apply below_alloc | apply pw_below_drewN | apply below_drew1) | exact HB.out)⟩⟩
                      · rw [if_neg c80] at H
                        have c80b0 : decide ((wrap64 (t212 * t244)) ≤ 1000000000) = false := decide_eq_false c80
                        clear c80
                        as_aux_lemma =>
                          have H' := Aside0.mk H
                          clear H
                          go_wp2
                          go_meet
                          case rel => exact ⟨_, (false), (by first | rfl | (simp; done) | (simp [*]; done)), H', ⟨by have := HJ15.out; have := HJ44.out; first | omega | exact Nat.le_refl _⟩, ⟨by repeat (first | (with_reducible first | exact HB.out | apply below_alloc | apply pw_below_drewN | apply below_drew1) | exact HB.out)⟩⟩
                    · rw [if_neg c79] at H
                      have c79b0 : decide (t244 ≤ 1000000000) = false := decide_eq_false c79
                      clear c79
                      as_aux_lemma =>
                        have H' := Aside0.mk H
                        clear H
                        go_wp2
                        go_meet
                        case rel => exact ⟨_, (false), (by first | rfl | (simp; done) | (simp [*]; done)), H', ⟨by have := HJ15.out; have := HJ44.out; first | omega | exact Nat.le_refl _⟩, ⟨by repeat (first | (with_reducible first | exact HB.out | apply below_alloc | apply pw_below_drewN | apply below_drew1) | exact HB.out)⟩⟩
                  · rw [if_neg c78] at H
                    have c78b0 : decide (1 ≤ t244) = false := decide_eq_false c78
                    clear c78
                    (first | rw [c78b0] | (simp only [i64_w, i32_w]; rw [c78b0]) | skip)
                    as_aux_lemma =>
                      have H' := Aside0.mk H
                      clear H
                      go_wp2
                      go_meet
                      case rel => exact ⟨_, (false), (by first | rfl | (simp; done) | (simp [*]; done)), H', ⟨by have := HJ15.out; have := HJ44.out; first | omega | exact Nat.le_refl _⟩, ⟨by repeat (first | (with_reducible first | exact HB.out | apply below_alloc | apply pw_below_drewN | apply below_drew1) | exact HB.out)⟩⟩
                · replace c77 := Bool.eq_false_iff.mpr c77
                  subst c77
                  have H1 : (laws_FnDivisorsSum.j5 kj44 t212 t213 t217 t244 false) = some r := by rw [if_neg (show ¬ (false = true) by decide)] at H; exact H
                  clear H
                  have H := H1
                  clear H1
                  as_aux_lemma =>
                    have H' := Aside0.mk H
                    clear H
                    go_wp2
                    go_meet
                    case rel => exact ⟨_, (false), (by first | rfl | (simp; done) | (simp [*]; done)), H', ⟨by have := HJ15.out; have := HJ44.out; first | omega | exact Nat.le_refl _⟩, ⟨by repeat (first | (with_reducible first | exact HB.out | apply below_alloc | apply pw_below_drewN | apply below_drew1) | exact HB.out)⟩⟩
              case rest =>
                clear HC75
                try clear c1
                try clear c2
                try clear p2
                try clear q2
                try clear hx2
                try clear c3
                try clear c4
                try clear c5
                try clear c6
                try clear p6
                try clear c7
                try clear c8
                try clear p23
                try clear q23
                try clear hx23
                try clear p24
                try clear q24
                try clear hx24
                try clear c25
                try clear c28
                try clear c28b0
                try clear c28b1
                try clear c28b2
                try clear c29
                try clear c29b0
                try clear c29b1
                try clear c30
                try clear c30b0
                try clear c30b1
                try clear c30b2
                try clear c31
                try clear c31b0
                try clear c31b1
                try clear c32
                try clear c32b0
                try clear c32b1
                try clear c32b2
                try clear c33
                try clear c33b0
                try clear c33b1
                try clear c34
                try clear c34b0
                try clear c34b1
                try clear c34b2
                try clear c35
                try clear c35b0
                try clear c35b1
                try clear c36
                try clear c36b0
                try clear c36b1
                try clear c36b2
                try clear c38
                try clear c39
                try clear c39b0
                try clear c39b1
                try clear c39b2
                try clear c40
                try clear c40b0
                try clear c40b1
                try clear c40b2
                try clear c41
                try clear c41b0
                try clear c41b1
                try clear c41b2
                try clear c42
                try clear c43
                try clear c44
                try clear c45
                try clear c46
                try clear c47
                try clear c48
                try clear c48b0
                try clear c49
                try clear c49b0
                try clear c50
                try clear c50b0
                try clear c52
                try clear c53
                try clear c53b0
                try clear c53b1
                try clear c54
                try clear c54b0
                try clear c56
                try clear c56b0
                try clear c57
                try clear c57b0
                try clear c58
                try clear c58b0
                try clear c64
                try clear c64b0
                try clear c64b1
                try clear p64
                try clear c65
                try clear c65b0
                try clear c65b1
                try clear c66
                try clear c66b0
                try clear c66b1
                try clear c66b2
                try clear c67
                try clear c68
                try clear c68b0
                try clear c69
                try clear c69b0
                try clear c70
                try clear c70b0
                try clear c70b1
                try clear c71
                try clear c71b0
                try clear c71b1
                try clear c72
                try clear c72b0
                try clear c72b1
                try clear c73
                try clear c73b0
                try clear c73b1
                try clear c77
                try clear c78
                try clear c78b0
                try clear c79
                try clear c79b0
                try clear c80
                try clear c80b0
                try clear hx238_0
                try clear hx243_0
                try clear p2
                try clear p23
                try clear p238
                try clear p24
                try clear p243
                try clear p6
                try clear p64
                try clear q2
                try clear q23
                try clear q238
                try clear q24
                try clear q243
                obtain ⟨kq, x276_74, rfl, HA, HJ74, HB⟩ := hcut
                cases kq with
                | zero => exact absurd HA.out (by simp [laws_FnDivisorsSum.j5])
                | succ kj74 =>
                  have H := HA.out
                  clear HA
                  simp only [laws_FnDivisorsSum.j5] at H
                  by_cases c82 : x276_74 = true
                  · subst c82
                    have H1 : ((impl_SumOfDivisors.f kj74 t244).bind fun bt246 => ((impl_SumOfDivisors.f kj74 (wrap64 (t212 * t244))).bind fun bt248 => ((impl_CountDivisors.f kj74 t244).bind fun bt250 => ((impl_CountDivisors.f kj74 (wrap64 (t212 * t244))).bind fun bt252 => (if bt246.2 = true then (if bt248.2 = true then (if bt250.2 = true then (if bt252.2 = true then (if (wrap64 (bt246.1 * t213)) = bt248.1 then (some ((wrap64 (bt250.1 * t217)) == bt252.1)) else (some false)) else (some false)) else (some false)) else (some false)) else (some false)))))) = some r := by rw [if_pos rfl] at H; exact H
                    clear H
                    have H := H1
                    clear H1
                    replace H := Option.bind_eq_some_iff.mp H
                    obtain ⟨⟨t246, t247⟩, A830, H⟩ := H
                    replace H : ((impl_SumOfDivisors.f kj74 (wrap64 (t212 * t244))).bind fun bt248 => ((impl_CountDivisors.f kj74 t244).bind fun bt250 => ((impl_CountDivisors.f kj74 (wrap64 (t212 * t244))).bind fun bt252 => (if t247 = true then (if bt248.2 = true then (if bt250.2 = true then (if bt252.2 = true then (if (wrap64 (t246 * t213)) = bt248.1 then (some ((wrap64 (bt250.1 * t217)) == bt252.1)) else (some false)) else (some false)) else (some false)) else (some false)) else (some false))))) = some r := H
                    have A83 := Aside0.mk A830
                    clear A830
                    replace H := Option.bind_eq_some_iff.mp H
                    obtain ⟨⟨t248, t249⟩, A840, H⟩ := H
                    replace H : ((impl_CountDivisors.f kj74 t244).bind fun bt250 => ((impl_CountDivisors.f kj74 (wrap64 (t212 * t244))).bind fun bt252 => (if t247 = true then (if t249 = true then (if bt250.2 = true then (if bt252.2 = true then (if (wrap64 (t246 * t213)) = t248 then (some ((wrap64 (bt250.1 * t217)) == bt252.1)) else (some false)) else (some false)) else (some false)) else (some false)) else (some false)))) = some r := H
                    have A84 := Aside0.mk A840
                    clear A840
                    replace H := Option.bind_eq_some_iff.mp H
                    obtain ⟨⟨t250, t251⟩, A850, H⟩ := H
                    replace H : ((impl_CountDivisors.f kj74 (wrap64 (t212 * t244))).bind fun bt252 => (if t247 = true then (if t249 = true then (if t251 = true then (if bt252.2 = true then (if (wrap64 (t246 * t213)) = t248 then (some ((wrap64 (t250 * t217)) == bt252.1)) else (some false)) else (some false)) else (some false)) else (some false)) else (some false))) = some r := H
                    have A85 := Aside0.mk A850
                    clear A850
                    replace H := Option.bind_eq_some_iff.mp H
                    obtain ⟨⟨t252, t253⟩, A860, H⟩ := H
                    replace H : (if t247 = true then (if t249 = true then (if t251 = true then (if t253 = true then (if (wrap64 (t246 * t213)) = t248 then (some ((wrap64 (t250 * t217)) == t252)) else (some false)) else (some false)) else (some false)) else (some false)) else (some false)) = some r := H
                    have A86 := Aside0.mk A860
                    clear A860
                    by_cases c87 : t247 = true
                    · subst c87
                      have H1 : (if t249 = true then (if t251 = true then (if t253 = true then (if (wrap64 (t246 * t213)) = t248 then (some ((wrap64 (t250 * t217)) == t252)) else (some false)) else (some false)) else (some false)) else (some false)) = some r := by rw [if_pos rfl] at H; exact H
                      clear H
                      have H := H1
                      clear H1
                      by_cases c88 : t249 = true
                      · subst c88
                        have H1 : (if t251 = true then (if t253 = true then (if (wrap64 (t246 * t213)) = t248 then (some ((wrap64 (t250 * t217)) == t252)) else (some false)) else (some false)) else (some false)) = some r := by rw [if_pos rfl] at H; exact H
                        clear H
                        have H := H1
                        clear H1
                        by_cases c89 : t251 = true
                        · subst c89
                          have H1 : (if t253 = true then (if (wrap64 (t246 * t213)) = t248 then (some ((wrap64 (t250 * t217)) == t252)) else (some false)) else (some false)) = some r := by rw [if_pos rfl] at H; exact H
                          clear H
                          have H := H1
                          clear H1
                          by_cases c90 : t253 = true
                          · subst c90
                            have H1 : (if (wrap64 (t246 * t213)) = t248 then (some ((wrap64 (t250 * t217)) == t252)) else (some false)) = some r := by rw [if_pos rfl] at H; exact H
                            clear H
                            have H := H1
                            clear H1
                            by_cases c91 : (wrap64 (t246 * t213)) = t248
                            · rw [if_pos c91] at H
                              have c91b0 : ((wrap64 (t246 * t213)) == t248) = true := beq_iff_eq.mpr c91
                              have c91b1 : ((wrap64 (t246 * t213)) != t248) = false := bne_eq_false_iff_eq.mpr c91
                              clear c91
                              as_aux_lemma =>
                                obtain rfl := Option.some.inj H
                                go_wp2_with (first | ((with_reducible refine gate_callee (f := 39) rfl ?_); refine goesL_ (some 279) rfl rfl Try.func39 (by kernel_rfl) rfl #[.int .i64 t244] rfl (by (try simp only [List.map_toArray, List.map_cons, List.map_nil]); first | done | rfl | (simp only [List.length_drop, List.length_take]; rfl)) ?_; (with_reducible refine (impl_SumOfDivisors.calls kj74 t244 t246 true _ A83.out).mono ?_); rintro e w92 ⟨rfl, hb⟩; refine ⟨_, rfl, ?_⟩; have n0_ := Aside0.mk (below_step (by repeat (first | (with_reducible first | exact HB.out | apply below_alloc | apply pw_below_drewN | apply below_drew1) | exact HB.out)) hb); clear HB; have HB := n0_; clear n0_; (try clear hb); (try clear hb2); (try clear hk); (try clear hi)) | ((with_reducible refine gate_callee (f := 39) rfl ?_); refine goesL_ (some 286) rfl rfl Try.func39 (by kernel_rfl) rfl #[.int .i64 (wrap64 (t212 * t244))] rfl (by (try simp only [List.map_toArray, List.map_cons, List.map_nil]); first | done | rfl | (simp only [List.length_drop, List.length_take]; rfl)) ?_; (with_reducible refine (impl_SumOfDivisors.calls kj74 (wrap64 (t212 * t244)) t248 true _ A84.out).mono ?_); rintro e w93 ⟨rfl, hb⟩; refine ⟨_, rfl, ?_⟩; have n0_ := Aside0.mk (below_step (by repeat (first | (with_reducible first | exact HB.out | apply below_alloc | apply pw_below_drewN | apply below_drew1) | exact HB.out)) hb); clear HB; have HB := n0_; clear n0_; (try clear hb); (try clear hb2); (try clear hk); (try clear hi)) | ((with_reducible refine gate_callee (f := 41) rfl ?_); refine goesL_ (some 291) rfl rfl Try.func41 (by kernel_rfl) rfl #[.int .i64 t244] rfl (by (try simp only [List.map_toArray, List.map_cons, List.map_nil]); first | done | rfl | (simp only [List.length_drop, List.length_take]; rfl)) ?_; (with_reducible refine (impl_CountDivisors.calls kj74 t244 t250 true _ A85.out).mono ?_); rintro e w94 ⟨rfl, hb⟩; refine ⟨_, rfl, ?_⟩; have n0_ := Aside0.mk (below_step (by repeat (first | (with_reducible first | exact HB.out | apply below_alloc | apply pw_below_drewN | apply below_drew1) | exact HB.out)) hb); clear HB; have HB := n0_; clear n0_; (try clear hb); (try clear hb2); (try clear hk); (try clear hi)) | ((with_reducible refine gate_callee (f := 41) rfl ?_); refine goesL_ (some 298) rfl rfl Try.func41 (by kernel_rfl) rfl #[.int .i64 (wrap64 (t212 * t244))] rfl (by (try simp only [List.map_toArray, List.map_cons, List.map_nil]); first | done | rfl | (simp only [List.length_drop, List.length_take]; rfl)) ?_; (with_reducible refine (impl_CountDivisors.calls kj74 (wrap64 (t212 * t244)) t252 true _ A86.out).mono ?_); rintro e w95 ⟨rfl, hb⟩; refine ⟨_, rfl, ?_⟩; have n0_ := Aside0.mk (below_step (by repeat (first | (with_reducible first | exact HB.out | apply below_alloc | apply pw_below_drewN | apply below_drew1) | exact HB.out)) hb); clear HB; have HB := n0_; clear n0_; (try clear hb); (try clear hb2); (try clear hk); (try clear hi)))
                                go_ret
                                exact ⟨by first | rfl | (simp [errW_none, errW_some] <;> rfl) | (simp [*, errW_none, errW_some] <;> rfl), by repeat (first | (with_reducible first | exact HB.out | apply below_alloc | apply pw_below_drewN | apply below_drew1) | exact HB.out)⟩
                            · rw [if_neg c91] at H
                              have c91b0 : ((wrap64 (t246 * t213)) == t248) = false := beq_eq_false_iff_ne.mpr c91
                              have c91b1 : ((wrap64 (t246 * t213)) != t248) = true := bne_iff_ne.mpr c91
                              exact absurd (Option.some.inj H) (by rw [HR_.out]; decide)
                          · replace c90 := Bool.eq_false_iff.mpr c90
                            subst c90
                            have H1 : (some false) = some r := by rw [if_neg (show ¬ (false = true) by decide)] at H; exact H
                            clear H
                            have H := H1
                            clear H1
                            exact absurd (Option.some.inj H) (by rw [HR_.out]; decide)
                        · replace c89 := Bool.eq_false_iff.mpr c89
                          subst c89
                          have H1 : (some false) = some r := by rw [if_neg (show ¬ (false = true) by decide)] at H; exact H
                          clear H
                          have H := H1
                          clear H1
                          exact absurd (Option.some.inj H) (by rw [HR_.out]; decide)
                      · replace c88 := Bool.eq_false_iff.mpr c88
                        subst c88
                        have H1 : (some false) = some r := by rw [if_neg (show ¬ (false = true) by decide)] at H; exact H
                        clear H
                        have H := H1
                        clear H1
                        exact absurd (Option.some.inj H) (by rw [HR_.out]; decide)
                    · replace c87 := Bool.eq_false_iff.mpr c87
                      subst c87
                      have H1 : (some false) = some r := by rw [if_neg (show ¬ (false = true) by decide)] at H; exact H
                      clear H
                      have H := H1
                      clear H1
                      exact absurd (Option.some.inj H) (by rw [HR_.out]; decide)
                  · replace c82 := Bool.eq_false_iff.mpr c82
                    subst c82
                    have H1 : (some true) = some r := by rw [if_neg (show ¬ (false = true) by decide)] at H; exact H
                    clear H
                    have H := H1
                    clear H1
                    as_aux_lemma =>
                      obtain rfl := Option.some.inj H
                      go_wp2
                      go_ret
                      exact ⟨by first | rfl | (simp [errW_none, errW_some] <;> rfl) | (simp [*, errW_none, errW_some] <;> rfl), by repeat (first | (with_reducible first | exact HB.out | apply below_alloc | apply pw_below_drewN | apply below_drew1) | exact HB.out)⟩

/-- THE ONE PURE STATEMENT of laws_FnDivisorsSum: yours. -/
def laws_FnDivisorsSum.Pure : Prop := ∀ (l0 : List Int) (l1 : List Int), l0.length ≤ maxLen → l0.length * 1 ≤ 140737488351232 → (∀ x ∈ l0, (Lit.int .u8 x).wf = true) → l1.length ≤ maxLen → l1.length * 1 ≤ 140737488351232 → (∀ x ∈ l1, (Lit.int .u8 x).wf = true) → ∃ k, laws_FnDivisorsSum.f k l0 l1 = some true
theorem laws_FnDivisorsSum.walk (P : laws_FnDivisorsSum.Pure) (a0 : Option Addr) (len0 cap0 : Nat) (z0 : List Int) (a1 : Option Addr) (len1 cap1 : Nat) (z1 : List Int) (w : World) (w0 : (a0 = none ∧ len0 = 0 ∧ cap0 = 0 ∧ z0 = []) ∨ ∃ x, a0 = some x ∧ len0 ≤ cap0 ∧ cap0 ≤ maxLen ∧ z0.length = cap0 ∧ (∀ i, i < z0.length → w.cell? (x.add i) = some (.int .u8 (z0.getD i 0))) ∧ ∀ n ∈ z0, (Lit.int .u8 n).wf = true) (y0 : len0 * 1 ≤ 140737488351232) (w1 : (a1 = none ∧ len1 = 0 ∧ cap1 = 0 ∧ z1 = []) ∨ ∃ x, a1 = some x ∧ len1 ≤ cap1 ∧ cap1 ≤ maxLen ∧ z1.length = cap1 ∧ (∀ i, i < z1.length → w.cell? (x.add i) = some (.int .u8 (z1.getD i 0))) ∧ ∀ n ∈ z1, (Lit.int .u8 n).wf = true) (y1 : len1 * 1 ≤ 140737488351232) :
    Calls Try.prog 6 #[.slice a0 len0 cap0, .slice a1 len1 cap1] w fun e w' => e = .returned (.bool true) ∧ Below w.heap.size w w' := by
  obtain ⟨l0, rfl, hr0, hm0, hw0, hc0⟩ := ReadsInt.ofRowC w0
  obtain ⟨l1, rfl, hr1, hm1, hw1, hc1⟩ := ReadsInt.ofRowC w1
  obtain ⟨k, h⟩ := P l0 l1 hm0 y0 hw0 hm1 y1 hw1
  refine (laws_FnDivisorsSum.calls k _ _ l0 _ _ l1 true w (Kd.C_of_reads (d := (0 : Int)) (h1 := fun _ => rfl) hr0) hc0 (Kd.C_of_reads (d := (0 : Int)) (h1 := fun _ => rfl) hr1) hc1 h rfl).mono ?_
  rintro e w' ⟨rfl, hd⟩
  exact ⟨rfl, hd⟩

end Go.Proofs.Ytikkpehjleoplaa.PFnDivisorsSum
