-- out of the kit's print, turned by wip/own_print.py
import Derived.Test.YtiheocddlopfcaaPFnDigitsTellNumbersx0
import Derived.Test.YtiheocddlopfcaaPFnDigitsTellNumbersx1
import Derived.Test.YtiheocddlopfcaaPFnDigitsTellNumbersx2
import Derived.Test.YtiheocddlopfcaaPFnDigitsTellNumbersx3
import Derived.Test.YtiheocddlopfcaaPFnDigitsTellNumbersx4
import Derived.Test.YtiheocddlopfcaaPFnDigitsTellNumbersx5
import Derived.Test.YtiheocddlopfcaaPFnDigitsTellNumbersx6
import Derived.Test.YtiheocddlopfcaaPFnDigitsTellNumbersx7
import Derived.Test.YtiheocddlopfcaaPFnDigitsTellNumbersx8
namespace Go.Proofs.Ytiheocddlopfcaa.PFnDigitsTellNumbers
open Go.RowKit Go.Proofs.YtiheocddlopfcaaW.PrintWords Go.Proofs.YtiheocddlopfcaaW.PrintLast Go.Proofs.YtiheocddlopfcaaW.PrintMore
attribute [local go_sem] max2_int min2_int max_two min_two max_three min_three max_four min_four   -- for this text's walks alone
set_option linter.unusedVariables false
set_option linter.unusedSimpArgs false

/-! ### laws_FnDigitsTellNumbers: function 7 -/
mutual
def laws_FnDigitsTellNumbers.j0 : Nat → List Int → Int → Int → List Int → Bool → Int → Int → List Int → Int → ByteArray → Bool → Option (Bool)
  | 0, _, _, _, _, _, _, _, _, _, _, _ => none
  | k + 1, x1, x5, x6, x7, x8, x11, x15, x19, x23, x27, x224 => if x224 = true then (some false) else (if x8 = true then ((impl_NumberOf.f k x7 x6).bind fun bt417 => ((impl_AreDigits.f x7 x6).bind fun bt419 => ((impl_CountDigits.f k x5 x6).bind fun bt421 => ((impl_ParseNumber.f k x27 x6).bind fun bt423 => (laws_FnDigitsTellNumbers.l0 k x1 x5 x6 x7 x11 x15 x19 x23 x27 bt417.1 bt417.2 bt419.1 bt419.2 bt421.1 bt421.2 bt423.1 bt423.2 1 x7 (x7.length : Int) 0))))) else (laws_FnDigitsTellNumbers.j2 k x1))
def laws_FnDigitsTellNumbers.j2 : Nat → List Int → Option (Bool)
  | 0, _ => none
  | k + 1, x1 => (spec_DrawNumberOf.f k x1).bind fun bt428 => ((impl_NumberOf.f k bt428.1 bt428.2).bind fun bt432 => ((spec_NumberOf.f k bt428.1 bt428.2).bind fun bt434 => ((impl_AreDigits.f bt428.1 bt428.2).bind fun bt436 => ((spec_AreDigits.f k bt428.1 bt428.2).bind fun bt438 => ((spec_DrawParseNumber.f k x1).bind fun bt440 => ((impl_ParseNumber.f k bt440.1 bt440.2).bind fun bt442 => ((spec_ParseNumber.f k bt440.1 bt440.2).bind fun bt444 => (if (bt432.2 != bt434.2) = true then (laws_FnDigitsTellNumbers.j3 k bt440.1 bt440.2 bt442.1 bt442.2 true) else (if bt432.1 = bt434.1 then (if (bt436.2 != bt438.2) = true then (laws_FnDigitsTellNumbers.j3 k bt440.1 bt440.2 bt442.1 bt442.2 true) else (if (bt436.1 != bt438.1) = true then (laws_FnDigitsTellNumbers.j3 k bt440.1 bt440.2 bt442.1 bt442.2 true) else (if (bt442.2 != bt444.2) = true then (laws_FnDigitsTellNumbers.j3 k bt440.1 bt440.2 bt442.1 bt442.2 true) else (if bt442.1 = bt444.1 then (if bt432.2 = true then (laws_FnDigitsTellNumbers.j3 k bt440.1 bt440.2 bt442.1 bt442.2 (!bt436.1)) else (laws_FnDigitsTellNumbers.j3 k bt440.1 bt440.2 bt442.1 bt442.2 false)) else (laws_FnDigitsTellNumbers.j3 k bt440.1 bt440.2 bt442.1 bt442.2 true))))) else (laws_FnDigitsTellNumbers.j3 k bt440.1 bt440.2 bt442.1 bt442.2 true))))))))))
def laws_FnDigitsTellNumbers.j3 : Nat → ByteArray → Int → Int → Bool → Bool → Option (Bool)
  | 0, _, _, _, _, _ => none
  | k + 1, x52, x53, x54, x55, x419 => if x419 = true then (some false) else (if x55 = true then ((impl_NumberText.f k x54 x53).bind fun bt446 => (if bt446.2 = true then (some (bt446.1.toList == x52.toList)) else (some false))) else (some true))
def laws_FnDigitsTellNumbers.l0 : Nat → List Int → Int → Int → List Int → Int → Int → List Int → Int → ByteArray → Int → Bool → Bool → Bool → Int → Bool → Int → Bool → Int → List Int → Int → Int → Option (Bool)
  | 0, _, _, _, _, _, _, _, _, _, _, _, _, _, _, _, _, _, _, _, _, _ => none
  | k + 1, x1, x5, x6, x7, x11, x15, x19, x23, x27, x31, x32, x33, x34, x35, x36, x37, x38, x39, x250, x251, x252 => if x252 < x251 then (if 0 ≤ x252 then (if x252 < (x250.length : Int) then (laws_FnDigitsTellNumbers.l0 k x1 x5 x6 x7 x11 x15 x19 x23 x27 x31 x32 x33 x34 x35 x36 x37 x38 (wrap64 (x39 * (rd x250 x252))) x250 x251 (wrap64 (x252 + 1))) else (none)) else (none)) else (if x32 = true then (if x31 = x5 then (if x34 = true then (if x33 = true then (if x36 = true then (if x35 = (x7.length : Int) then ((laws_rSum.f k x19).bind fun t426 => (if t426 = x35 then ((laws_rSum.f k x7).bind fun t427 => (if t427 = x11 then (if x39 = x15 then (if x38 = true then (if x37 = x5 then (if (x27.size : Int) = x35 then (if (wrap64 (x6 - 1)) = 0 then (none) else (if (Int.tmod (wrap64 (x5 - x23)) (wrap64 (x6 - 1))) = 0 then (if x23 ≥ x6 then (some false) else (if x5 > 0 then (if x23 = 0 then (some false) else (laws_FnDigitsTellNumbers.j2 k x1)) else (laws_FnDigitsTellNumbers.j2 k x1))) else (some false))) else (some false)) else (some false)) else (some false)) else (some false)) else (some false))) else (some false))) else (some false)) else (some false)) else (some false)) else (some false)) else (some false)) else (some false))
end
def laws_FnDigitsTellNumbers.f (k : Nat) (l0 : List Int) (l1 : List Int) : Option (Bool) := (laws_big.f l0 l1).bind fun t380 => (if t380 = true then (some true) else ((spec_DrawDigitsOf.f k l0).bind fun bt381 => ((impl_DigitsOf.f k bt381.1 bt381.2).bind fun bt383 => ((spec_DigitsOf.f k bt381.1 bt381.2).bind fun bt387 => ((impl_DigitSum.f k bt381.1 bt381.2).bind fun bt391 => ((spec_DigitSum.f k bt381.1 bt381.2).bind fun bt393 => ((impl_DigitProduct.f k bt381.1 bt381.2).bind fun bt395 => ((spec_DigitProduct.f k bt381.1 bt381.2).bind fun bt397 => ((impl_DigitCounts.f k bt381.1 bt381.2).bind fun bt399 => ((spec_DigitCounts.f k bt381.1 bt381.2).bind fun bt403 => ((impl_DigitalRoot.f k bt381.1 bt381.2).bind fun bt407 => ((spec_DigitalRoot.f k bt381.1 bt381.2).bind fun bt409 => ((impl_NumberText.f k bt381.1 bt381.2).bind fun bt411 => ((spec_NumberText.f k bt381.1 bt381.2).bind fun bt413 => (if (bt383.2 != bt387.2) = true then (laws_FnDigitsTellNumbers.j0 k l1 bt381.1 bt381.2 bt383.1 bt383.2 bt391.1 bt395.1 bt399.1 bt407.1 bt411.1 true) else ((laws_rSame.f k bt383.1 bt387.1).bind fun t415 => (if t415 = true then (if (bt391.2 != bt393.2) = true then (laws_FnDigitsTellNumbers.j0 k l1 bt381.1 bt381.2 bt383.1 bt383.2 bt391.1 bt395.1 bt399.1 bt407.1 bt411.1 true) else (if bt391.1 = bt393.1 then (if (bt395.2 != bt397.2) = true then (laws_FnDigitsTellNumbers.j0 k l1 bt381.1 bt381.2 bt383.1 bt383.2 bt391.1 bt395.1 bt399.1 bt407.1 bt411.1 true) else (if bt395.1 = bt397.1 then (if (bt399.2 != bt403.2) = true then (laws_FnDigitsTellNumbers.j0 k l1 bt381.1 bt381.2 bt383.1 bt383.2 bt391.1 bt395.1 bt399.1 bt407.1 bt411.1 true) else ((laws_rSame.f k bt399.1 bt403.1).bind fun t416 => (if t416 = true then (if (bt407.2 != bt409.2) = true then (laws_FnDigitsTellNumbers.j0 k l1 bt381.1 bt381.2 bt383.1 bt383.2 bt391.1 bt395.1 bt399.1 bt407.1 bt411.1 true) else (if bt407.1 = bt409.1 then (if (bt411.2 != bt413.2) = true then (laws_FnDigitsTellNumbers.j0 k l1 bt381.1 bt381.2 bt383.1 bt383.2 bt391.1 bt395.1 bt399.1 bt407.1 bt411.1 true) else (if bt411.1.toList = bt413.1.toList then (if (bt391.2 != bt383.2) = true then (laws_FnDigitsTellNumbers.j0 k l1 bt381.1 bt381.2 bt383.1 bt383.2 bt391.1 bt395.1 bt399.1 bt407.1 bt411.1 true) else (if (bt395.2 != bt383.2) = true then (laws_FnDigitsTellNumbers.j0 k l1 bt381.1 bt381.2 bt383.1 bt383.2 bt391.1 bt395.1 bt399.1 bt407.1 bt411.1 true) else (if (bt399.2 != bt383.2) = true then (laws_FnDigitsTellNumbers.j0 k l1 bt381.1 bt381.2 bt383.1 bt383.2 bt391.1 bt395.1 bt399.1 bt407.1 bt411.1 true) else (if (bt407.2 != bt383.2) = true then (laws_FnDigitsTellNumbers.j0 k l1 bt381.1 bt381.2 bt383.1 bt383.2 bt391.1 bt395.1 bt399.1 bt407.1 bt411.1 true) else (laws_FnDigitsTellNumbers.j0 k l1 bt381.1 bt381.2 bt383.1 bt383.2 bt391.1 bt395.1 bt399.1 bt407.1 bt411.1 (bt411.2 != bt383.2)))))) else (laws_FnDigitsTellNumbers.j0 k l1 bt381.1 bt381.2 bt383.1 bt383.2 bt391.1 bt395.1 bt399.1 bt407.1 bt411.1 true))) else (laws_FnDigitsTellNumbers.j0 k l1 bt381.1 bt381.2 bt383.1 bt383.2 bt391.1 bt395.1 bt399.1 bt407.1 bt411.1 true))) else (laws_FnDigitsTellNumbers.j0 k l1 bt381.1 bt381.2 bt383.1 bt383.2 bt391.1 bt395.1 bt399.1 bt407.1 bt411.1 true)))) else (laws_FnDigitsTellNumbers.j0 k l1 bt381.1 bt381.2 bt383.1 bt383.2 bt391.1 bt395.1 bt399.1 bt407.1 bt411.1 true))) else (laws_FnDigitsTellNumbers.j0 k l1 bt381.1 bt381.2 bt383.1 bt383.2 bt391.1 bt395.1 bt399.1 bt407.1 bt411.1 true))) else (laws_FnDigitsTellNumbers.j0 k l1 bt381.1 bt381.2 bt383.1 bt383.2 bt391.1 bt395.1 bt399.1 bt407.1 bt411.1 true))))))))))))))))))
theorem laws_FnDigitsTellNumbers.mono_l : ∀ k, (∀ y0 y1 y2 y3 y4 y5 y6 y7 y8 y9 y10, LeO (laws_FnDigitsTellNumbers.j0 k y0 y1 y2 y3 y4 y5 y6 y7 y8 y9 y10) (laws_FnDigitsTellNumbers.j0 (k + 1) y0 y1 y2 y3 y4 y5 y6 y7 y8 y9 y10)) ∧ (∀ y0, LeO (laws_FnDigitsTellNumbers.j2 k y0) (laws_FnDigitsTellNumbers.j2 (k + 1) y0)) ∧ (∀ y0 y1 y2 y3 y4, LeO (laws_FnDigitsTellNumbers.j3 k y0 y1 y2 y3 y4) (laws_FnDigitsTellNumbers.j3 (k + 1) y0 y1 y2 y3 y4)) ∧ (∀ y0 y1 y2 y3 y4 y5 y6 y7 y8 y9 y10 y11 y12 y13 y14 y15 y16 y17 y18 y19 y20, LeO (laws_FnDigitsTellNumbers.l0 k y0 y1 y2 y3 y4 y5 y6 y7 y8 y9 y10 y11 y12 y13 y14 y15 y16 y17 y18 y19 y20) (laws_FnDigitsTellNumbers.l0 (k + 1) y0 y1 y2 y3 y4 y5 y6 y7 y8 y9 y10 y11 y12 y13 y14 y15 y16 y17 y18 y19 y20))
  | 0 => ⟨fun _ _ _ _ _ _ _ _ _ _ _ r h => by simp [laws_FnDigitsTellNumbers.j0] at h, fun _ r h => by simp [laws_FnDigitsTellNumbers.j2] at h, fun _ _ _ _ _ r h => by simp [laws_FnDigitsTellNumbers.j3] at h, fun _ _ _ _ _ _ _ _ _ _ _ _ _ _ _ _ _ _ _ _ _ r h => by simp [laws_FnDigitsTellNumbers.l0] at h⟩
  | k + 1 => by
    obtain ⟨ih0, ih1, ih2, ih3⟩ := laws_FnDigitsTellNumbers.mono_l k
    refine ⟨?_, ?_, ?_, ?_⟩
    · intro y0 y1 y2 y3 y4 y5 y6 y7 y8 y9 y10
      unfold laws_FnDigitsTellNumbers.j0
      repeat' first
      | (with_reducible exact ih0 _ _ _ _ _ _ _ _ _ _ _)
      | (with_reducible exact ih1 _)
      | (with_reducible exact ih2 _ _ _ _ _)
      | (with_reducible exact ih3 _ _ _ _ _ _ _ _ _ _ _ _ _ _ _ _ _ _ _ _ _)
      | (with_reducible exact impl_CountDigits.mono _ _ _)
      | (with_reducible exact impl_DigitCounts.mono _ _ _)
      | (with_reducible exact impl_DigitProduct.mono _ _ _)
      | (with_reducible exact impl_DigitSum.mono _ _ _)
      | (with_reducible exact impl_DigitalRoot.mono _ _ _)
      | (with_reducible exact impl_DigitsOf.mono _ _ _)
      | (with_reducible exact impl_NumberOf.mono _ _ _)
      | (with_reducible exact impl_NumberText.mono _ _ _)
      | (with_reducible exact impl_ParseNumber.mono _ _ _)
      | (with_reducible exact laws_rSame.mono _ _ _)
      | (with_reducible exact laws_rSum.mono _ _)
      | (with_reducible exact spec_AreDigits.mono _ _ _)
      | (with_reducible exact spec_DigitCounts.mono _ _ _)
      | (with_reducible exact spec_DigitProduct.mono _ _ _)
      | (with_reducible exact spec_DigitSum.mono _ _ _)
      | (with_reducible exact spec_DigitalRoot.mono _ _ _)
      | (with_reducible exact spec_DigitsOf.mono _ _ _)
      | (with_reducible exact spec_DrawDigitsOf.mono _ _)
      | (with_reducible exact spec_DrawNumberOf.mono _ _)
      | (with_reducible exact spec_DrawParseNumber.mono _ _)
      | (with_reducible exact spec_NumberOf.mono _ _ _)
      | (with_reducible exact spec_NumberText.mono _ _ _)
      | (with_reducible exact spec_ParseNumber.mono _ _ _)
      | (with_reducible exact LeO.refl _)
      | (with_reducible exact LeO.none _)
      | (with_reducible refine LeO.ite ?_ ?_)
      | (with_reducible refine LeO.bind ?_ (fun _ => ?_))
      | exact ih0 _ _ _ _ _ _ _ _ _ _ _
      | exact ih1 _
      | exact ih2 _ _ _ _ _
      | exact ih3 _ _ _ _ _ _ _ _ _ _ _ _ _ _ _ _ _ _ _ _ _
      | exact impl_CountDigits.mono _ _ _
      | exact impl_DigitCounts.mono _ _ _
      | exact impl_DigitProduct.mono _ _ _
      | exact impl_DigitSum.mono _ _ _
      | exact impl_DigitalRoot.mono _ _ _
      | exact impl_DigitsOf.mono _ _ _
      | exact impl_NumberOf.mono _ _ _
      | exact impl_NumberText.mono _ _ _
      | exact impl_ParseNumber.mono _ _ _
      | exact laws_rSame.mono _ _ _
      | exact laws_rSum.mono _ _
      | exact spec_AreDigits.mono _ _ _
      | exact spec_DigitCounts.mono _ _ _
      | exact spec_DigitProduct.mono _ _ _
      | exact spec_DigitSum.mono _ _ _
      | exact spec_DigitalRoot.mono _ _ _
      | exact spec_DigitsOf.mono _ _ _
      | exact spec_DrawDigitsOf.mono _ _
      | exact spec_DrawNumberOf.mono _ _
      | exact spec_DrawParseNumber.mono _ _
      | exact spec_NumberOf.mono _ _ _
      | exact spec_NumberText.mono _ _ _
      | exact spec_ParseNumber.mono _ _ _
      | exact LeO.none _
      | refine LeO.ite ?_ ?_
      | refine LeO.bind ?_ (fun _ => ?_)
    · intro y0
      unfold laws_FnDigitsTellNumbers.j2
      repeat' first
      | (with_reducible exact ih0 _ _ _ _ _ _ _ _ _ _ _)
      | (with_reducible exact ih1 _)
      | (with_reducible exact ih2 _ _ _ _ _)
      | (with_reducible exact ih3 _ _ _ _ _ _ _ _ _ _ _ _ _ _ _ _ _ _ _ _ _)
      | (with_reducible exact impl_CountDigits.mono _ _ _)
      | (with_reducible exact impl_DigitCounts.mono _ _ _)
      | (with_reducible exact impl_DigitProduct.mono _ _ _)
      | (with_reducible exact impl_DigitSum.mono _ _ _)
      | (with_reducible exact impl_DigitalRoot.mono _ _ _)
      | (with_reducible exact impl_DigitsOf.mono _ _ _)
      | (with_reducible exact impl_NumberOf.mono _ _ _)
      | (with_reducible exact impl_NumberText.mono _ _ _)
      | (with_reducible exact impl_ParseNumber.mono _ _ _)
      | (with_reducible exact laws_rSame.mono _ _ _)
      | (with_reducible exact laws_rSum.mono _ _)
      | (with_reducible exact spec_AreDigits.mono _ _ _)
      | (with_reducible exact spec_DigitCounts.mono _ _ _)
      | (with_reducible exact spec_DigitProduct.mono _ _ _)
      | (with_reducible exact spec_DigitSum.mono _ _ _)
      | (with_reducible exact spec_DigitalRoot.mono _ _ _)
      | (with_reducible exact spec_DigitsOf.mono _ _ _)
      | (with_reducible exact spec_DrawDigitsOf.mono _ _)
      | (with_reducible exact spec_DrawNumberOf.mono _ _)
      | (with_reducible exact spec_DrawParseNumber.mono _ _)
      | (with_reducible exact spec_NumberOf.mono _ _ _)
      | (with_reducible exact spec_NumberText.mono _ _ _)
      | (with_reducible exact spec_ParseNumber.mono _ _ _)
      | (with_reducible exact LeO.refl _)
      | (with_reducible exact LeO.none _)
      | (with_reducible refine LeO.ite ?_ ?_)
      | (with_reducible refine LeO.bind ?_ (fun _ => ?_))
      | exact ih0 _ _ _ _ _ _ _ _ _ _ _
      | exact ih1 _
      | exact ih2 _ _ _ _ _
      | exact ih3 _ _ _ _ _ _ _ _ _ _ _ _ _ _ _ _ _ _ _ _ _
      | exact impl_CountDigits.mono _ _ _
      | exact impl_DigitCounts.mono _ _ _
      | exact impl_DigitProduct.mono _ _ _
      | exact impl_DigitSum.mono _ _ _
      | exact impl_DigitalRoot.mono _ _ _
      | exact impl_DigitsOf.mono _ _ _
      | exact impl_NumberOf.mono _ _ _
      | exact impl_NumberText.mono _ _ _
      | exact impl_ParseNumber.mono _ _ _
      | exact laws_rSame.mono _ _ _
      | exact laws_rSum.mono _ _
      | exact spec_AreDigits.mono _ _ _
      | exact spec_DigitCounts.mono _ _ _
      | exact spec_DigitProduct.mono _ _ _
      | exact spec_DigitSum.mono _ _ _
      | exact spec_DigitalRoot.mono _ _ _
      | exact spec_DigitsOf.mono _ _ _
      | exact spec_DrawDigitsOf.mono _ _
      | exact spec_DrawNumberOf.mono _ _
      | exact spec_DrawParseNumber.mono _ _
      | exact spec_NumberOf.mono _ _ _
      | exact spec_NumberText.mono _ _ _
      | exact spec_ParseNumber.mono _ _ _
      | exact LeO.none _
      | refine LeO.ite ?_ ?_
      | refine LeO.bind ?_ (fun _ => ?_)
    · intro y0 y1 y2 y3 y4
      unfold laws_FnDigitsTellNumbers.j3
      repeat' first
      | (with_reducible exact ih0 _ _ _ _ _ _ _ _ _ _ _)
      | (with_reducible exact ih1 _)
      | (with_reducible exact ih2 _ _ _ _ _)
      | (with_reducible exact ih3 _ _ _ _ _ _ _ _ _ _ _ _ _ _ _ _ _ _ _ _ _)
      | (with_reducible exact impl_CountDigits.mono _ _ _)
      | (with_reducible exact impl_DigitCounts.mono _ _ _)
      | (with_reducible exact impl_DigitProduct.mono _ _ _)
      | (with_reducible exact impl_DigitSum.mono _ _ _)
      | (with_reducible exact impl_DigitalRoot.mono _ _ _)
      | (with_reducible exact impl_DigitsOf.mono _ _ _)
      | (with_reducible exact impl_NumberOf.mono _ _ _)
      | (with_reducible exact impl_NumberText.mono _ _ _)
      | (with_reducible exact impl_ParseNumber.mono _ _ _)
      | (with_reducible exact laws_rSame.mono _ _ _)
      | (with_reducible exact laws_rSum.mono _ _)
      | (with_reducible exact spec_AreDigits.mono _ _ _)
      | (with_reducible exact spec_DigitCounts.mono _ _ _)
      | (with_reducible exact spec_DigitProduct.mono _ _ _)
      | (with_reducible exact spec_DigitSum.mono _ _ _)
      | (with_reducible exact spec_DigitalRoot.mono _ _ _)
      | (with_reducible exact spec_DigitsOf.mono _ _ _)
      | (with_reducible exact spec_DrawDigitsOf.mono _ _)
      | (with_reducible exact spec_DrawNumberOf.mono _ _)
      | (with_reducible exact spec_DrawParseNumber.mono _ _)
      | (with_reducible exact spec_NumberOf.mono _ _ _)
      | (with_reducible exact spec_NumberText.mono _ _ _)
      | (with_reducible exact spec_ParseNumber.mono _ _ _)
      | (with_reducible exact LeO.refl _)
      | (with_reducible exact LeO.none _)
      | (with_reducible refine LeO.ite ?_ ?_)
      | (with_reducible refine LeO.bind ?_ (fun _ => ?_))
      | exact ih0 _ _ _ _ _ _ _ _ _ _ _
      | exact ih1 _
      | exact ih2 _ _ _ _ _
      | exact ih3 _ _ _ _ _ _ _ _ _ _ _ _ _ _ _ _ _ _ _ _ _
      | exact impl_CountDigits.mono _ _ _
      | exact impl_DigitCounts.mono _ _ _
      | exact impl_DigitProduct.mono _ _ _
      | exact impl_DigitSum.mono _ _ _
      | exact impl_DigitalRoot.mono _ _ _
      | exact impl_DigitsOf.mono _ _ _
      | exact impl_NumberOf.mono _ _ _
      | exact impl_NumberText.mono _ _ _
      | exact impl_ParseNumber.mono _ _ _
      | exact laws_rSame.mono _ _ _
      | exact laws_rSum.mono _ _
      | exact spec_AreDigits.mono _ _ _
      | exact spec_DigitCounts.mono _ _ _
      | exact spec_DigitProduct.mono _ _ _
      | exact spec_DigitSum.mono _ _ _
      | exact spec_DigitalRoot.mono _ _ _
      | exact spec_DigitsOf.mono _ _ _
      | exact spec_DrawDigitsOf.mono _ _
      | exact spec_DrawNumberOf.mono _ _
      | exact spec_DrawParseNumber.mono _ _
      | exact spec_NumberOf.mono _ _ _
      | exact spec_NumberText.mono _ _ _
      | exact spec_ParseNumber.mono _ _ _
      | exact LeO.none _
      | refine LeO.ite ?_ ?_
      | refine LeO.bind ?_ (fun _ => ?_)
    · intro y0 y1 y2 y3 y4 y5 y6 y7 y8 y9 y10 y11 y12 y13 y14 y15 y16 y17 y18 y19 y20
      unfold laws_FnDigitsTellNumbers.l0
      repeat' first
      | (with_reducible exact ih0 _ _ _ _ _ _ _ _ _ _ _)
      | (with_reducible exact ih1 _)
      | (with_reducible exact ih2 _ _ _ _ _)
      | (with_reducible exact ih3 _ _ _ _ _ _ _ _ _ _ _ _ _ _ _ _ _ _ _ _ _)
      | (with_reducible exact impl_CountDigits.mono _ _ _)
      | (with_reducible exact impl_DigitCounts.mono _ _ _)
      | (with_reducible exact impl_DigitProduct.mono _ _ _)
      | (with_reducible exact impl_DigitSum.mono _ _ _)
      | (with_reducible exact impl_DigitalRoot.mono _ _ _)
      | (with_reducible exact impl_DigitsOf.mono _ _ _)
      | (with_reducible exact impl_NumberOf.mono _ _ _)
      | (with_reducible exact impl_NumberText.mono _ _ _)
      | (with_reducible exact impl_ParseNumber.mono _ _ _)
      | (with_reducible exact laws_rSame.mono _ _ _)
      | (with_reducible exact laws_rSum.mono _ _)
      | (with_reducible exact spec_AreDigits.mono _ _ _)
      | (with_reducible exact spec_DigitCounts.mono _ _ _)
      | (with_reducible exact spec_DigitProduct.mono _ _ _)
      | (with_reducible exact spec_DigitSum.mono _ _ _)
      | (with_reducible exact spec_DigitalRoot.mono _ _ _)
      | (with_reducible exact spec_DigitsOf.mono _ _ _)
      | (with_reducible exact spec_DrawDigitsOf.mono _ _)
      | (with_reducible exact spec_DrawNumberOf.mono _ _)
      | (with_reducible exact spec_DrawParseNumber.mono _ _)
      | (with_reducible exact spec_NumberOf.mono _ _ _)
      | (with_reducible exact spec_NumberText.mono _ _ _)
      | (with_reducible exact spec_ParseNumber.mono _ _ _)
      | (with_reducible exact LeO.refl _)
      | (with_reducible exact LeO.none _)
      | (with_reducible refine LeO.ite ?_ ?_)
      | (with_reducible refine LeO.bind ?_ (fun _ => ?_))
      | exact ih0 _ _ _ _ _ _ _ _ _ _ _
      | exact ih1 _
      | exact ih2 _ _ _ _ _
      | exact ih3 _ _ _ _ _ _ _ _ _ _ _ _ _ _ _ _ _ _ _ _ _
      | exact impl_CountDigits.mono _ _ _
      | exact impl_DigitCounts.mono _ _ _
      | exact impl_DigitProduct.mono _ _ _
      | exact impl_DigitSum.mono _ _ _
      | exact impl_DigitalRoot.mono _ _ _
      | exact impl_DigitsOf.mono _ _ _
      | exact impl_NumberOf.mono _ _ _
      | exact impl_NumberText.mono _ _ _
      | exact impl_ParseNumber.mono _ _ _
      | exact laws_rSame.mono _ _ _
      | exact laws_rSum.mono _ _
      | exact spec_AreDigits.mono _ _ _
      | exact spec_DigitCounts.mono _ _ _
      | exact spec_DigitProduct.mono _ _ _
      | exact spec_DigitSum.mono _ _ _
      | exact spec_DigitalRoot.mono _ _ _
      | exact spec_DigitsOf.mono _ _ _
      | exact spec_DrawDigitsOf.mono _ _
      | exact spec_DrawNumberOf.mono _ _
      | exact spec_DrawParseNumber.mono _ _
      | exact spec_NumberOf.mono _ _ _
      | exact spec_NumberText.mono _ _ _
      | exact spec_ParseNumber.mono _ _ _
      | exact LeO.none _
      | refine LeO.ite ?_ ?_
      | refine LeO.bind ?_ (fun _ => ?_)
theorem laws_FnDigitsTellNumbers.mono : ∀ a0 a1 k, LeO (laws_FnDigitsTellNumbers.f k a0 a1) (laws_FnDigitsTellNumbers.f (k + 1) a0 a1) := by
  intro a0 a1 k
  obtain ⟨ih0, ih1, ih2, ih3⟩ := laws_FnDigitsTellNumbers.mono_l k
  unfold laws_FnDigitsTellNumbers.f
  repeat' first
      | (with_reducible exact ih0 _ _ _ _ _ _ _ _ _ _ _)
      | (with_reducible exact ih1 _)
      | (with_reducible exact ih2 _ _ _ _ _)
      | (with_reducible exact ih3 _ _ _ _ _ _ _ _ _ _ _ _ _ _ _ _ _ _ _ _ _)
      | (with_reducible exact impl_CountDigits.mono _ _ _)
      | (with_reducible exact impl_DigitCounts.mono _ _ _)
      | (with_reducible exact impl_DigitProduct.mono _ _ _)
      | (with_reducible exact impl_DigitSum.mono _ _ _)
      | (with_reducible exact impl_DigitalRoot.mono _ _ _)
      | (with_reducible exact impl_DigitsOf.mono _ _ _)
      | (with_reducible exact impl_NumberOf.mono _ _ _)
      | (with_reducible exact impl_NumberText.mono _ _ _)
      | (with_reducible exact impl_ParseNumber.mono _ _ _)
      | (with_reducible exact laws_rSame.mono _ _ _)
      | (with_reducible exact laws_rSum.mono _ _)
      | (with_reducible exact spec_AreDigits.mono _ _ _)
      | (with_reducible exact spec_DigitCounts.mono _ _ _)
      | (with_reducible exact spec_DigitProduct.mono _ _ _)
      | (with_reducible exact spec_DigitSum.mono _ _ _)
      | (with_reducible exact spec_DigitalRoot.mono _ _ _)
      | (with_reducible exact spec_DigitsOf.mono _ _ _)
      | (with_reducible exact spec_DrawDigitsOf.mono _ _)
      | (with_reducible exact spec_DrawNumberOf.mono _ _)
      | (with_reducible exact spec_DrawParseNumber.mono _ _)
      | (with_reducible exact spec_NumberOf.mono _ _ _)
      | (with_reducible exact spec_NumberText.mono _ _ _)
      | (with_reducible exact spec_ParseNumber.mono _ _ _)
      | (with_reducible exact LeO.refl _)
      | (with_reducible exact LeO.none _)
      | (with_reducible refine LeO.ite ?_ ?_)
      | (with_reducible refine LeO.bind ?_ (fun _ => ?_))
      | exact ih0 _ _ _ _ _ _ _ _ _ _ _
      | exact ih1 _
      | exact ih2 _ _ _ _ _
      | exact ih3 _ _ _ _ _ _ _ _ _ _ _ _ _ _ _ _ _ _ _ _ _
      | exact impl_CountDigits.mono _ _ _
      | exact impl_DigitCounts.mono _ _ _
      | exact impl_DigitProduct.mono _ _ _
      | exact impl_DigitSum.mono _ _ _
      | exact impl_DigitalRoot.mono _ _ _
      | exact impl_DigitsOf.mono _ _ _
      | exact impl_NumberOf.mono _ _ _
      | exact impl_NumberText.mono _ _ _
      | exact impl_ParseNumber.mono _ _ _
      | exact laws_rSame.mono _ _ _
      | exact laws_rSum.mono _ _
      | exact spec_AreDigits.mono _ _ _
      | exact spec_DigitCounts.mono _ _ _
      | exact spec_DigitProduct.mono _ _ _
      | exact spec_DigitSum.mono _ _ _
      | exact spec_DigitalRoot.mono _ _ _
      | exact spec_DigitsOf.mono _ _ _
      | exact spec_DrawDigitsOf.mono _ _
      | exact spec_DrawNumberOf.mono _ _
      | exact spec_DrawParseNumber.mono _ _
      | exact spec_NumberOf.mono _ _ _
      | exact spec_NumberText.mono _ _ _
      | exact spec_ParseNumber.mono _ _ _
      | exact LeO.none _
      | refine LeO.ite ?_ ?_
      | refine LeO.bind ?_ (fun _ => ?_)
theorem laws_FnDigitsTellNumbers.j0_no {r : Bool} (hr : r = true) (k : Nat) (x1 : List Int) (x5 : Int) (x6 : Int) (x7 : List Int) (x8 : Bool) (x11 : Int) (x15 : Int) (x19 : List Int) (x23 : Int) (x27 : ByteArray) (h : laws_FnDigitsTellNumbers.j0 k x1 x5 x6 x7 x8 x11 x15 x19 x23 x27 true = some r) : False := by
  subst hr
  cases k with
  | zero => simp [laws_FnDigitsTellNumbers.j0] at h
  | succ k => simp [laws_FnDigitsTellNumbers.j0] at h
theorem laws_FnDigitsTellNumbers.j3_no {r : Bool} (hr : r = true) (k : Nat) (x52 : ByteArray) (x53 : Int) (x54 : Int) (x55 : Bool) (h : laws_FnDigitsTellNumbers.j3 k x52 x53 x54 x55 true = some r) : False := by
  subst hr
  cases k with
  | zero => simp [laws_FnDigitsTellNumbers.j3] at h
  | succ k => simp [laws_FnDigitsTellNumbers.j3] at h
set_option maxHeartbeats 8000000 in
set_option maxRecDepth 100000 in
theorem laws_FnDigitsTellNumbers.calls (k : Nat) (A0 : Option Addr) (c0 : Nat) (l0 : List Int) (A1 : Option Addr) (c1 : Nat) (l1 : List Int) (r : Bool) (w : World) (hr0 : Kd.C (Kd.int .u8) w A0 l0.length l0) (hc0 : l0.length ≤ c0) (hr1 : Kd.C (Kd.int .u8) w A1 l1.length l1) (hc1 : l1.length ≤ c1) (h : laws_FnDigitsTellNumbers.f k l0 l1 = some r) (hr_ : r = true) :
    Calls Try.prog 7 #[.slice A0 l0.length c0, .slice A1 l1.length c1] w fun e w' => e = .returned (.bool r) ∧ Below w.heap.size w w' := by
  have HR0 := Aside0.mk hr0
  have HC0 := Aside0.mk hc0
  clear hr0 hc0
  have HR1 := Aside0.mk hr1
  have HC1 := Aside0.mk hc1
  clear hr1 hc1
  have HB := Aside0.mk (Below.refl w.heap.size w)
  have H : ((laws_big.f l0 l1).bind fun t380 => (if t380 = true then (some true) else ((spec_DrawDigitsOf.f k l0).bind fun bt381 => ((impl_DigitsOf.f k bt381.1 bt381.2).bind fun bt383 => ((spec_DigitsOf.f k bt381.1 bt381.2).bind fun bt387 => ((impl_DigitSum.f k bt381.1 bt381.2).bind fun bt391 => ((spec_DigitSum.f k bt381.1 bt381.2).bind fun bt393 => ((impl_DigitProduct.f k bt381.1 bt381.2).bind fun bt395 => ((spec_DigitProduct.f k bt381.1 bt381.2).bind fun bt397 => ((impl_DigitCounts.f k bt381.1 bt381.2).bind fun bt399 => ((spec_DigitCounts.f k bt381.1 bt381.2).bind fun bt403 => ((impl_DigitalRoot.f k bt381.1 bt381.2).bind fun bt407 => ((spec_DigitalRoot.f k bt381.1 bt381.2).bind fun bt409 => ((impl_NumberText.f k bt381.1 bt381.2).bind fun bt411 => ((spec_NumberText.f k bt381.1 bt381.2).bind fun bt413 => (if (bt383.2 != bt387.2) = true then (laws_FnDigitsTellNumbers.j0 k l1 bt381.1 bt381.2 bt383.1 bt383.2 bt391.1 bt395.1 bt399.1 bt407.1 bt411.1 true) else ((laws_rSame.f k bt383.1 bt387.1).bind fun t415 => (if t415 = true then (if (bt391.2 != bt393.2) = true then (laws_FnDigitsTellNumbers.j0 k l1 bt381.1 bt381.2 bt383.1 bt383.2 bt391.1 bt395.1 bt399.1 bt407.1 bt411.1 true) else (if bt391.1 = bt393.1 then (if (bt395.2 != bt397.2) = true then (laws_FnDigitsTellNumbers.j0 k l1 bt381.1 bt381.2 bt383.1 bt383.2 bt391.1 bt395.1 bt399.1 bt407.1 bt411.1 true) else (if bt395.1 = bt397.1 then (if (bt399.2 != bt403.2) = true then (laws_FnDigitsTellNumbers.j0 k l1 bt381.1 bt381.2 bt383.1 bt383.2 bt391.1 bt395.1 bt399.1 bt407.1 bt411.1 true) else ((laws_rSame.f k bt399.1 bt403.1).bind fun t416 => (if t416 = true then (if (bt407.2 != bt409.2) = true then (laws_FnDigitsTellNumbers.j0 k l1 bt381.1 bt381.2 bt383.1 bt383.2 bt391.1 bt395.1 bt399.1 bt407.1 bt411.1 true) else (if bt407.1 = bt409.1 then (if (bt411.2 != bt413.2) = true then (laws_FnDigitsTellNumbers.j0 k l1 bt381.1 bt381.2 bt383.1 bt383.2 bt391.1 bt395.1 bt399.1 bt407.1 bt411.1 true) else (if bt411.1.toList = bt413.1.toList then (if (bt391.2 != bt383.2) = true then (laws_FnDigitsTellNumbers.j0 k l1 bt381.1 bt381.2 bt383.1 bt383.2 bt391.1 bt395.1 bt399.1 bt407.1 bt411.1 true) else (if (bt395.2 != bt383.2) = true then (laws_FnDigitsTellNumbers.j0 k l1 bt381.1 bt381.2 bt383.1 bt383.2 bt391.1 bt395.1 bt399.1 bt407.1 bt411.1 true) else (if (bt399.2 != bt383.2) = true then (laws_FnDigitsTellNumbers.j0 k l1 bt381.1 bt381.2 bt383.1 bt383.2 bt391.1 bt395.1 bt399.1 bt407.1 bt411.1 true) else (if (bt407.2 != bt383.2) = true then (laws_FnDigitsTellNumbers.j0 k l1 bt381.1 bt381.2 bt383.1 bt383.2 bt391.1 bt395.1 bt399.1 bt407.1 bt411.1 true) else (laws_FnDigitsTellNumbers.j0 k l1 bt381.1 bt381.2 bt383.1 bt383.2 bt391.1 bt395.1 bt399.1 bt407.1 bt411.1 (bt411.2 != bt383.2)))))) else (laws_FnDigitsTellNumbers.j0 k l1 bt381.1 bt381.2 bt383.1 bt383.2 bt391.1 bt395.1 bt399.1 bt407.1 bt411.1 true))) else (laws_FnDigitsTellNumbers.j0 k l1 bt381.1 bt381.2 bt383.1 bt383.2 bt391.1 bt395.1 bt399.1 bt407.1 bt411.1 true))) else (laws_FnDigitsTellNumbers.j0 k l1 bt381.1 bt381.2 bt383.1 bt383.2 bt391.1 bt395.1 bt399.1 bt407.1 bt411.1 true)))) else (laws_FnDigitsTellNumbers.j0 k l1 bt381.1 bt381.2 bt383.1 bt383.2 bt391.1 bt395.1 bt399.1 bt407.1 bt411.1 true))) else (laws_FnDigitsTellNumbers.j0 k l1 bt381.1 bt381.2 bt383.1 bt383.2 bt391.1 bt395.1 bt399.1 bt407.1 bt411.1 true))) else (laws_FnDigitsTellNumbers.j0 k l1 bt381.1 bt381.2 bt383.1 bt383.2 bt391.1 bt395.1 bt399.1 bt407.1 bt411.1 true))))))))))))))))))) = some r := h
  clear h
  have HR_ := Aside0.mk hr_
  clear hr_
  replace H := Option.bind_eq_some_iff.mp H
  obtain ⟨t380, A30, H⟩ := H
  replace H : (if t380 = true then (some true) else ((spec_DrawDigitsOf.f k l0).bind fun bt381 => ((impl_DigitsOf.f k bt381.1 bt381.2).bind fun bt383 => ((spec_DigitsOf.f k bt381.1 bt381.2).bind fun bt387 => ((impl_DigitSum.f k bt381.1 bt381.2).bind fun bt391 => ((spec_DigitSum.f k bt381.1 bt381.2).bind fun bt393 => ((impl_DigitProduct.f k bt381.1 bt381.2).bind fun bt395 => ((spec_DigitProduct.f k bt381.1 bt381.2).bind fun bt397 => ((impl_DigitCounts.f k bt381.1 bt381.2).bind fun bt399 => ((spec_DigitCounts.f k bt381.1 bt381.2).bind fun bt403 => ((impl_DigitalRoot.f k bt381.1 bt381.2).bind fun bt407 => ((spec_DigitalRoot.f k bt381.1 bt381.2).bind fun bt409 => ((impl_NumberText.f k bt381.1 bt381.2).bind fun bt411 => ((spec_NumberText.f k bt381.1 bt381.2).bind fun bt413 => (if (bt383.2 != bt387.2) = true then (laws_FnDigitsTellNumbers.j0 k l1 bt381.1 bt381.2 bt383.1 bt383.2 bt391.1 bt395.1 bt399.1 bt407.1 bt411.1 true) else ((laws_rSame.f k bt383.1 bt387.1).bind fun t415 => (if t415 = true then (if (bt391.2 != bt393.2) = true then (laws_FnDigitsTellNumbers.j0 k l1 bt381.1 bt381.2 bt383.1 bt383.2 bt391.1 bt395.1 bt399.1 bt407.1 bt411.1 true) else (if bt391.1 = bt393.1 then (if (bt395.2 != bt397.2) = true then (laws_FnDigitsTellNumbers.j0 k l1 bt381.1 bt381.2 bt383.1 bt383.2 bt391.1 bt395.1 bt399.1 bt407.1 bt411.1 true) else (if bt395.1 = bt397.1 then (if (bt399.2 != bt403.2) = true then (laws_FnDigitsTellNumbers.j0 k l1 bt381.1 bt381.2 bt383.1 bt383.2 bt391.1 bt395.1 bt399.1 bt407.1 bt411.1 true) else ((laws_rSame.f k bt399.1 bt403.1).bind fun t416 => (if t416 = true then (if (bt407.2 != bt409.2) = true then (laws_FnDigitsTellNumbers.j0 k l1 bt381.1 bt381.2 bt383.1 bt383.2 bt391.1 bt395.1 bt399.1 bt407.1 bt411.1 true) else (if bt407.1 = bt409.1 then (if (bt411.2 != bt413.2) = true then (laws_FnDigitsTellNumbers.j0 k l1 bt381.1 bt381.2 bt383.1 bt383.2 bt391.1 bt395.1 bt399.1 bt407.1 bt411.1 true) else (if bt411.1.toList = bt413.1.toList then (if (bt391.2 != bt383.2) = true then (laws_FnDigitsTellNumbers.j0 k l1 bt381.1 bt381.2 bt383.1 bt383.2 bt391.1 bt395.1 bt399.1 bt407.1 bt411.1 true) else (if (bt395.2 != bt383.2) = true then (laws_FnDigitsTellNumbers.j0 k l1 bt381.1 bt381.2 bt383.1 bt383.2 bt391.1 bt395.1 bt399.1 bt407.1 bt411.1 true) else (if (bt399.2 != bt383.2) = true then (laws_FnDigitsTellNumbers.j0 k l1 bt381.1 bt381.2 bt383.1 bt383.2 bt391.1 bt395.1 bt399.1 bt407.1 bt411.1 true) else (if (bt407.2 != bt383.2) = true then (laws_FnDigitsTellNumbers.j0 k l1 bt381.1 bt381.2 bt383.1 bt383.2 bt391.1 bt395.1 bt399.1 bt407.1 bt411.1 true) else (laws_FnDigitsTellNumbers.j0 k l1 bt381.1 bt381.2 bt383.1 bt383.2 bt391.1 bt395.1 bt399.1 bt407.1 bt411.1 (bt411.2 != bt383.2)))))) else (laws_FnDigitsTellNumbers.j0 k l1 bt381.1 bt381.2 bt383.1 bt383.2 bt391.1 bt395.1 bt399.1 bt407.1 bt411.1 true))) else (laws_FnDigitsTellNumbers.j0 k l1 bt381.1 bt381.2 bt383.1 bt383.2 bt391.1 bt395.1 bt399.1 bt407.1 bt411.1 true))) else (laws_FnDigitsTellNumbers.j0 k l1 bt381.1 bt381.2 bt383.1 bt383.2 bt391.1 bt395.1 bt399.1 bt407.1 bt411.1 true)))) else (laws_FnDigitsTellNumbers.j0 k l1 bt381.1 bt381.2 bt383.1 bt383.2 bt391.1 bt395.1 bt399.1 bt407.1 bt411.1 true))) else (laws_FnDigitsTellNumbers.j0 k l1 bt381.1 bt381.2 bt383.1 bt383.2 bt391.1 bt395.1 bt399.1 bt407.1 bt411.1 true))) else (laws_FnDigitsTellNumbers.j0 k l1 bt381.1 bt381.2 bt383.1 bt383.2 bt391.1 bt395.1 bt399.1 bt407.1 bt411.1 true)))))))))))))))))) = some r := H
  have A3 := Aside0.mk A30
  clear A30
  by_cases c4 : t380 = true
  · subst c4
    have H1 : (some true) = some r := by rw [if_pos rfl] at H; exact H
    clear H
    have H := H1
    clear H1
    as_aux_lemma =>
      obtain rfl := Option.some.inj H
      go_enter Try.func7, Try.ntmps7
      go_wp2_with (first | ((with_reducible refine gate_callee (f := 15) rfl ?_); refine goesL_ (some 62) rfl rfl Try.func15 (by kernel_rfl) rfl #[.slice A0 l0.length c0, .slice A1 l1.length c1] rfl (by (try simp only [List.map_toArray, List.map_cons, List.map_nil]); first | done | rfl | (simp only [List.length_drop, List.length_take]; rfl)) ?_; (with_reducible refine (laws_big.calls _ _ l0 _ _ l1 true _ ?side1 ?side2 ?side3 ?side4 A3.out).mono ?_); (case side1 => repeat (first | exact HR0.out | (with_reducible refine Kd.C_alloc ?_ _) | (with_reducible refine Kd.C_drewN ?_ _) | (with_reducible refine Kd.C_drew ?_))); (case side2 => exact HC0.out); (case side3 => repeat (first | exact HR1.out | (with_reducible refine Kd.C_alloc ?_ _) | (with_reducible refine Kd.C_drewN ?_ _) | (with_reducible refine Kd.C_drew ?_))); (case side4 => exact HC1.out); rintro e w' ⟨rfl, ⟨nd, rfl⟩⟩; refine ⟨_, rfl, ?_⟩))
      go_ret
      exact ⟨by first | rfl | (simp [errW_none, errW_some] <;> rfl) | (simp [*, errW_none, errW_some] <;> rfl), by repeat (first | (with_reducible first | exact HB.out | apply below_alloc | apply pw_below_drewN | apply below_drew1) | exact HB.out)⟩
  · replace c4 := Bool.eq_false_iff.mpr c4
    subst c4
    have H1 : ((spec_DrawDigitsOf.f k l0).bind fun bt381 => ((impl_DigitsOf.f k bt381.1 bt381.2).bind fun bt383 => ((spec_DigitsOf.f k bt381.1 bt381.2).bind fun bt387 => ((impl_DigitSum.f k bt381.1 bt381.2).bind fun bt391 => ((spec_DigitSum.f k bt381.1 bt381.2).bind fun bt393 => ((impl_DigitProduct.f k bt381.1 bt381.2).bind fun bt395 => ((spec_DigitProduct.f k bt381.1 bt381.2).bind fun bt397 => ((impl_DigitCounts.f k bt381.1 bt381.2).bind fun bt399 => ((spec_DigitCounts.f k bt381.1 bt381.2).bind fun bt403 => ((impl_DigitalRoot.f k bt381.1 bt381.2).bind fun bt407 => ((spec_DigitalRoot.f k bt381.1 bt381.2).bind fun bt409 => ((impl_NumberText.f k bt381.1 bt381.2).bind fun bt411 => ((spec_NumberText.f k bt381.1 bt381.2).bind fun bt413 => (if (bt383.2 != bt387.2) = true then (laws_FnDigitsTellNumbers.j0 k l1 bt381.1 bt381.2 bt383.1 bt383.2 bt391.1 bt395.1 bt399.1 bt407.1 bt411.1 true) else ((laws_rSame.f k bt383.1 bt387.1).bind fun t415 => (if t415 = true then (if (bt391.2 != bt393.2) = true then (laws_FnDigitsTellNumbers.j0 k l1 bt381.1 bt381.2 bt383.1 bt383.2 bt391.1 bt395.1 bt399.1 bt407.1 bt411.1 true) else (if bt391.1 = bt393.1 then (if (bt395.2 != bt397.2) = true then (laws_FnDigitsTellNumbers.j0 k l1 bt381.1 bt381.2 bt383.1 bt383.2 bt391.1 bt395.1 bt399.1 bt407.1 bt411.1 true) else (if bt395.1 = bt397.1 then (if (bt399.2 != bt403.2) = true then (laws_FnDigitsTellNumbers.j0 k l1 bt381.1 bt381.2 bt383.1 bt383.2 bt391.1 bt395.1 bt399.1 bt407.1 bt411.1 true) else ((laws_rSame.f k bt399.1 bt403.1).bind fun t416 => (if t416 = true then (if (bt407.2 != bt409.2) = true then (laws_FnDigitsTellNumbers.j0 k l1 bt381.1 bt381.2 bt383.1 bt383.2 bt391.1 bt395.1 bt399.1 bt407.1 bt411.1 true) else (if bt407.1 = bt409.1 then (if (bt411.2 != bt413.2) = true then (laws_FnDigitsTellNumbers.j0 k l1 bt381.1 bt381.2 bt383.1 bt383.2 bt391.1 bt395.1 bt399.1 bt407.1 bt411.1 true) else (if bt411.1.toList = bt413.1.toList then (if (bt391.2 != bt383.2) = true then (laws_FnDigitsTellNumbers.j0 k l1 bt381.1 bt381.2 bt383.1 bt383.2 bt391.1 bt395.1 bt399.1 bt407.1 bt411.1 true) else (if (bt395.2 != bt383.2) = true then (laws_FnDigitsTellNumbers.j0 k l1 bt381.1 bt381.2 bt383.1 bt383.2 bt391.1 bt395.1 bt399.1 bt407.1 bt411.1 true) else (if (bt399.2 != bt383.2) = true then (laws_FnDigitsTellNumbers.j0 k l1 bt381.1 bt381.2 bt383.1 bt383.2 bt391.1 bt395.1 bt399.1 bt407.1 bt411.1 true) else (if (bt407.2 != bt383.2) = true then (laws_FnDigitsTellNumbers.j0 k l1 bt381.1 bt381.2 bt383.1 bt383.2 bt391.1 bt395.1 bt399.1 bt407.1 bt411.1 true) else (laws_FnDigitsTellNumbers.j0 k l1 bt381.1 bt381.2 bt383.1 bt383.2 bt391.1 bt395.1 bt399.1 bt407.1 bt411.1 (bt411.2 != bt383.2)))))) else (laws_FnDigitsTellNumbers.j0 k l1 bt381.1 bt381.2 bt383.1 bt383.2 bt391.1 bt395.1 bt399.1 bt407.1 bt411.1 true))) else (laws_FnDigitsTellNumbers.j0 k l1 bt381.1 bt381.2 bt383.1 bt383.2 bt391.1 bt395.1 bt399.1 bt407.1 bt411.1 true))) else (laws_FnDigitsTellNumbers.j0 k l1 bt381.1 bt381.2 bt383.1 bt383.2 bt391.1 bt395.1 bt399.1 bt407.1 bt411.1 true)))) else (laws_FnDigitsTellNumbers.j0 k l1 bt381.1 bt381.2 bt383.1 bt383.2 bt391.1 bt395.1 bt399.1 bt407.1 bt411.1 true))) else (laws_FnDigitsTellNumbers.j0 k l1 bt381.1 bt381.2 bt383.1 bt383.2 bt391.1 bt395.1 bt399.1 bt407.1 bt411.1 true))) else (laws_FnDigitsTellNumbers.j0 k l1 bt381.1 bt381.2 bt383.1 bt383.2 bt391.1 bt395.1 bt399.1 bt407.1 bt411.1 true))))))))))))))))) = some r := by rw [if_neg (show ¬ (false = true) by decide)] at H; exact H
    clear H
    have H := H1
    clear H1
    replace H := Option.bind_eq_some_iff.mp H
    obtain ⟨⟨t381, t382⟩, A50, H⟩ := H
    replace H : ((impl_DigitsOf.f k t381 t382).bind fun bt383 => ((spec_DigitsOf.f k t381 t382).bind fun bt387 => ((impl_DigitSum.f k t381 t382).bind fun bt391 => ((spec_DigitSum.f k t381 t382).bind fun bt393 => ((impl_DigitProduct.f k t381 t382).bind fun bt395 => ((spec_DigitProduct.f k t381 t382).bind fun bt397 => ((impl_DigitCounts.f k t381 t382).bind fun bt399 => ((spec_DigitCounts.f k t381 t382).bind fun bt403 => ((impl_DigitalRoot.f k t381 t382).bind fun bt407 => ((spec_DigitalRoot.f k t381 t382).bind fun bt409 => ((impl_NumberText.f k t381 t382).bind fun bt411 => ((spec_NumberText.f k t381 t382).bind fun bt413 => (if (bt383.2 != bt387.2) = true then (laws_FnDigitsTellNumbers.j0 k l1 t381 t382 bt383.1 bt383.2 bt391.1 bt395.1 bt399.1 bt407.1 bt411.1 true) else ((laws_rSame.f k bt383.1 bt387.1).bind fun t415 => (if t415 = true then (if (bt391.2 != bt393.2) = true then (laws_FnDigitsTellNumbers.j0 k l1 t381 t382 bt383.1 bt383.2 bt391.1 bt395.1 bt399.1 bt407.1 bt411.1 true) else (if bt391.1 = bt393.1 then (if (bt395.2 != bt397.2) = true then (laws_FnDigitsTellNumbers.j0 k l1 t381 t382 bt383.1 bt383.2 bt391.1 bt395.1 bt399.1 bt407.1 bt411.1 true) else (if bt395.1 = bt397.1 then (if (bt399.2 != bt403.2) = true then (laws_FnDigitsTellNumbers.j0 k l1 t381 t382 bt383.1 bt383.2 bt391.1 bt395.1 bt399.1 bt407.1 bt411.1 true) else ((laws_rSame.f k bt399.1 bt403.1).bind fun t416 => (if t416 = true then (if (bt407.2 != bt409.2) = true then (laws_FnDigitsTellNumbers.j0 k l1 t381 t382 bt383.1 bt383.2 bt391.1 bt395.1 bt399.1 bt407.1 bt411.1 true) else (if bt407.1 = bt409.1 then (if (bt411.2 != bt413.2) = true then (laws_FnDigitsTellNumbers.j0 k l1 t381 t382 bt383.1 bt383.2 bt391.1 bt395.1 bt399.1 bt407.1 bt411.1 true) else (if bt411.1.toList = bt413.1.toList then (if (bt391.2 != bt383.2) = true then (laws_FnDigitsTellNumbers.j0 k l1 t381 t382 bt383.1 bt383.2 bt391.1 bt395.1 bt399.1 bt407.1 bt411.1 true) else (if (bt395.2 != bt383.2) = true then (laws_FnDigitsTellNumbers.j0 k l1 t381 t382 bt383.1 bt383.2 bt391.1 bt395.1 bt399.1 bt407.1 bt411.1 true) else (if (bt399.2 != bt383.2) = true then (laws_FnDigitsTellNumbers.j0 k l1 t381 t382 bt383.1 bt383.2 bt391.1 bt395.1 bt399.1 bt407.1 bt411.1 true) else (if (bt407.2 != bt383.2) = true then (laws_FnDigitsTellNumbers.j0 k l1 t381 t382 bt383.1 bt383.2 bt391.1 bt395.1 bt399.1 bt407.1 bt411.1 true) else (laws_FnDigitsTellNumbers.j0 k l1 t381 t382 bt383.1 bt383.2 bt391.1 bt395.1 bt399.1 bt407.1 bt411.1 (bt411.2 != bt383.2)))))) else (laws_FnDigitsTellNumbers.j0 k l1 t381 t382 bt383.1 bt383.2 bt391.1 bt395.1 bt399.1 bt407.1 bt411.1 true))) else (laws_FnDigitsTellNumbers.j0 k l1 t381 t382 bt383.1 bt383.2 bt391.1 bt395.1 bt399.1 bt407.1 bt411.1 true))) else (laws_FnDigitsTellNumbers.j0 k l1 t381 t382 bt383.1 bt383.2 bt391.1 bt395.1 bt399.1 bt407.1 bt411.1 true)))) else (laws_FnDigitsTellNumbers.j0 k l1 t381 t382 bt383.1 bt383.2 bt391.1 bt395.1 bt399.1 bt407.1 bt411.1 true))) else (laws_FnDigitsTellNumbers.j0 k l1 t381 t382 bt383.1 bt383.2 bt391.1 bt395.1 bt399.1 bt407.1 bt411.1 true))) else (laws_FnDigitsTellNumbers.j0 k l1 t381 t382 bt383.1 bt383.2 bt391.1 bt395.1 bt399.1 bt407.1 bt411.1 true)))))))))))))))) = some r := H
    have A5 := Aside0.mk A50
    clear A50
    replace H := Option.bind_eq_some_iff.mp H
    obtain ⟨⟨t383, t384⟩, A60, H⟩ := H
    replace H : ((spec_DigitsOf.f k t381 t382).bind fun bt387 => ((impl_DigitSum.f k t381 t382).bind fun bt391 => ((spec_DigitSum.f k t381 t382).bind fun bt393 => ((impl_DigitProduct.f k t381 t382).bind fun bt395 => ((spec_DigitProduct.f k t381 t382).bind fun bt397 => ((impl_DigitCounts.f k t381 t382).bind fun bt399 => ((spec_DigitCounts.f k t381 t382).bind fun bt403 => ((impl_DigitalRoot.f k t381 t382).bind fun bt407 => ((spec_DigitalRoot.f k t381 t382).bind fun bt409 => ((impl_NumberText.f k t381 t382).bind fun bt411 => ((spec_NumberText.f k t381 t382).bind fun bt413 => (if (t384 != bt387.2) = true then (laws_FnDigitsTellNumbers.j0 k l1 t381 t382 t383 t384 bt391.1 bt395.1 bt399.1 bt407.1 bt411.1 true) else ((laws_rSame.f k t383 bt387.1).bind fun t415 => (if t415 = true then (if (bt391.2 != bt393.2) = true then (laws_FnDigitsTellNumbers.j0 k l1 t381 t382 t383 t384 bt391.1 bt395.1 bt399.1 bt407.1 bt411.1 true) else (if bt391.1 = bt393.1 then (if (bt395.2 != bt397.2) = true then (laws_FnDigitsTellNumbers.j0 k l1 t381 t382 t383 t384 bt391.1 bt395.1 bt399.1 bt407.1 bt411.1 true) else (if bt395.1 = bt397.1 then (if (bt399.2 != bt403.2) = true then (laws_FnDigitsTellNumbers.j0 k l1 t381 t382 t383 t384 bt391.1 bt395.1 bt399.1 bt407.1 bt411.1 true) else ((laws_rSame.f k bt399.1 bt403.1).bind fun t416 => (if t416 = true then (if (bt407.2 != bt409.2) = true then (laws_FnDigitsTellNumbers.j0 k l1 t381 t382 t383 t384 bt391.1 bt395.1 bt399.1 bt407.1 bt411.1 true) else (if bt407.1 = bt409.1 then (if (bt411.2 != bt413.2) = true then (laws_FnDigitsTellNumbers.j0 k l1 t381 t382 t383 t384 bt391.1 bt395.1 bt399.1 bt407.1 bt411.1 true) else (if bt411.1.toList = bt413.1.toList then (if (bt391.2 != t384) = true then (laws_FnDigitsTellNumbers.j0 k l1 t381 t382 t383 t384 bt391.1 bt395.1 bt399.1 bt407.1 bt411.1 true) else (if (bt395.2 != t384) = true then (laws_FnDigitsTellNumbers.j0 k l1 t381 t382 t383 t384 bt391.1 bt395.1 bt399.1 bt407.1 bt411.1 true) else (if (bt399.2 != t384) = true then (laws_FnDigitsTellNumbers.j0 k l1 t381 t382 t383 t384 bt391.1 bt395.1 bt399.1 bt407.1 bt411.1 true) else (if (bt407.2 != t384) = true then (laws_FnDigitsTellNumbers.j0 k l1 t381 t382 t383 t384 bt391.1 bt395.1 bt399.1 bt407.1 bt411.1 true) else (laws_FnDigitsTellNumbers.j0 k l1 t381 t382 t383 t384 bt391.1 bt395.1 bt399.1 bt407.1 bt411.1 (bt411.2 != t384)))))) else (laws_FnDigitsTellNumbers.j0 k l1 t381 t382 t383 t384 bt391.1 bt395.1 bt399.1 bt407.1 bt411.1 true))) else (laws_FnDigitsTellNumbers.j0 k l1 t381 t382 t383 t384 bt391.1 bt395.1 bt399.1 bt407.1 bt411.1 true))) else (laws_FnDigitsTellNumbers.j0 k l1 t381 t382 t383 t384 bt391.1 bt395.1 bt399.1 bt407.1 bt411.1 true)))) else (laws_FnDigitsTellNumbers.j0 k l1 t381 t382 t383 t384 bt391.1 bt395.1 bt399.1 bt407.1 bt411.1 true))) else (laws_FnDigitsTellNumbers.j0 k l1 t381 t382 t383 t384 bt391.1 bt395.1 bt399.1 bt407.1 bt411.1 true))) else (laws_FnDigitsTellNumbers.j0 k l1 t381 t382 t383 t384 bt391.1 bt395.1 bt399.1 bt407.1 bt411.1 true))))))))))))))) = some r := H
    have A6 := Aside0.mk A60
    clear A60
    replace H := Option.bind_eq_some_iff.mp H
    obtain ⟨⟨t387, t388⟩, A70, H⟩ := H
    replace H : ((impl_DigitSum.f k t381 t382).bind fun bt391 => ((spec_DigitSum.f k t381 t382).bind fun bt393 => ((impl_DigitProduct.f k t381 t382).bind fun bt395 => ((spec_DigitProduct.f k t381 t382).bind fun bt397 => ((impl_DigitCounts.f k t381 t382).bind fun bt399 => ((spec_DigitCounts.f k t381 t382).bind fun bt403 => ((impl_DigitalRoot.f k t381 t382).bind fun bt407 => ((spec_DigitalRoot.f k t381 t382).bind fun bt409 => ((impl_NumberText.f k t381 t382).bind fun bt411 => ((spec_NumberText.f k t381 t382).bind fun bt413 => (if (t384 != t388) = true then (laws_FnDigitsTellNumbers.j0 k l1 t381 t382 t383 t384 bt391.1 bt395.1 bt399.1 bt407.1 bt411.1 true) else ((laws_rSame.f k t383 t387).bind fun t415 => (if t415 = true then (if (bt391.2 != bt393.2) = true then (laws_FnDigitsTellNumbers.j0 k l1 t381 t382 t383 t384 bt391.1 bt395.1 bt399.1 bt407.1 bt411.1 true) else (if bt391.1 = bt393.1 then (if (bt395.2 != bt397.2) = true then (laws_FnDigitsTellNumbers.j0 k l1 t381 t382 t383 t384 bt391.1 bt395.1 bt399.1 bt407.1 bt411.1 true) else (if bt395.1 = bt397.1 then (if (bt399.2 != bt403.2) = true then (laws_FnDigitsTellNumbers.j0 k l1 t381 t382 t383 t384 bt391.1 bt395.1 bt399.1 bt407.1 bt411.1 true) else ((laws_rSame.f k bt399.1 bt403.1).bind fun t416 => (if t416 = true then (if (bt407.2 != bt409.2) = true then (laws_FnDigitsTellNumbers.j0 k l1 t381 t382 t383 t384 bt391.1 bt395.1 bt399.1 bt407.1 bt411.1 true) else (if bt407.1 = bt409.1 then (if (bt411.2 != bt413.2) = true then (laws_FnDigitsTellNumbers.j0 k l1 t381 t382 t383 t384 bt391.1 bt395.1 bt399.1 bt407.1 bt411.1 true) else (if bt411.1.toList = bt413.1.toList then (if (bt391.2 != t384) = true then (laws_FnDigitsTellNumbers.j0 k l1 t381 t382 t383 t384 bt391.1 bt395.1 bt399.1 bt407.1 bt411.1 true) else (if (bt395.2 != t384) = true then (laws_FnDigitsTellNumbers.j0 k l1 t381 t382 t383 t384 bt391.1 bt395.1 bt399.1 bt407.1 bt411.1 true) else (if (bt399.2 != t384) = true then (laws_FnDigitsTellNumbers.j0 k l1 t381 t382 t383 t384 bt391.1 bt395.1 bt399.1 bt407.1 bt411.1 true) else (if (bt407.2 != t384) = true then (laws_FnDigitsTellNumbers.j0 k l1 t381 t382 t383 t384 bt391.1 bt395.1 bt399.1 bt407.1 bt411.1 true) else (laws_FnDigitsTellNumbers.j0 k l1 t381 t382 t383 t384 bt391.1 bt395.1 bt399.1 bt407.1 bt411.1 (bt411.2 != t384)))))) else (laws_FnDigitsTellNumbers.j0 k l1 t381 t382 t383 t384 bt391.1 bt395.1 bt399.1 bt407.1 bt411.1 true))) else (laws_FnDigitsTellNumbers.j0 k l1 t381 t382 t383 t384 bt391.1 bt395.1 bt399.1 bt407.1 bt411.1 true))) else (laws_FnDigitsTellNumbers.j0 k l1 t381 t382 t383 t384 bt391.1 bt395.1 bt399.1 bt407.1 bt411.1 true)))) else (laws_FnDigitsTellNumbers.j0 k l1 t381 t382 t383 t384 bt391.1 bt395.1 bt399.1 bt407.1 bt411.1 true))) else (laws_FnDigitsTellNumbers.j0 k l1 t381 t382 t383 t384 bt391.1 bt395.1 bt399.1 bt407.1 bt411.1 true))) else (laws_FnDigitsTellNumbers.j0 k l1 t381 t382 t383 t384 bt391.1 bt395.1 bt399.1 bt407.1 bt411.1 true)))))))))))))) = some r := H
    have A7 := Aside0.mk A70
    clear A70
    replace H := Option.bind_eq_some_iff.mp H
    obtain ⟨⟨t391, t392⟩, A80, H⟩ := H
    replace H : ((spec_DigitSum.f k t381 t382).bind fun bt393 => ((impl_DigitProduct.f k t381 t382).bind fun bt395 => ((spec_DigitProduct.f k t381 t382).bind fun bt397 => ((impl_DigitCounts.f k t381 t382).bind fun bt399 => ((spec_DigitCounts.f k t381 t382).bind fun bt403 => ((impl_DigitalRoot.f k t381 t382).bind fun bt407 => ((spec_DigitalRoot.f k t381 t382).bind fun bt409 => ((impl_NumberText.f k t381 t382).bind fun bt411 => ((spec_NumberText.f k t381 t382).bind fun bt413 => (if (t384 != t388) = true then (laws_FnDigitsTellNumbers.j0 k l1 t381 t382 t383 t384 t391 bt395.1 bt399.1 bt407.1 bt411.1 true) else ((laws_rSame.f k t383 t387).bind fun t415 => (if t415 = true then (if (t392 != bt393.2) = true then (laws_FnDigitsTellNumbers.j0 k l1 t381 t382 t383 t384 t391 bt395.1 bt399.1 bt407.1 bt411.1 true) else (if t391 = bt393.1 then (if (bt395.2 != bt397.2) = true then (laws_FnDigitsTellNumbers.j0 k l1 t381 t382 t383 t384 t391 bt395.1 bt399.1 bt407.1 bt411.1 true) else (if bt395.1 = bt397.1 then (if (bt399.2 != bt403.2) = true then (laws_FnDigitsTellNumbers.j0 k l1 t381 t382 t383 t384 t391 bt395.1 bt399.1 bt407.1 bt411.1 true) else ((laws_rSame.f k bt399.1 bt403.1).bind fun t416 => (if t416 = true then (if (bt407.2 != bt409.2) = true then (laws_FnDigitsTellNumbers.j0 k l1 t381 t382 t383 t384 t391 bt395.1 bt399.1 bt407.1 bt411.1 true) else (if bt407.1 = bt409.1 then (if (bt411.2 != bt413.2) = true then (laws_FnDigitsTellNumbers.j0 k l1 t381 t382 t383 t384 t391 bt395.1 bt399.1 bt407.1 bt411.1 true) else (if bt411.1.toList = bt413.1.toList then (if (t392 != t384) = true then (laws_FnDigitsTellNumbers.j0 k l1 t381 t382 t383 t384 t391 bt395.1 bt399.1 bt407.1 bt411.1 true) else (if (bt395.2 != t384) = true then (laws_FnDigitsTellNumbers.j0 k l1 t381 t382 t383 t384 t391 bt395.1 bt399.1 bt407.1 bt411.1 true) else (if (bt399.2 != t384) = true then (laws_FnDigitsTellNumbers.j0 k l1 t381 t382 t383 t384 t391 bt395.1 bt399.1 bt407.1 bt411.1 true) else (if (bt407.2 != t384) = true then (laws_FnDigitsTellNumbers.j0 k l1 t381 t382 t383 t384 t391 bt395.1 bt399.1 bt407.1 bt411.1 true) else (laws_FnDigitsTellNumbers.j0 k l1 t381 t382 t383 t384 t391 bt395.1 bt399.1 bt407.1 bt411.1 (bt411.2 != t384)))))) else (laws_FnDigitsTellNumbers.j0 k l1 t381 t382 t383 t384 t391 bt395.1 bt399.1 bt407.1 bt411.1 true))) else (laws_FnDigitsTellNumbers.j0 k l1 t381 t382 t383 t384 t391 bt395.1 bt399.1 bt407.1 bt411.1 true))) else (laws_FnDigitsTellNumbers.j0 k l1 t381 t382 t383 t384 t391 bt395.1 bt399.1 bt407.1 bt411.1 true)))) else (laws_FnDigitsTellNumbers.j0 k l1 t381 t382 t383 t384 t391 bt395.1 bt399.1 bt407.1 bt411.1 true))) else (laws_FnDigitsTellNumbers.j0 k l1 t381 t382 t383 t384 t391 bt395.1 bt399.1 bt407.1 bt411.1 true))) else (laws_FnDigitsTellNumbers.j0 k l1 t381 t382 t383 t384 t391 bt395.1 bt399.1 bt407.1 bt411.1 true))))))))))))) = some r := H
    have A8 := Aside0.mk A80
    clear A80
    replace H := Option.bind_eq_some_iff.mp H
    obtain ⟨⟨t393, t394⟩, A90, H⟩ := H
    replace H : ((impl_DigitProduct.f k t381 t382).bind fun bt395 => ((spec_DigitProduct.f k t381 t382).bind fun bt397 => ((impl_DigitCounts.f k t381 t382).bind fun bt399 => ((spec_DigitCounts.f k t381 t382).bind fun bt403 => ((impl_DigitalRoot.f k t381 t382).bind fun bt407 => ((spec_DigitalRoot.f k t381 t382).bind fun bt409 => ((impl_NumberText.f k t381 t382).bind fun bt411 => ((spec_NumberText.f k t381 t382).bind fun bt413 => (if (t384 != t388) = true then (laws_FnDigitsTellNumbers.j0 k l1 t381 t382 t383 t384 t391 bt395.1 bt399.1 bt407.1 bt411.1 true) else ((laws_rSame.f k t383 t387).bind fun t415 => (if t415 = true then (if (t392 != t394) = true then (laws_FnDigitsTellNumbers.j0 k l1 t381 t382 t383 t384 t391 bt395.1 bt399.1 bt407.1 bt411.1 true) else (if t391 = t393 then (if (bt395.2 != bt397.2) = true then (laws_FnDigitsTellNumbers.j0 k l1 t381 t382 t383 t384 t391 bt395.1 bt399.1 bt407.1 bt411.1 true) else (if bt395.1 = bt397.1 then (if (bt399.2 != bt403.2) = true then (laws_FnDigitsTellNumbers.j0 k l1 t381 t382 t383 t384 t391 bt395.1 bt399.1 bt407.1 bt411.1 true) else ((laws_rSame.f k bt399.1 bt403.1).bind fun t416 => (if t416 = true then (if (bt407.2 != bt409.2) = true then (laws_FnDigitsTellNumbers.j0 k l1 t381 t382 t383 t384 t391 bt395.1 bt399.1 bt407.1 bt411.1 true) else (if bt407.1 = bt409.1 then (if (bt411.2 != bt413.2) = true then (laws_FnDigitsTellNumbers.j0 k l1 t381 t382 t383 t384 t391 bt395.1 bt399.1 bt407.1 bt411.1 true) else (if bt411.1.toList = bt413.1.toList then (if (t392 != t384) = true then (laws_FnDigitsTellNumbers.j0 k l1 t381 t382 t383 t384 t391 bt395.1 bt399.1 bt407.1 bt411.1 true) else (if (bt395.2 != t384) = true then (laws_FnDigitsTellNumbers.j0 k l1 t381 t382 t383 t384 t391 bt395.1 bt399.1 bt407.1 bt411.1 true) else (if (bt399.2 != t384) = true then (laws_FnDigitsTellNumbers.j0 k l1 t381 t382 t383 t384 t391 bt395.1 bt399.1 bt407.1 bt411.1 true) else (if (bt407.2 != t384) = true then (laws_FnDigitsTellNumbers.j0 k l1 t381 t382 t383 t384 t391 bt395.1 bt399.1 bt407.1 bt411.1 true) else (laws_FnDigitsTellNumbers.j0 k l1 t381 t382 t383 t384 t391 bt395.1 bt399.1 bt407.1 bt411.1 (bt411.2 != t384)))))) else (laws_FnDigitsTellNumbers.j0 k l1 t381 t382 t383 t384 t391 bt395.1 bt399.1 bt407.1 bt411.1 true))) else (laws_FnDigitsTellNumbers.j0 k l1 t381 t382 t383 t384 t391 bt395.1 bt399.1 bt407.1 bt411.1 true))) else (laws_FnDigitsTellNumbers.j0 k l1 t381 t382 t383 t384 t391 bt395.1 bt399.1 bt407.1 bt411.1 true)))) else (laws_FnDigitsTellNumbers.j0 k l1 t381 t382 t383 t384 t391 bt395.1 bt399.1 bt407.1 bt411.1 true))) else (laws_FnDigitsTellNumbers.j0 k l1 t381 t382 t383 t384 t391 bt395.1 bt399.1 bt407.1 bt411.1 true))) else (laws_FnDigitsTellNumbers.j0 k l1 t381 t382 t383 t384 t391 bt395.1 bt399.1 bt407.1 bt411.1 true)))))))))))) = some r := H
    have A9 := Aside0.mk A90
    clear A90
    replace H := Option.bind_eq_some_iff.mp H
    obtain ⟨⟨t395, t396⟩, A100, H⟩ := H
    replace H : ((spec_DigitProduct.f k t381 t382).bind fun bt397 => ((impl_DigitCounts.f k t381 t382).bind fun bt399 => ((spec_DigitCounts.f k t381 t382).bind fun bt403 => ((impl_DigitalRoot.f k t381 t382).bind fun bt407 => ((spec_DigitalRoot.f k t381 t382).bind fun bt409 => ((impl_NumberText.f k t381 t382).bind fun bt411 => ((spec_NumberText.f k t381 t382).bind fun bt413 => (if (t384 != t388) = true then (laws_FnDigitsTellNumbers.j0 k l1 t381 t382 t383 t384 t391 t395 bt399.1 bt407.1 bt411.1 true) else ((laws_rSame.f k t383 t387).bind fun t415 => (if t415 = true then (if (t392 != t394) = true then (laws_FnDigitsTellNumbers.j0 k l1 t381 t382 t383 t384 t391 t395 bt399.1 bt407.1 bt411.1 true) else (if t391 = t393 then (if (t396 != bt397.2) = true then (laws_FnDigitsTellNumbers.j0 k l1 t381 t382 t383 t384 t391 t395 bt399.1 bt407.1 bt411.1 true) else (if t395 = bt397.1 then (if (bt399.2 != bt403.2) = true then (laws_FnDigitsTellNumbers.j0 k l1 t381 t382 t383 t384 t391 t395 bt399.1 bt407.1 bt411.1 true) else ((laws_rSame.f k bt399.1 bt403.1).bind fun t416 => (if t416 = true then (if (bt407.2 != bt409.2) = true then (laws_FnDigitsTellNumbers.j0 k l1 t381 t382 t383 t384 t391 t395 bt399.1 bt407.1 bt411.1 true) else (if bt407.1 = bt409.1 then (if (bt411.2 != bt413.2) = true then (laws_FnDigitsTellNumbers.j0 k l1 t381 t382 t383 t384 t391 t395 bt399.1 bt407.1 bt411.1 true) else (if bt411.1.toList = bt413.1.toList then (if (t392 != t384) = true then (laws_FnDigitsTellNumbers.j0 k l1 t381 t382 t383 t384 t391 t395 bt399.1 bt407.1 bt411.1 true) else (if (t396 != t384) = true then (laws_FnDigitsTellNumbers.j0 k l1 t381 t382 t383 t384 t391 t395 bt399.1 bt407.1 bt411.1 true) else (if (bt399.2 != t384) = true then (laws_FnDigitsTellNumbers.j0 k l1 t381 t382 t383 t384 t391 t395 bt399.1 bt407.1 bt411.1 true) else (if (bt407.2 != t384) = true then (laws_FnDigitsTellNumbers.j0 k l1 t381 t382 t383 t384 t391 t395 bt399.1 bt407.1 bt411.1 true) else (laws_FnDigitsTellNumbers.j0 k l1 t381 t382 t383 t384 t391 t395 bt399.1 bt407.1 bt411.1 (bt411.2 != t384)))))) else (laws_FnDigitsTellNumbers.j0 k l1 t381 t382 t383 t384 t391 t395 bt399.1 bt407.1 bt411.1 true))) else (laws_FnDigitsTellNumbers.j0 k l1 t381 t382 t383 t384 t391 t395 bt399.1 bt407.1 bt411.1 true))) else (laws_FnDigitsTellNumbers.j0 k l1 t381 t382 t383 t384 t391 t395 bt399.1 bt407.1 bt411.1 true)))) else (laws_FnDigitsTellNumbers.j0 k l1 t381 t382 t383 t384 t391 t395 bt399.1 bt407.1 bt411.1 true))) else (laws_FnDigitsTellNumbers.j0 k l1 t381 t382 t383 t384 t391 t395 bt399.1 bt407.1 bt411.1 true))) else (laws_FnDigitsTellNumbers.j0 k l1 t381 t382 t383 t384 t391 t395 bt399.1 bt407.1 bt411.1 true))))))))))) = some r := H
    have A10 := Aside0.mk A100
    clear A100
    replace H := Option.bind_eq_some_iff.mp H
    obtain ⟨⟨t397, t398⟩, A110, H⟩ := H
    replace H : ((impl_DigitCounts.f k t381 t382).bind fun bt399 => ((spec_DigitCounts.f k t381 t382).bind fun bt403 => ((impl_DigitalRoot.f k t381 t382).bind fun bt407 => ((spec_DigitalRoot.f k t381 t382).bind fun bt409 => ((impl_NumberText.f k t381 t382).bind fun bt411 => ((spec_NumberText.f k t381 t382).bind fun bt413 => (if (t384 != t388) = true then (laws_FnDigitsTellNumbers.j0 k l1 t381 t382 t383 t384 t391 t395 bt399.1 bt407.1 bt411.1 true) else ((laws_rSame.f k t383 t387).bind fun t415 => (if t415 = true then (if (t392 != t394) = true then (laws_FnDigitsTellNumbers.j0 k l1 t381 t382 t383 t384 t391 t395 bt399.1 bt407.1 bt411.1 true) else (if t391 = t393 then (if (t396 != t398) = true then (laws_FnDigitsTellNumbers.j0 k l1 t381 t382 t383 t384 t391 t395 bt399.1 bt407.1 bt411.1 true) else (if t395 = t397 then (if (bt399.2 != bt403.2) = true then (laws_FnDigitsTellNumbers.j0 k l1 t381 t382 t383 t384 t391 t395 bt399.1 bt407.1 bt411.1 true) else ((laws_rSame.f k bt399.1 bt403.1).bind fun t416 => (if t416 = true then (if (bt407.2 != bt409.2) = true then (laws_FnDigitsTellNumbers.j0 k l1 t381 t382 t383 t384 t391 t395 bt399.1 bt407.1 bt411.1 true) else (if bt407.1 = bt409.1 then (if (bt411.2 != bt413.2) = true then (laws_FnDigitsTellNumbers.j0 k l1 t381 t382 t383 t384 t391 t395 bt399.1 bt407.1 bt411.1 true) else (if bt411.1.toList = bt413.1.toList then (if (t392 != t384) = true then (laws_FnDigitsTellNumbers.j0 k l1 t381 t382 t383 t384 t391 t395 bt399.1 bt407.1 bt411.1 true) else (if (t396 != t384) = true then (laws_FnDigitsTellNumbers.j0 k l1 t381 t382 t383 t384 t391 t395 bt399.1 bt407.1 bt411.1 true) else (if (bt399.2 != t384) = true then (laws_FnDigitsTellNumbers.j0 k l1 t381 t382 t383 t384 t391 t395 bt399.1 bt407.1 bt411.1 true) else (if (bt407.2 != t384) = true then (laws_FnDigitsTellNumbers.j0 k l1 t381 t382 t383 t384 t391 t395 bt399.1 bt407.1 bt411.1 true) else (laws_FnDigitsTellNumbers.j0 k l1 t381 t382 t383 t384 t391 t395 bt399.1 bt407.1 bt411.1 (bt411.2 != t384)))))) else (laws_FnDigitsTellNumbers.j0 k l1 t381 t382 t383 t384 t391 t395 bt399.1 bt407.1 bt411.1 true))) else (laws_FnDigitsTellNumbers.j0 k l1 t381 t382 t383 t384 t391 t395 bt399.1 bt407.1 bt411.1 true))) else (laws_FnDigitsTellNumbers.j0 k l1 t381 t382 t383 t384 t391 t395 bt399.1 bt407.1 bt411.1 true)))) else (laws_FnDigitsTellNumbers.j0 k l1 t381 t382 t383 t384 t391 t395 bt399.1 bt407.1 bt411.1 true))) else (laws_FnDigitsTellNumbers.j0 k l1 t381 t382 t383 t384 t391 t395 bt399.1 bt407.1 bt411.1 true))) else (laws_FnDigitsTellNumbers.j0 k l1 t381 t382 t383 t384 t391 t395 bt399.1 bt407.1 bt411.1 true)))))))))) = some r := H
    have A11 := Aside0.mk A110
    clear A110
    replace H := Option.bind_eq_some_iff.mp H
    obtain ⟨⟨t399, t400⟩, A120, H⟩ := H
    replace H : ((spec_DigitCounts.f k t381 t382).bind fun bt403 => ((impl_DigitalRoot.f k t381 t382).bind fun bt407 => ((spec_DigitalRoot.f k t381 t382).bind fun bt409 => ((impl_NumberText.f k t381 t382).bind fun bt411 => ((spec_NumberText.f k t381 t382).bind fun bt413 => (if (t384 != t388) = true then (laws_FnDigitsTellNumbers.j0 k l1 t381 t382 t383 t384 t391 t395 t399 bt407.1 bt411.1 true) else ((laws_rSame.f k t383 t387).bind fun t415 => (if t415 = true then (if (t392 != t394) = true then (laws_FnDigitsTellNumbers.j0 k l1 t381 t382 t383 t384 t391 t395 t399 bt407.1 bt411.1 true) else (if t391 = t393 then (if (t396 != t398) = true then (laws_FnDigitsTellNumbers.j0 k l1 t381 t382 t383 t384 t391 t395 t399 bt407.1 bt411.1 true) else (if t395 = t397 then (if (t400 != bt403.2) = true then (laws_FnDigitsTellNumbers.j0 k l1 t381 t382 t383 t384 t391 t395 t399 bt407.1 bt411.1 true) else ((laws_rSame.f k t399 bt403.1).bind fun t416 => (if t416 = true then (if (bt407.2 != bt409.2) = true then (laws_FnDigitsTellNumbers.j0 k l1 t381 t382 t383 t384 t391 t395 t399 bt407.1 bt411.1 true) else (if bt407.1 = bt409.1 then (if (bt411.2 != bt413.2) = true then (laws_FnDigitsTellNumbers.j0 k l1 t381 t382 t383 t384 t391 t395 t399 bt407.1 bt411.1 true) else (if bt411.1.toList = bt413.1.toList then (if (t392 != t384) = true then (laws_FnDigitsTellNumbers.j0 k l1 t381 t382 t383 t384 t391 t395 t399 bt407.1 bt411.1 true) else (if (t396 != t384) = true then (laws_FnDigitsTellNumbers.j0 k l1 t381 t382 t383 t384 t391 t395 t399 bt407.1 bt411.1 true) else (if (t400 != t384) = true then (laws_FnDigitsTellNumbers.j0 k l1 t381 t382 t383 t384 t391 t395 t399 bt407.1 bt411.1 true) else (if (bt407.2 != t384) = true then (laws_FnDigitsTellNumbers.j0 k l1 t381 t382 t383 t384 t391 t395 t399 bt407.1 bt411.1 true) else (laws_FnDigitsTellNumbers.j0 k l1 t381 t382 t383 t384 t391 t395 t399 bt407.1 bt411.1 (bt411.2 != t384)))))) else (laws_FnDigitsTellNumbers.j0 k l1 t381 t382 t383 t384 t391 t395 t399 bt407.1 bt411.1 true))) else (laws_FnDigitsTellNumbers.j0 k l1 t381 t382 t383 t384 t391 t395 t399 bt407.1 bt411.1 true))) else (laws_FnDigitsTellNumbers.j0 k l1 t381 t382 t383 t384 t391 t395 t399 bt407.1 bt411.1 true)))) else (laws_FnDigitsTellNumbers.j0 k l1 t381 t382 t383 t384 t391 t395 t399 bt407.1 bt411.1 true))) else (laws_FnDigitsTellNumbers.j0 k l1 t381 t382 t383 t384 t391 t395 t399 bt407.1 bt411.1 true))) else (laws_FnDigitsTellNumbers.j0 k l1 t381 t382 t383 t384 t391 t395 t399 bt407.1 bt411.1 true))))))))) = some r := H
    have A12 := Aside0.mk A120
    clear A120
    replace H := Option.bind_eq_some_iff.mp H
    obtain ⟨⟨t403, t404⟩, A130, H⟩ := H
    replace H : ((impl_DigitalRoot.f k t381 t382).bind fun bt407 => ((spec_DigitalRoot.f k t381 t382).bind fun bt409 => ((impl_NumberText.f k t381 t382).bind fun bt411 => ((spec_NumberText.f k t381 t382).bind fun bt413 => (if (t384 != t388) = true then (laws_FnDigitsTellNumbers.j0 k l1 t381 t382 t383 t384 t391 t395 t399 bt407.1 bt411.1 true) else ((laws_rSame.f k t383 t387).bind fun t415 => (if t415 = true then (if (t392 != t394) = true then (laws_FnDigitsTellNumbers.j0 k l1 t381 t382 t383 t384 t391 t395 t399 bt407.1 bt411.1 true) else (if t391 = t393 then (if (t396 != t398) = true then (laws_FnDigitsTellNumbers.j0 k l1 t381 t382 t383 t384 t391 t395 t399 bt407.1 bt411.1 true) else (if t395 = t397 then (if (t400 != t404) = true then (laws_FnDigitsTellNumbers.j0 k l1 t381 t382 t383 t384 t391 t395 t399 bt407.1 bt411.1 true) else ((laws_rSame.f k t399 t403).bind fun t416 => (if t416 = true then (if (bt407.2 != bt409.2) = true then (laws_FnDigitsTellNumbers.j0 k l1 t381 t382 t383 t384 t391 t395 t399 bt407.1 bt411.1 true) else (if bt407.1 = bt409.1 then (if (bt411.2 != bt413.2) = true then (laws_FnDigitsTellNumbers.j0 k l1 t381 t382 t383 t384 t391 t395 t399 bt407.1 bt411.1 true) else (if bt411.1.toList = bt413.1.toList then (if (t392 != t384) = true then (laws_FnDigitsTellNumbers.j0 k l1 t381 t382 t383 t384 t391 t395 t399 bt407.1 bt411.1 true) else (if (t396 != t384) = true then (laws_FnDigitsTellNumbers.j0 k l1 t381 t382 t383 t384 t391 t395 t399 bt407.1 bt411.1 true) else (if (t400 != t384) = true then (laws_FnDigitsTellNumbers.j0 k l1 t381 t382 t383 t384 t391 t395 t399 bt407.1 bt411.1 true) else (if (bt407.2 != t384) = true then (laws_FnDigitsTellNumbers.j0 k l1 t381 t382 t383 t384 t391 t395 t399 bt407.1 bt411.1 true) else (laws_FnDigitsTellNumbers.j0 k l1 t381 t382 t383 t384 t391 t395 t399 bt407.1 bt411.1 (bt411.2 != t384)))))) else (laws_FnDigitsTellNumbers.j0 k l1 t381 t382 t383 t384 t391 t395 t399 bt407.1 bt411.1 true))) else (laws_FnDigitsTellNumbers.j0 k l1 t381 t382 t383 t384 t391 t395 t399 bt407.1 bt411.1 true))) else (laws_FnDigitsTellNumbers.j0 k l1 t381 t382 t383 t384 t391 t395 t399 bt407.1 bt411.1 true)))) else (laws_FnDigitsTellNumbers.j0 k l1 t381 t382 t383 t384 t391 t395 t399 bt407.1 bt411.1 true))) else (laws_FnDigitsTellNumbers.j0 k l1 t381 t382 t383 t384 t391 t395 t399 bt407.1 bt411.1 true))) else (laws_FnDigitsTellNumbers.j0 k l1 t381 t382 t383 t384 t391 t395 t399 bt407.1 bt411.1 true)))))))) = some r := H
    have A13 := Aside0.mk A130
    clear A130
    replace H := Option.bind_eq_some_iff.mp H
    obtain ⟨⟨t407, t408⟩, A140, H⟩ := H
    replace H : ((spec_DigitalRoot.f k t381 t382).bind fun bt409 => ((impl_NumberText.f k t381 t382).bind fun bt411 => ((spec_NumberText.f k t381 t382).bind fun bt413 => (if (t384 != t388) = true then (laws_FnDigitsTellNumbers.j0 k l1 t381 t382 t383 t384 t391 t395 t399 t407 bt411.1 true) else ((laws_rSame.f k t383 t387).bind fun t415 => (if t415 = true then (if (t392 != t394) = true then (laws_FnDigitsTellNumbers.j0 k l1 t381 t382 t383 t384 t391 t395 t399 t407 bt411.1 true) else (if t391 = t393 then (if (t396 != t398) = true then (laws_FnDigitsTellNumbers.j0 k l1 t381 t382 t383 t384 t391 t395 t399 t407 bt411.1 true) else (if t395 = t397 then (if (t400 != t404) = true then (laws_FnDigitsTellNumbers.j0 k l1 t381 t382 t383 t384 t391 t395 t399 t407 bt411.1 true) else ((laws_rSame.f k t399 t403).bind fun t416 => (if t416 = true then (if (t408 != bt409.2) = true then (laws_FnDigitsTellNumbers.j0 k l1 t381 t382 t383 t384 t391 t395 t399 t407 bt411.1 true) else (if t407 = bt409.1 then (if (bt411.2 != bt413.2) = true then (laws_FnDigitsTellNumbers.j0 k l1 t381 t382 t383 t384 t391 t395 t399 t407 bt411.1 true) else (if bt411.1.toList = bt413.1.toList then (if (t392 != t384) = true then (laws_FnDigitsTellNumbers.j0 k l1 t381 t382 t383 t384 t391 t395 t399 t407 bt411.1 true) else (if (t396 != t384) = true then (laws_FnDigitsTellNumbers.j0 k l1 t381 t382 t383 t384 t391 t395 t399 t407 bt411.1 true) else (if (t400 != t384) = true then (laws_FnDigitsTellNumbers.j0 k l1 t381 t382 t383 t384 t391 t395 t399 t407 bt411.1 true) else (if (t408 != t384) = true then (laws_FnDigitsTellNumbers.j0 k l1 t381 t382 t383 t384 t391 t395 t399 t407 bt411.1 true) else (laws_FnDigitsTellNumbers.j0 k l1 t381 t382 t383 t384 t391 t395 t399 t407 bt411.1 (bt411.2 != t384)))))) else (laws_FnDigitsTellNumbers.j0 k l1 t381 t382 t383 t384 t391 t395 t399 t407 bt411.1 true))) else (laws_FnDigitsTellNumbers.j0 k l1 t381 t382 t383 t384 t391 t395 t399 t407 bt411.1 true))) else (laws_FnDigitsTellNumbers.j0 k l1 t381 t382 t383 t384 t391 t395 t399 t407 bt411.1 true)))) else (laws_FnDigitsTellNumbers.j0 k l1 t381 t382 t383 t384 t391 t395 t399 t407 bt411.1 true))) else (laws_FnDigitsTellNumbers.j0 k l1 t381 t382 t383 t384 t391 t395 t399 t407 bt411.1 true))) else (laws_FnDigitsTellNumbers.j0 k l1 t381 t382 t383 t384 t391 t395 t399 t407 bt411.1 true))))))) = some r := H
    have A14 := Aside0.mk A140
    clear A140
    replace H := Option.bind_eq_some_iff.mp H
    obtain ⟨⟨t409, t410⟩, A150, H⟩ := H
    replace H : ((impl_NumberText.f k t381 t382).bind fun bt411 => ((spec_NumberText.f k t381 t382).bind fun bt413 => (if (t384 != t388) = true then (laws_FnDigitsTellNumbers.j0 k l1 t381 t382 t383 t384 t391 t395 t399 t407 bt411.1 true) else ((laws_rSame.f k t383 t387).bind fun t415 => (if t415 = true then (if (t392 != t394) = true then (laws_FnDigitsTellNumbers.j0 k l1 t381 t382 t383 t384 t391 t395 t399 t407 bt411.1 true) else (if t391 = t393 then (if (t396 != t398) = true then (laws_FnDigitsTellNumbers.j0 k l1 t381 t382 t383 t384 t391 t395 t399 t407 bt411.1 true) else (if t395 = t397 then (if (t400 != t404) = true then (laws_FnDigitsTellNumbers.j0 k l1 t381 t382 t383 t384 t391 t395 t399 t407 bt411.1 true) else ((laws_rSame.f k t399 t403).bind fun t416 => (if t416 = true then (if (t408 != t410) = true then (laws_FnDigitsTellNumbers.j0 k l1 t381 t382 t383 t384 t391 t395 t399 t407 bt411.1 true) else (if t407 = t409 then (if (bt411.2 != bt413.2) = true then (laws_FnDigitsTellNumbers.j0 k l1 t381 t382 t383 t384 t391 t395 t399 t407 bt411.1 true) else (if bt411.1.toList = bt413.1.toList then (if (t392 != t384) = true then (laws_FnDigitsTellNumbers.j0 k l1 t381 t382 t383 t384 t391 t395 t399 t407 bt411.1 true) else (if (t396 != t384) = true then (laws_FnDigitsTellNumbers.j0 k l1 t381 t382 t383 t384 t391 t395 t399 t407 bt411.1 true) else (if (t400 != t384) = true then (laws_FnDigitsTellNumbers.j0 k l1 t381 t382 t383 t384 t391 t395 t399 t407 bt411.1 true) else (if (t408 != t384) = true then (laws_FnDigitsTellNumbers.j0 k l1 t381 t382 t383 t384 t391 t395 t399 t407 bt411.1 true) else (laws_FnDigitsTellNumbers.j0 k l1 t381 t382 t383 t384 t391 t395 t399 t407 bt411.1 (bt411.2 != t384)))))) else (laws_FnDigitsTellNumbers.j0 k l1 t381 t382 t383 t384 t391 t395 t399 t407 bt411.1 true))) else (laws_FnDigitsTellNumbers.j0 k l1 t381 t382 t383 t384 t391 t395 t399 t407 bt411.1 true))) else (laws_FnDigitsTellNumbers.j0 k l1 t381 t382 t383 t384 t391 t395 t399 t407 bt411.1 true)))) else (laws_FnDigitsTellNumbers.j0 k l1 t381 t382 t383 t384 t391 t395 t399 t407 bt411.1 true))) else (laws_FnDigitsTellNumbers.j0 k l1 t381 t382 t383 t384 t391 t395 t399 t407 bt411.1 true))) else (laws_FnDigitsTellNumbers.j0 k l1 t381 t382 t383 t384 t391 t395 t399 t407 bt411.1 true)))))) = some r := H
    have A15 := Aside0.mk A150
    clear A150
    replace H := Option.bind_eq_some_iff.mp H
    obtain ⟨⟨t411, t412⟩, A160, H⟩ := H
    replace H : ((spec_NumberText.f k t381 t382).bind fun bt413 => (if (t384 != t388) = true then (laws_FnDigitsTellNumbers.j0 k l1 t381 t382 t383 t384 t391 t395 t399 t407 t411 true) else ((laws_rSame.f k t383 t387).bind fun t415 => (if t415 = true then (if (t392 != t394) = true then (laws_FnDigitsTellNumbers.j0 k l1 t381 t382 t383 t384 t391 t395 t399 t407 t411 true) else (if t391 = t393 then (if (t396 != t398) = true then (laws_FnDigitsTellNumbers.j0 k l1 t381 t382 t383 t384 t391 t395 t399 t407 t411 true) else (if t395 = t397 then (if (t400 != t404) = true then (laws_FnDigitsTellNumbers.j0 k l1 t381 t382 t383 t384 t391 t395 t399 t407 t411 true) else ((laws_rSame.f k t399 t403).bind fun t416 => (if t416 = true then (if (t408 != t410) = true then (laws_FnDigitsTellNumbers.j0 k l1 t381 t382 t383 t384 t391 t395 t399 t407 t411 true) else (if t407 = t409 then (if (t412 != bt413.2) = true then (laws_FnDigitsTellNumbers.j0 k l1 t381 t382 t383 t384 t391 t395 t399 t407 t411 true) else (if t411.toList = bt413.1.toList then (if (t392 != t384) = true then (laws_FnDigitsTellNumbers.j0 k l1 t381 t382 t383 t384 t391 t395 t399 t407 t411 true) else (if (t396 != t384) = true then (laws_FnDigitsTellNumbers.j0 k l1 t381 t382 t383 t384 t391 t395 t399 t407 t411 true) else (if (t400 != t384) = true then (laws_FnDigitsTellNumbers.j0 k l1 t381 t382 t383 t384 t391 t395 t399 t407 t411 true) else (if (t408 != t384) = true then (laws_FnDigitsTellNumbers.j0 k l1 t381 t382 t383 t384 t391 t395 t399 t407 t411 true) else (laws_FnDigitsTellNumbers.j0 k l1 t381 t382 t383 t384 t391 t395 t399 t407 t411 (t412 != t384)))))) else (laws_FnDigitsTellNumbers.j0 k l1 t381 t382 t383 t384 t391 t395 t399 t407 t411 true))) else (laws_FnDigitsTellNumbers.j0 k l1 t381 t382 t383 t384 t391 t395 t399 t407 t411 true))) else (laws_FnDigitsTellNumbers.j0 k l1 t381 t382 t383 t384 t391 t395 t399 t407 t411 true)))) else (laws_FnDigitsTellNumbers.j0 k l1 t381 t382 t383 t384 t391 t395 t399 t407 t411 true))) else (laws_FnDigitsTellNumbers.j0 k l1 t381 t382 t383 t384 t391 t395 t399 t407 t411 true))) else (laws_FnDigitsTellNumbers.j0 k l1 t381 t382 t383 t384 t391 t395 t399 t407 t411 true))))) = some r := H
    have A16 := Aside0.mk A160
    clear A160
    replace H := Option.bind_eq_some_iff.mp H
    obtain ⟨⟨t413, t414⟩, A170, H⟩ := H
    replace H : (if (t384 != t388) = true then (laws_FnDigitsTellNumbers.j0 k l1 t381 t382 t383 t384 t391 t395 t399 t407 t411 true) else ((laws_rSame.f k t383 t387).bind fun t415 => (if t415 = true then (if (t392 != t394) = true then (laws_FnDigitsTellNumbers.j0 k l1 t381 t382 t383 t384 t391 t395 t399 t407 t411 true) else (if t391 = t393 then (if (t396 != t398) = true then (laws_FnDigitsTellNumbers.j0 k l1 t381 t382 t383 t384 t391 t395 t399 t407 t411 true) else (if t395 = t397 then (if (t400 != t404) = true then (laws_FnDigitsTellNumbers.j0 k l1 t381 t382 t383 t384 t391 t395 t399 t407 t411 true) else ((laws_rSame.f k t399 t403).bind fun t416 => (if t416 = true then (if (t408 != t410) = true then (laws_FnDigitsTellNumbers.j0 k l1 t381 t382 t383 t384 t391 t395 t399 t407 t411 true) else (if t407 = t409 then (if (t412 != t414) = true then (laws_FnDigitsTellNumbers.j0 k l1 t381 t382 t383 t384 t391 t395 t399 t407 t411 true) else (if t411.toList = t413.toList then (if (t392 != t384) = true then (laws_FnDigitsTellNumbers.j0 k l1 t381 t382 t383 t384 t391 t395 t399 t407 t411 true) else (if (t396 != t384) = true then (laws_FnDigitsTellNumbers.j0 k l1 t381 t382 t383 t384 t391 t395 t399 t407 t411 true) else (if (t400 != t384) = true then (laws_FnDigitsTellNumbers.j0 k l1 t381 t382 t383 t384 t391 t395 t399 t407 t411 true) else (if (t408 != t384) = true then (laws_FnDigitsTellNumbers.j0 k l1 t381 t382 t383 t384 t391 t395 t399 t407 t411 true) else (laws_FnDigitsTellNumbers.j0 k l1 t381 t382 t383 t384 t391 t395 t399 t407 t411 (t412 != t384)))))) else (laws_FnDigitsTellNumbers.j0 k l1 t381 t382 t383 t384 t391 t395 t399 t407 t411 true))) else (laws_FnDigitsTellNumbers.j0 k l1 t381 t382 t383 t384 t391 t395 t399 t407 t411 true))) else (laws_FnDigitsTellNumbers.j0 k l1 t381 t382 t383 t384 t391 t395 t399 t407 t411 true)))) else (laws_FnDigitsTellNumbers.j0 k l1 t381 t382 t383 t384 t391 t395 t399 t407 t411 true))) else (laws_FnDigitsTellNumbers.j0 k l1 t381 t382 t383 t384 t391 t395 t399 t407 t411 true))) else (laws_FnDigitsTellNumbers.j0 k l1 t381 t382 t383 t384 t391 t395 t399 t407 t411 true)))) = some r := H
    have A17 := Aside0.mk A170
    clear A170
    have HC18 := Aside0.mk H
    clear H
    go_enter Try.func7, Try.ntmps7
    go_upto_region 16 with (first | ((with_reducible refine gate_callee (f := 15) rfl ?_); refine goesL_ (some 62) rfl rfl Try.func15 (by kernel_rfl) rfl #[.slice A0 l0.length c0, .slice A1 l1.length c1] rfl (by (try simp only [List.map_toArray, List.map_cons, List.map_nil]); first | done | rfl | (simp only [List.length_drop, List.length_take]; rfl)) ?_; (with_reducible refine (laws_big.calls _ _ l0 _ _ l1 false _ ?side1 ?side2 ?side3 ?side4 A3.out).mono ?_); (case side1 => repeat (first | exact HR0.out | (with_reducible refine Kd.C_alloc ?_ _) | (with_reducible refine Kd.C_drewN ?_ _) | (with_reducible refine Kd.C_drew ?_))); (case side2 => exact HC0.out); (case side3 => repeat (first | exact HR1.out | (with_reducible refine Kd.C_alloc ?_ _) | (with_reducible refine Kd.C_drewN ?_ _) | (with_reducible refine Kd.C_drew ?_))); (case side4 => exact HC1.out); rintro e w' ⟨rfl, ⟨nd, rfl⟩⟩; refine ⟨_, rfl, ?_⟩) | ((with_reducible refine gate_callee (f := 70) rfl ?_); refine goesL_ (some 65) rfl rfl Try.func70 (by kernel_rfl) rfl #[.slice A0 l0.length c0] rfl (by (try simp only [List.map_toArray, List.map_cons, List.map_nil]); first | done | rfl | (simp only [List.length_drop, List.length_take]; rfl)) ?_; (with_reducible refine (spec_DrawDigitsOf.calls k _ _ l0 t381 t382 _ ?side1 ?side2 A5.out).mono ?_); (case side1 => repeat (first | exact HR0.out | (with_reducible refine Kd.C_alloc ?_ _) | (with_reducible refine Kd.C_drewN ?_ _) | (with_reducible refine Kd.C_drew ?_))); (case side2 => exact HC0.out); rintro e w19 ⟨rfl, hb⟩; refine ⟨_, rfl, ?_⟩; have n0_ := Aside0.mk (below_step (by repeat (first | (with_reducible first | exact HB.out | apply below_alloc | apply pw_below_drewN | apply below_drew1) | exact HB.out)) hb); clear HB; have HB := n0_; clear n0_; (try clear hb); (try clear hb2); (try clear hk); (try clear hi)) | ((with_reducible refine gate_callee (f := 71) rfl ?_); refine goesL_ (some 71) rfl rfl Try.func71 (by kernel_rfl) rfl #[.int .i64 t381, .int .i64 t382] rfl (by (try simp only [List.map_toArray, List.map_cons, List.map_nil]); first | done | rfl | (simp only [List.length_drop, List.length_take]; rfl)) ?_; (with_reducible refine (impl_DigitsOf.calls k t381 t382 t383 t384 _ A6.out).mono ?_); rintro e w20 ⟨v385, rfl, ho0, hb⟩; refine ⟨_, rfl, ?_⟩; have n0_ := Aside0.mk (Kd.R_lower ho0 (below_size (by repeat (first | (with_reducible first | exact HB.out | apply below_alloc | apply pw_below_drewN | apply below_drew1) | exact HB.out)))); have n1_ := Aside0.mk (below_step (by repeat (first | (with_reducible first | exact HB.out | apply below_alloc | apply pw_below_drewN | apply below_drew1) | exact HB.out)) hb); clear HB; have HO386 := n0_; have HB := n1_; clear n0_ n1_; (try clear hb); (try clear hb2); (try clear hk); (try clear hi); (try clear ho0)) | ((with_reducible refine gate_callee (f := 72) rfl ?_); refine goesL_ (some 77) rfl rfl Try.func72 (by kernel_rfl) rfl #[.int .i64 t381, .int .i64 t382] rfl (by (try simp only [List.map_toArray, List.map_cons, List.map_nil]); first | done | rfl | (simp only [List.length_drop, List.length_take]; rfl)) ?_; (with_reducible refine (spec_DigitsOf.calls k t381 t382 t387 t388 _ A7.out).mono ?_); rintro e w21 ⟨v389, rfl, ho0, hb⟩; refine ⟨_, rfl, ?_⟩; have n0_ := Aside0.mk (Kd.R_elder' (by (with_reducible repeat (first | apply Kd.R_alloc | apply Kd.R_drewN | apply Kd.R_drew)); exact HO386.out) (Kd.R_base ho0) hb); have n1_ := Aside0.mk (Kd.R_lower (Kd.R_new' ho0 (Kd.R_lt (by (with_reducible repeat (first | apply Kd.R_alloc | apply Kd.R_drewN | apply Kd.R_drew)); exact HO386.out))) (below_size (by repeat (first | (with_reducible first | exact HB.out | apply below_alloc | apply pw_below_drewN | apply below_drew1) | exact HB.out)))); have n2_ := Aside0.mk (below_step (by repeat (first | (with_reducible first | exact HB.out | apply below_alloc | apply pw_below_drewN | apply below_drew1) | exact HB.out)) hb); clear HO386; clear HB; have HO386 := n0_; have HO390 := n1_; have HB := n2_; clear n0_ n1_ n2_; (try clear hb); (try clear hb2); (try clear hk); (try clear hi); (try clear ho0)) | ((with_reducible refine gate_callee (f := 73) rfl ?_); refine goesL_ (some 83) rfl rfl Try.func73 (by kernel_rfl) rfl #[.int .i64 t381, .int .i64 t382] rfl (by (try simp only [List.map_toArray, List.map_cons, List.map_nil]); first | done | rfl | (simp only [List.length_drop, List.length_take]; rfl)) ?_; (with_reducible refine (impl_DigitSum.calls k t381 t382 t391 t392 _ A8.out).mono ?_); rintro e w22 ⟨rfl, hb⟩; refine ⟨_, rfl, ?_⟩; have n0_ := Aside0.mk (Kd.R_below (by (with_reducible repeat (first | apply Kd.R_alloc | apply Kd.R_drewN | apply Kd.R_drew)); exact HO386.out) hb); have n1_ := Aside0.mk (Kd.R_below (by (with_reducible repeat (first | apply Kd.R_alloc | apply Kd.R_drewN | apply Kd.R_drew)); exact HO390.out) hb); have n2_ := Aside0.mk (below_step (by repeat (first | (with_reducible first | exact HB.out | apply below_alloc | apply pw_below_drewN | apply below_drew1) | exact HB.out)) hb); clear HO386; clear HO390; clear HB; have HO386 := n0_; have HO390 := n1_; have HB := n2_; clear n0_ n1_ n2_; (try clear hb); (try clear hb2); (try clear hk); (try clear hi)) | ((with_reducible refine gate_callee (f := 74) rfl ?_); refine goesL_ (some 89) rfl rfl Try.func74 (by kernel_rfl) rfl #[.int .i64 t381, .int .i64 t382] rfl (by (try simp only [List.map_toArray, List.map_cons, List.map_nil]); first | done | rfl | (simp only [List.length_drop, List.length_take]; rfl)) ?_; (with_reducible refine (spec_DigitSum.calls k t381 t382 t393 t394 _ A9.out).mono ?_); rintro e w23 ⟨rfl, hb⟩; refine ⟨_, rfl, ?_⟩; have n0_ := Aside0.mk (Kd.R_below (by (with_reducible repeat (first | apply Kd.R_alloc | apply Kd.R_drewN | apply Kd.R_drew)); exact HO386.out) hb); have n1_ := Aside0.mk (Kd.R_below (by (with_reducible repeat (first | apply Kd.R_alloc | apply Kd.R_drewN | apply Kd.R_drew)); exact HO390.out) hb); have n2_ := Aside0.mk (below_step (by repeat (first | (with_reducible first | exact HB.out | apply below_alloc | apply pw_below_drewN | apply below_drew1) | exact HB.out)) hb); clear HO386; clear HO390; clear HB; have HO386 := n0_; have HO390 := n1_; have HB := n2_; clear n0_ n1_ n2_; (try clear hb); (try clear hb2); (try clear hk); (try clear hi)) | ((with_reducible refine gate_callee (f := 75) rfl ?_); refine goesL_ (some 95) rfl rfl Try.func75 (by kernel_rfl) rfl #[.int .i64 t381, .int .i64 t382] rfl (by (try simp only [List.map_toArray, List.map_cons, List.map_nil]); first | done | rfl | (simp only [List.length_drop, List.length_take]; rfl)) ?_; (with_reducible refine (impl_DigitProduct.calls k t381 t382 t395 t396 _ A10.out).mono ?_); rintro e w24 ⟨rfl, hb⟩; refine ⟨_, rfl, ?_⟩; have n0_ := Aside0.mk (Kd.R_below (by (with_reducible repeat (first | apply Kd.R_alloc | apply Kd.R_drewN | apply Kd.R_drew)); exact HO386.out) hb); have n1_ := Aside0.mk (Kd.R_below (by (with_reducible repeat (first | apply Kd.R_alloc | apply Kd.R_drewN | apply Kd.R_drew)); exact HO390.out) hb); have n2_ := Aside0.mk (below_step (by repeat (first | (with_reducible first | exact HB.out | apply below_alloc | apply pw_below_drewN | apply below_drew1) | exact HB.out)) hb); clear HO386; clear HO390; clear HB; have HO386 := n0_; have HO390 := n1_; have HB := n2_; clear n0_ n1_ n2_; (try clear hb); (try clear hb2); (try clear hk); (try clear hi)) | ((with_reducible refine gate_callee (f := 76) rfl ?_); refine goesL_ (some 101) rfl rfl Try.func76 (by kernel_rfl) rfl #[.int .i64 t381, .int .i64 t382] rfl (by (try simp only [List.map_toArray, List.map_cons, List.map_nil]); first | done | rfl | (simp only [List.length_drop, List.length_take]; rfl)) ?_; (with_reducible refine (spec_DigitProduct.calls k t381 t382 t397 t398 _ A11.out).mono ?_); rintro e w25 ⟨rfl, hb⟩; refine ⟨_, rfl, ?_⟩; have n0_ := Aside0.mk (Kd.R_below (by (with_reducible repeat (first | apply Kd.R_alloc | apply Kd.R_drewN | apply Kd.R_drew)); exact HO386.out) hb); have n1_ := Aside0.mk (Kd.R_below (by (with_reducible repeat (first | apply Kd.R_alloc | apply Kd.R_drewN | apply Kd.R_drew)); exact HO390.out) hb); have n2_ := Aside0.mk (below_step (by repeat (first | (with_reducible first | exact HB.out | apply below_alloc | apply pw_below_drewN | apply below_drew1) | exact HB.out)) hb); clear HO386; clear HO390; clear HB; have HO386 := n0_; have HO390 := n1_; have HB := n2_; clear n0_ n1_ n2_; (try clear hb); (try clear hb2); (try clear hk); (try clear hi)) | ((with_reducible refine gate_callee (f := 77) rfl ?_); refine goesL_ (some 107) rfl rfl Try.func77 (by kernel_rfl) rfl #[.int .i64 t381, .int .i64 t382] rfl (by (try simp only [List.map_toArray, List.map_cons, List.map_nil]); first | done | rfl | (simp only [List.length_drop, List.length_take]; rfl)) ?_; (with_reducible refine (impl_DigitCounts.calls k t381 t382 t399 t400 _ A12.out).mono ?_); rintro e w26 ⟨v401, rfl, ho0, hb⟩; refine ⟨_, rfl, ?_⟩; have n0_ := Aside0.mk (Kd.R_elder' (by (with_reducible repeat (first | apply Kd.R_alloc | apply Kd.R_drewN | apply Kd.R_drew)); exact HO386.out) (Kd.R_base ho0) hb); have n1_ := Aside0.mk (Kd.R_elder' (by (with_reducible repeat (first | apply Kd.R_alloc | apply Kd.R_drewN | apply Kd.R_drew)); exact HO390.out) (Kd.R_base ho0) hb); have n2_ := Aside0.mk (Kd.R_lower (Kd.R_new' (Kd.R_new' ho0 (Kd.R_lt (by (with_reducible repeat (first | apply Kd.R_alloc | apply Kd.R_drewN | apply Kd.R_drew)); exact HO386.out))) (Kd.R_lt (by (with_reducible repeat (first | apply Kd.R_alloc | apply Kd.R_drewN | apply Kd.R_drew)); exact HO390.out))) (below_size (by repeat (first | (with_reducible first | exact HB.out | apply below_alloc | apply pw_below_drewN | apply below_drew1) | exact HB.out)))); have n3_ := Aside0.mk (below_step (by repeat (first | (with_reducible first | exact HB.out | apply below_alloc | apply pw_below_drewN | apply below_drew1) | exact HB.out)) hb); clear HO386; clear HO390; clear HB; have HO386 := n0_; have HO390 := n1_; have HO402 := n2_; have HB := n3_; clear n0_ n1_ n2_ n3_; (try clear hb); (try clear hb2); (try clear hk); (try clear hi); (try clear ho0)) | ((with_reducible refine gate_callee (f := 78) rfl ?_); refine goesL_ (some 113) rfl rfl Try.func78 (by kernel_rfl) rfl #[.int .i64 t381, .int .i64 t382] rfl (by (try simp only [List.map_toArray, List.map_cons, List.map_nil]); first | done | rfl | (simp only [List.length_drop, List.length_take]; rfl)) ?_; (with_reducible refine (spec_DigitCounts.calls k t381 t382 t403 t404 _ A13.out).mono ?_); rintro e w27 ⟨v405, rfl, ho0, hb⟩; refine ⟨_, rfl, ?_⟩; have n0_ := Aside0.mk (Kd.R_elder' (by (with_reducible repeat (first | apply Kd.R_alloc | apply Kd.R_drewN | apply Kd.R_drew)); exact HO386.out) (Kd.R_base ho0) hb); have n1_ := Aside0.mk (Kd.R_elder' (by (with_reducible repeat (first | apply Kd.R_alloc | apply Kd.R_drewN | apply Kd.R_drew)); exact HO390.out) (Kd.R_base ho0) hb); have n2_ := Aside0.mk (Kd.R_elder' (by (with_reducible repeat (first | apply Kd.R_alloc | apply Kd.R_drewN | apply Kd.R_drew)); exact HO402.out) (Kd.R_base ho0) hb); have n3_ := Aside0.mk (Kd.R_lower (Kd.R_new' (Kd.R_new' (Kd.R_new' ho0 (Kd.R_lt (by (with_reducible repeat (first | apply Kd.R_alloc | apply Kd.R_drewN | apply Kd.R_drew)); exact HO386.out))) (Kd.R_lt (by (with_reducible repeat (first | apply Kd.R_alloc | apply Kd.R_drewN | apply Kd.R_drew)); exact HO390.out))) (Kd.R_lt (by (with_reducible repeat (first | apply Kd.R_alloc | apply Kd.R_drewN | apply Kd.R_drew)); exact HO402.out))) (below_size (by repeat (first | (with_reducible first | exact HB.out | apply below_alloc | apply pw_below_drewN | apply below_drew1) | exact HB.out)))); have n4_ := Aside0.mk (below_step (by repeat (first | (with_reducible first | exact HB.out | apply below_alloc | apply pw_below_drewN | apply below_drew1) | exact HB.out)) hb); clear HO386; clear HO390; clear HO402; clear HB; have HO386 := n0_; have HO390 := n1_; have HO402 := n2_; have HO406 := n3_; have HB := n4_; clear n0_ n1_ n2_ n3_ n4_; (try clear hb); (try clear hb2); (try clear hk); (try clear hi); (try clear ho0)) | ((with_reducible refine gate_callee (f := 79) rfl ?_); refine goesL_ (some 119) rfl rfl Try.func79 (by kernel_rfl) rfl #[.int .i64 t381, .int .i64 t382] rfl (by (try simp only [List.map_toArray, List.map_cons, List.map_nil]); first | done | rfl | (simp only [List.length_drop, List.length_take]; rfl)) ?_; (with_reducible refine (impl_DigitalRoot.calls k t381 t382 t407 t408 _ A14.out).mono ?_); rintro e w28 ⟨rfl, hb⟩; refine ⟨_, rfl, ?_⟩; have n0_ := Aside0.mk (Kd.R_below (by (with_reducible repeat (first | apply Kd.R_alloc | apply Kd.R_drewN | apply Kd.R_drew)); exact HO386.out) hb); have n1_ := Aside0.mk (Kd.R_below (by (with_reducible repeat (first | apply Kd.R_alloc | apply Kd.R_drewN | apply Kd.R_drew)); exact HO390.out) hb); have n2_ := Aside0.mk (Kd.R_below (by (with_reducible repeat (first | apply Kd.R_alloc | apply Kd.R_drewN | apply Kd.R_drew)); exact HO402.out) hb); have n3_ := Aside0.mk (Kd.R_below (by (with_reducible repeat (first | apply Kd.R_alloc | apply Kd.R_drewN | apply Kd.R_drew)); exact HO406.out) hb); have n4_ := Aside0.mk (below_step (by repeat (first | (with_reducible first | exact HB.out | apply below_alloc | apply pw_below_drewN | apply below_drew1) | exact HB.out)) hb); clear HO386; clear HO390; clear HO402; clear HO406; clear HB; have HO386 := n0_; have HO390 := n1_; have HO402 := n2_; have HO406 := n3_; have HB := n4_; clear n0_ n1_ n2_ n3_ n4_; (try clear hb); (try clear hb2); (try clear hk); (try clear hi)) | ((with_reducible refine gate_callee (f := 80) rfl ?_); refine goesL_ (some 125) rfl rfl Try.func80 (by kernel_rfl) rfl #[.int .i64 t381, .int .i64 t382] rfl (by (try simp only [List.map_toArray, List.map_cons, List.map_nil]); first | done | rfl | (simp only [List.length_drop, List.length_take]; rfl)) ?_; (with_reducible refine (spec_DigitalRoot.calls k t381 t382 t409 t410 _ A15.out).mono ?_); rintro e w29 ⟨rfl, hb⟩; refine ⟨_, rfl, ?_⟩; have n0_ := Aside0.mk (Kd.R_below (by (with_reducible repeat (first | apply Kd.R_alloc | apply Kd.R_drewN | apply Kd.R_drew)); exact HO386.out) hb); have n1_ := Aside0.mk (Kd.R_below (by (with_reducible repeat (first | apply Kd.R_alloc | apply Kd.R_drewN | apply Kd.R_drew)); exact HO390.out) hb); have n2_ := Aside0.mk (Kd.R_below (by (with_reducible repeat (first | apply Kd.R_alloc | apply Kd.R_drewN | apply Kd.R_drew)); exact HO402.out) hb); have n3_ := Aside0.mk (Kd.R_below (by (with_reducible repeat (first | apply Kd.R_alloc | apply Kd.R_drewN | apply Kd.R_drew)); exact HO406.out) hb); have n4_ := Aside0.mk (below_step (by repeat (first | (with_reducible first | exact HB.out | apply below_alloc | apply pw_below_drewN | apply below_drew1) | exact HB.out)) hb); clear HO386; clear HO390; clear HO402; clear HO406; clear HB; have HO386 := n0_; have HO390 := n1_; have HO402 := n2_; have HO406 := n3_; have HB := n4_; clear n0_ n1_ n2_ n3_ n4_; (try clear hb); (try clear hb2); (try clear hk); (try clear hi)) | ((with_reducible refine gate_callee (f := 81) rfl ?_); refine goesL_ (some 131) rfl rfl Try.func81 (by kernel_rfl) rfl #[.int .i64 t381, .int .i64 t382] rfl (by (try simp only [List.map_toArray, List.map_cons, List.map_nil]); first | done | rfl | (simp only [List.length_drop, List.length_take]; rfl)) ?_; (with_reducible refine (impl_NumberText.calls k t381 t382 t411 t412 _ A16.out).mono ?_); rintro e w30 ⟨rfl, hb⟩; refine ⟨_, rfl, ?_⟩; have n0_ := Aside0.mk (Kd.R_below (by (with_reducible repeat (first | apply Kd.R_alloc | apply Kd.R_drewN | apply Kd.R_drew)); exact HO386.out) hb); have n1_ := Aside0.mk (Kd.R_below (by (with_reducible repeat (first | apply Kd.R_alloc | apply Kd.R_drewN | apply Kd.R_drew)); exact HO390.out) hb); have n2_ := Aside0.mk (Kd.R_below (by (with_reducible repeat (first | apply Kd.R_alloc | apply Kd.R_drewN | apply Kd.R_drew)); exact HO402.out) hb); have n3_ := Aside0.mk (Kd.R_below (by (with_reducible repeat (first | apply Kd.R_alloc | apply Kd.R_drewN | apply Kd.R_drew)); exact HO406.out) hb); have n4_ := Aside0.mk (below_step (by repeat (first | (with_reducible first | exact HB.out | apply below_alloc | apply pw_below_drewN | apply below_drew1) | exact HB.out)) hb); clear HO386; clear HO390; clear HO402; clear HO406; clear HB; have HO386 := n0_; have HO390 := n1_; have HO402 := n2_; have HO406 := n3_; have HB := n4_; clear n0_ n1_ n2_ n3_ n4_; (try clear hb); (try clear hb2); (try clear hk); (try clear hi)) | ((with_reducible refine gate_callee (f := 82) rfl ?_); refine goesL_ (some 137) rfl rfl Try.func82 (by kernel_rfl) rfl #[.int .i64 t381, .int .i64 t382] rfl (by (try simp only [List.map_toArray, List.map_cons, List.map_nil]); first | done | rfl | (simp only [List.length_drop, List.length_take]; rfl)) ?_; (with_reducible refine (spec_NumberText.calls k t381 t382 t413 t414 _ A17.out).mono ?_); rintro e w31 ⟨rfl, hb⟩; refine ⟨_, rfl, ?_⟩; have n0_ := Aside0.mk (Kd.R_below (by (with_reducible repeat (first | apply Kd.R_alloc | apply Kd.R_drewN | apply Kd.R_drew)); exact HO386.out) hb); have n1_ := Aside0.mk (Kd.R_below (by (with_reducible repeat (first | apply Kd.R_alloc | apply Kd.R_drewN | apply Kd.R_drew)); exact HO390.out) hb); have n2_ := Aside0.mk (Kd.R_below (by (with_reducible repeat (first | apply Kd.R_alloc | apply Kd.R_drewN | apply Kd.R_drew)); exact HO402.out) hb); have n3_ := Aside0.mk (Kd.R_below (by (with_reducible repeat (first | apply Kd.R_alloc | apply Kd.R_drewN | apply Kd.R_drew)); exact HO406.out) hb); have n4_ := Aside0.mk (below_step (by repeat (first | (with_reducible first | exact HB.out | apply below_alloc | apply pw_below_drewN | apply below_drew1) | exact HB.out)) hb); clear HO386; clear HO390; clear HO402; clear HO406; clear HB; have HO386 := n0_; have HO390 := n1_; have HO402 := n2_; have HO406 := n3_; have HB := n4_; clear n0_ n1_ n2_ n3_ n4_; (try clear hb); (try clear hb2); (try clear hk); (try clear hi)))
    (try simp only [Act.put, List.setIfInBounds_toArray, List.set_cons_zero, List.set_cons_succ])
    go_cut [224] (fun v224 wc => ∃ (kq : Nat) (x224_17 : Bool), v224 = .bool x224_17 ∧ Aside0 (laws_FnDigitsTellNumbers.j0 kq l1 t381 t382 t383 t384 t391 t395 t399 t407 t411 x224_17 = some r) ∧ Aside0 (kq ≤ k) ∧ Aside0 (Kd.R (Kd.int .i64) 3 wc w.heap.size (fun k_ => some k_ ≠ (v401 : Value).ownBlock) v385 t383) ∧ Aside0 (Kd.R (Kd.int .i64) 3 wc w.heap.size (fun k_ => some k_ ≠ (v385 : Value).ownBlock) v401 t399) ∧ Aside0 (Below w.heap.size w wc))
    case first =>
      as_aux_lemma =>
      have H := HC18.out
      clear HC18
      by_cases c32 : (t384 != t388) = true
      · rw [if_pos c32] at H
        have c32b0 : (t384 != t388) = true := c32
        (try (have c32b1 : decide (t384 = t388) = false := by simpa using c32))
        (try (have c32b2 : (t384 == t388) = false := by simpa using c32))
        (try (have c32b3 : ¬ (t384 = t388) := by simpa using c32))
        clear c32
        (first | rw [c32b0] | (simp only [i64_w, i32_w]; rw [c32b0]) | skip)
        exact (laws_FnDigitsTellNumbers.j0_no HR_.out _ _ _ _ _ _ _ _ _ _ _ H).elim
      · rw [if_neg c32] at H
        have c32b0 : (t384 != t388) = false := by simpa using c32
        (try (have c32b1 : decide (t384 = t388) = true := by simpa using c32))
        (try (have c32b2 : (t384 == t388) = true := by simpa using c32))
        clear c32
        (first | rw [c32b0] | (simp only [i64_w, i32_w]; rw [c32b0]) | skip)
        replace H := Option.bind_eq_some_iff.mp H
        obtain ⟨t415, A330, H⟩ := H
        replace H : (if t415 = true then (if (t392 != t394) = true then (laws_FnDigitsTellNumbers.j0 k l1 t381 t382 t383 t384 t391 t395 t399 t407 t411 true) else (if t391 = t393 then (if (t396 != t398) = true then (laws_FnDigitsTellNumbers.j0 k l1 t381 t382 t383 t384 t391 t395 t399 t407 t411 true) else (if t395 = t397 then (if (t400 != t404) = true then (laws_FnDigitsTellNumbers.j0 k l1 t381 t382 t383 t384 t391 t395 t399 t407 t411 true) else ((laws_rSame.f k t399 t403).bind fun t416 => (if t416 = true then (if (t408 != t410) = true then (laws_FnDigitsTellNumbers.j0 k l1 t381 t382 t383 t384 t391 t395 t399 t407 t411 true) else (if t407 = t409 then (if (t412 != t414) = true then (laws_FnDigitsTellNumbers.j0 k l1 t381 t382 t383 t384 t391 t395 t399 t407 t411 true) else (if t411.toList = t413.toList then (if (t392 != t384) = true then (laws_FnDigitsTellNumbers.j0 k l1 t381 t382 t383 t384 t391 t395 t399 t407 t411 true) else (if (t396 != t384) = true then (laws_FnDigitsTellNumbers.j0 k l1 t381 t382 t383 t384 t391 t395 t399 t407 t411 true) else (if (t400 != t384) = true then (laws_FnDigitsTellNumbers.j0 k l1 t381 t382 t383 t384 t391 t395 t399 t407 t411 true) else (if (t408 != t384) = true then (laws_FnDigitsTellNumbers.j0 k l1 t381 t382 t383 t384 t391 t395 t399 t407 t411 true) else (laws_FnDigitsTellNumbers.j0 k l1 t381 t382 t383 t384 t391 t395 t399 t407 t411 (t412 != t384)))))) else (laws_FnDigitsTellNumbers.j0 k l1 t381 t382 t383 t384 t391 t395 t399 t407 t411 true))) else (laws_FnDigitsTellNumbers.j0 k l1 t381 t382 t383 t384 t391 t395 t399 t407 t411 true))) else (laws_FnDigitsTellNumbers.j0 k l1 t381 t382 t383 t384 t391 t395 t399 t407 t411 true)))) else (laws_FnDigitsTellNumbers.j0 k l1 t381 t382 t383 t384 t391 t395 t399 t407 t411 true))) else (laws_FnDigitsTellNumbers.j0 k l1 t381 t382 t383 t384 t391 t395 t399 t407 t411 true))) else (laws_FnDigitsTellNumbers.j0 k l1 t381 t382 t383 t384 t391 t395 t399 t407 t411 true)) = some r := H
        have A33 := Aside0.mk A330
        clear A330
        by_cases c34 : t415 = true
        · subst c34
          have H1 : (if (t392 != t394) = true then (laws_FnDigitsTellNumbers.j0 k l1 t381 t382 t383 t384 t391 t395 t399 t407 t411 true) else (if t391 = t393 then (if (t396 != t398) = true then (laws_FnDigitsTellNumbers.j0 k l1 t381 t382 t383 t384 t391 t395 t399 t407 t411 true) else (if t395 = t397 then (if (t400 != t404) = true then (laws_FnDigitsTellNumbers.j0 k l1 t381 t382 t383 t384 t391 t395 t399 t407 t411 true) else ((laws_rSame.f k t399 t403).bind fun t416 => (if t416 = true then (if (t408 != t410) = true then (laws_FnDigitsTellNumbers.j0 k l1 t381 t382 t383 t384 t391 t395 t399 t407 t411 true) else (if t407 = t409 then (if (t412 != t414) = true then (laws_FnDigitsTellNumbers.j0 k l1 t381 t382 t383 t384 t391 t395 t399 t407 t411 true) else (if t411.toList = t413.toList then (if (t392 != t384) = true then (laws_FnDigitsTellNumbers.j0 k l1 t381 t382 t383 t384 t391 t395 t399 t407 t411 true) else (if (t396 != t384) = true then (laws_FnDigitsTellNumbers.j0 k l1 t381 t382 t383 t384 t391 t395 t399 t407 t411 true) else (if (t400 != t384) = true then (laws_FnDigitsTellNumbers.j0 k l1 t381 t382 t383 t384 t391 t395 t399 t407 t411 true) else (if (t408 != t384) = true then (laws_FnDigitsTellNumbers.j0 k l1 t381 t382 t383 t384 t391 t395 t399 t407 t411 true) else (laws_FnDigitsTellNumbers.j0 k l1 t381 t382 t383 t384 t391 t395 t399 t407 t411 (t412 != t384)))))) else (laws_FnDigitsTellNumbers.j0 k l1 t381 t382 t383 t384 t391 t395 t399 t407 t411 true))) else (laws_FnDigitsTellNumbers.j0 k l1 t381 t382 t383 t384 t391 t395 t399 t407 t411 true))) else (laws_FnDigitsTellNumbers.j0 k l1 t381 t382 t383 t384 t391 t395 t399 t407 t411 true)))) else (laws_FnDigitsTellNumbers.j0 k l1 t381 t382 t383 t384 t391 t395 t399 t407 t411 true))) else (laws_FnDigitsTellNumbers.j0 k l1 t381 t382 t383 t384 t391 t395 t399 t407 t411 true))) = some r := by rw [if_pos rfl] at H; exact H
          clear H
          have H := H1
          clear H1
          by_cases c35 : (t392 != t394) = true
          · rw [if_pos c35] at H
            have c35b0 : (t392 != t394) = true := c35
            (try (have c35b1 : decide (t392 = t394) = false := by simpa using c35))
            (try (have c35b2 : (t392 == t394) = false := by simpa using c35))
            (try (have c35b3 : ¬ (t392 = t394) := by simpa using c35))
            clear c35
            exact (laws_FnDigitsTellNumbers.j0_no HR_.out _ _ _ _ _ _ _ _ _ _ _ H).elim
          · rw [if_neg c35] at H
            have c35b0 : (t392 != t394) = false := by simpa using c35
            (try (have c35b1 : decide (t392 = t394) = true := by simpa using c35))
            (try (have c35b2 : (t392 == t394) = true := by simpa using c35))
            clear c35
            by_cases c36 : t391 = t393
            · rw [if_pos c36] at H
              have c36b0 : (t391 == t393) = true := beq_iff_eq.mpr c36
              have c36b1 : (t391 != t393) = false := bne_eq_false_iff_eq.mpr c36
              clear c36
              by_cases c37 : (t396 != t398) = true
              · rw [if_pos c37] at H
                have c37b0 : (t396 != t398) = true := c37
                (try (have c37b1 : decide (t396 = t398) = false := by simpa using c37))
                (try (have c37b2 : (t396 == t398) = false := by simpa using c37))
                (try (have c37b3 : ¬ (t396 = t398) := by simpa using c37))
                clear c37
                exact (laws_FnDigitsTellNumbers.j0_no HR_.out _ _ _ _ _ _ _ _ _ _ _ H).elim
              · rw [if_neg c37] at H
                have c37b0 : (t396 != t398) = false := by simpa using c37
                (try (have c37b1 : decide (t396 = t398) = true := by simpa using c37))
                (try (have c37b2 : (t396 == t398) = true := by simpa using c37))
                clear c37
                by_cases c38 : t395 = t397
                · rw [if_pos c38] at H
                  have c38b0 : (t395 == t397) = true := beq_iff_eq.mpr c38
                  have c38b1 : (t395 != t397) = false := bne_eq_false_iff_eq.mpr c38
                  clear c38
                  by_cases c39 : (t400 != t404) = true
                  · rw [if_pos c39] at H
                    have c39b0 : (t400 != t404) = true := c39
                    (try (have c39b1 : decide (t400 = t404) = false := by simpa using c39))
                    (try (have c39b2 : (t400 == t404) = false := by simpa using c39))
                    (try (have c39b3 : ¬ (t400 = t404) := by simpa using c39))
                    clear c39
                    exact (laws_FnDigitsTellNumbers.j0_no HR_.out _ _ _ _ _ _ _ _ _ _ _ H).elim
                  · rw [if_neg c39] at H
                    have c39b0 : (t400 != t404) = false := by simpa using c39
                    (try (have c39b1 : decide (t400 = t404) = true := by simpa using c39))
                    (try (have c39b2 : (t400 == t404) = true := by simpa using c39))
                    clear c39
                    replace H := Option.bind_eq_some_iff.mp H
                    obtain ⟨t416, A400, H⟩ := H
                    replace H : (if t416 = true then (if (t408 != t410) = true then (laws_FnDigitsTellNumbers.j0 k l1 t381 t382 t383 t384 t391 t395 t399 t407 t411 true) else (if t407 = t409 then (if (t412 != t414) = true then (laws_FnDigitsTellNumbers.j0 k l1 t381 t382 t383 t384 t391 t395 t399 t407 t411 true) else (if t411.toList = t413.toList then (if (t392 != t384) = true then (laws_FnDigitsTellNumbers.j0 k l1 t381 t382 t383 t384 t391 t395 t399 t407 t411 true) else (if (t396 != t384) = true then (laws_FnDigitsTellNumbers.j0 k l1 t381 t382 t383 t384 t391 t395 t399 t407 t411 true) else (if (t400 != t384) = true then (laws_FnDigitsTellNumbers.j0 k l1 t381 t382 t383 t384 t391 t395 t399 t407 t411 true) else (if (t408 != t384) = true then (laws_FnDigitsTellNumbers.j0 k l1 t381 t382 t383 t384 t391 t395 t399 t407 t411 true) else (laws_FnDigitsTellNumbers.j0 k l1 t381 t382 t383 t384 t391 t395 t399 t407 t411 (t412 != t384)))))) else (laws_FnDigitsTellNumbers.j0 k l1 t381 t382 t383 t384 t391 t395 t399 t407 t411 true))) else (laws_FnDigitsTellNumbers.j0 k l1 t381 t382 t383 t384 t391 t395 t399 t407 t411 true))) else (laws_FnDigitsTellNumbers.j0 k l1 t381 t382 t383 t384 t391 t395 t399 t407 t411 true)) = some r := H
                    have A40 := Aside0.mk A400
                    clear A400
                    by_cases c41 : t416 = true
                    · subst c41
                      have H1 : (if (t408 != t410) = true then (laws_FnDigitsTellNumbers.j0 k l1 t381 t382 t383 t384 t391 t395 t399 t407 t411 true) else (if t407 = t409 then (if (t412 != t414) = true then (laws_FnDigitsTellNumbers.j0 k l1 t381 t382 t383 t384 t391 t395 t399 t407 t411 true) else (if t411.toList = t413.toList then (if (t392 != t384) = true then (laws_FnDigitsTellNumbers.j0 k l1 t381 t382 t383 t384 t391 t395 t399 t407 t411 true) else (if (t396 != t384) = true then (laws_FnDigitsTellNumbers.j0 k l1 t381 t382 t383 t384 t391 t395 t399 t407 t411 true) else (if (t400 != t384) = true then (laws_FnDigitsTellNumbers.j0 k l1 t381 t382 t383 t384 t391 t395 t399 t407 t411 true) else (if (t408 != t384) = true then (laws_FnDigitsTellNumbers.j0 k l1 t381 t382 t383 t384 t391 t395 t399 t407 t411 true) else (laws_FnDigitsTellNumbers.j0 k l1 t381 t382 t383 t384 t391 t395 t399 t407 t411 (t412 != t384)))))) else (laws_FnDigitsTellNumbers.j0 k l1 t381 t382 t383 t384 t391 t395 t399 t407 t411 true))) else (laws_FnDigitsTellNumbers.j0 k l1 t381 t382 t383 t384 t391 t395 t399 t407 t411 true))) = some r := by rw [if_pos rfl] at H; exact H
                      clear H
                      have H := H1
                      clear H1
                      by_cases c42 : (t408 != t410) = true
                      · rw [if_pos c42] at H
                        have c42b0 : (t408 != t410) = true := c42
                        (try (have c42b1 : decide (t408 = t410) = false := by simpa using c42))
                        (try (have c42b2 : (t408 == t410) = false := by simpa using c42))
                        (try (have c42b3 : ¬ (t408 = t410) := by simpa using c42))
                        clear c42
                        exact (laws_FnDigitsTellNumbers.j0_no HR_.out _ _ _ _ _ _ _ _ _ _ _ H).elim
                      · rw [if_neg c42] at H
                        have c42b0 : (t408 != t410) = false := by simpa using c42
                        (try (have c42b1 : decide (t408 = t410) = true := by simpa using c42))
                        (try (have c42b2 : (t408 == t410) = true := by simpa using c42))
                        clear c42
                        by_cases c43 : t407 = t409
                        · rw [if_pos c43] at H
                          have c43b0 : (t407 == t409) = true := beq_iff_eq.mpr c43
                          have c43b1 : (t407 != t409) = false := bne_eq_false_iff_eq.mpr c43
                          clear c43
                          by_cases c44 : (t412 != t414) = true
                          · rw [if_pos c44] at H
                            have c44b0 : (t412 != t414) = true := c44
                            (try (have c44b1 : decide (t412 = t414) = false := by simpa using c44))
                            (try (have c44b2 : (t412 == t414) = false := by simpa using c44))
                            (try (have c44b3 : ¬ (t412 = t414) := by simpa using c44))
                            clear c44
                            exact (laws_FnDigitsTellNumbers.j0_no HR_.out _ _ _ _ _ _ _ _ _ _ _ H).elim
                          · rw [if_neg c44] at H
                            have c44b0 : (t412 != t414) = false := by simpa using c44
                            (try (have c44b1 : decide (t412 = t414) = true := by simpa using c44))
                            (try (have c44b2 : (t412 == t414) = true := by simpa using c44))
                            clear c44
                            by_cases c45 : t411.toList = t413.toList
                            · rw [if_pos c45] at H
                              have c45b0 : (t411.toList == t413.toList) = true := beq_iff_eq.mpr c45
                              have c45b1 : (t411.toList != t413.toList) = false := bne_eq_false_iff_eq.mpr c45
                              clear c45
                              by_cases c46 : (t392 != t384) = true
                              · rw [if_pos c46] at H
                                have c46b0 : (t392 != t384) = true := c46
                                (try (have c46b1 : decide (t392 = t384) = false := by simpa using c46))
                                (try (have c46b2 : (t392 == t384) = false := by simpa using c46))
                                (try (have c46b3 : ¬ (t392 = t384) := by simpa using c46))
                                clear c46
                                exact (laws_FnDigitsTellNumbers.j0_no HR_.out _ _ _ _ _ _ _ _ _ _ _ H).elim
                              · rw [if_neg c46] at H
                                have c46b0 : (t392 != t384) = false := by simpa using c46
                                (try (have c46b1 : decide (t392 = t384) = true := by simpa using c46))
                                (try (have c46b2 : (t392 == t384) = true := by simpa using c46))
                                clear c46
                                by_cases c47 : (t396 != t384) = true
                                · rw [if_pos c47] at H
                                  have c47b0 : (t396 != t384) = true := c47
                                  (try (have c47b1 : decide (t396 = t384) = false := by simpa using c47))
                                  (try (have c47b2 : (t396 == t384) = false := by simpa using c47))
                                  (try (have c47b3 : ¬ (t396 = t384) := by simpa using c47))
                                  clear c47
                                  exact (laws_FnDigitsTellNumbers.j0_no HR_.out _ _ _ _ _ _ _ _ _ _ _ H).elim
                                · rw [if_neg c47] at H
                                  have c47b0 : (t396 != t384) = false := by simpa using c47
                                  (try (have c47b1 : decide (t396 = t384) = true := by simpa using c47))
                                  (try (have c47b2 : (t396 == t384) = true := by simpa using c47))
                                  clear c47
                                  by_cases c48 : (t400 != t384) = true
                                  · rw [if_pos c48] at H
                                    have c48b0 : (t400 != t384) = true := c48
                                    (try (have c48b1 : decide (t400 = t384) = false := by simpa using c48))
                                    (try (have c48b2 : (t400 == t384) = false := by simpa using c48))
                                    (try (have c48b3 : ¬ (t400 = t384) := by simpa using c48))
                                    clear c48
                                    exact (laws_FnDigitsTellNumbers.j0_no HR_.out _ _ _ _ _ _ _ _ _ _ _ H).elim
                                  · rw [if_neg c48] at H
                                    have c48b0 : (t400 != t384) = false := by simpa using c48
                                    (try (have c48b1 : decide (t400 = t384) = true := by simpa using c48))
                                    (try (have c48b2 : (t400 == t384) = true := by simpa using c48))
                                    clear c48
                                    by_cases c49 : (t408 != t384) = true
                                    · rw [if_pos c49] at H
                                      have c49b0 : (t408 != t384) = true := c49
                                      (try (have c49b1 : decide (t408 = t384) = false := by simpa using c49))
                                      (try (have c49b2 : (t408 == t384) = false := by simpa using c49))
                                      (try (have c49b3 : ¬ (t408 = t384) := by simpa using c49))
                                      clear c49
                                      exact (laws_FnDigitsTellNumbers.j0_no HR_.out _ _ _ _ _ _ _ _ _ _ _ H).elim
                                    · rw [if_neg c49] at H
                                      have c49b0 : (t408 != t384) = false := by simpa using c49
                                      (try (have c49b1 : decide (t408 = t384) = true := by simpa using c49))
                                      (try (have c49b2 : (t408 == t384) = true := by simpa using c49))
                                      clear c49
                                      as_aux_lemma =>
                                        have H' := Aside0.mk H
                                        clear H
                                        obtain ⟨Ao50, co50, eo50⟩ := Kd.R_slice HO386.out
                                        subst eo50
                                        obtain ⟨Ao51, co51, eo51⟩ := Kd.R_slice HO390.out
                                        subst eo51
                                        go_wp2_with (first | (go_at_call 83; (with_reducible refine (laws_rSame.calls k _ _ t383 _ _ t387 true _ ?side1 ?side2 ?side3 ?side4 A33.out).mono ?_); (case side1 => repeat (first | exact (Kd.R_reads' HO386.out).2.2 | (with_reducible refine Kd.C_alloc ?_ _) | (with_reducible refine Kd.C_drewN ?_ _) | (with_reducible refine Kd.C_drew ?_))); (case side2 => exact (Kd.R_reads' HO386.out).2.1); (case side3 => repeat (first | exact (Kd.R_reads' HO390.out).2.2 | (with_reducible refine Kd.C_alloc ?_ _) | (with_reducible refine Kd.C_drewN ?_ _) | (with_reducible refine Kd.C_drew ?_))); (case side4 => exact (Kd.R_reads' HO390.out).2.1); rintro e w' ⟨rfl, ⟨nd, rfl⟩⟩; obtain ⟨Ao52, co52, eo52⟩ := Kd.R_slice HO402.out; subst eo52; obtain ⟨Ao53, co53, eo53⟩ := Kd.R_slice HO406.out; subst eo53) | (go_at_call 83; (with_reducible refine (laws_rSame.calls k _ _ t399 _ _ t403 true _ ?side1 ?side2 ?side3 ?side4 A40.out).mono ?_); (case side1 => repeat (first | exact (Kd.R_reads' HO402.out).2.2 | (with_reducible refine Kd.C_alloc ?_ _) | (with_reducible refine Kd.C_drewN ?_ _) | (with_reducible refine Kd.C_drew ?_))); (case side2 => exact (Kd.R_reads' HO402.out).2.1); (case side3 => repeat (first | exact (Kd.R_reads' HO406.out).2.2 | (with_reducible refine Kd.C_alloc ?_ _) | (with_reducible refine Kd.C_drewN ?_ _) | (with_reducible refine Kd.C_drew ?_))); (case side4 => exact (Kd.R_reads' HO406.out).2.1); rintro e w' ⟨rfl, ⟨nd, rfl⟩⟩))
                                        go_meet
                                        case rel => exact ⟨_, ((t412 != t384)), (by first | rfl | (simp; done) | (simp [*]; done)), H', ⟨by first | omega | exact Nat.le_refl _⟩, ⟨by (with_reducible repeat (first | apply Kd.R_alloc | apply Kd.R_drewN | apply Kd.R_drew)); exact Kd.R_mono HO386.out (fun _ hk => hk.1.2)⟩, ⟨by (with_reducible repeat (first | apply Kd.R_alloc | apply Kd.R_drewN | apply Kd.R_drew)); exact Kd.R_mono HO402.out (fun _ hk => hk.1.1.2)⟩, ⟨by repeat (first | (with_reducible first | exact HB.out | apply below_alloc | apply pw_below_drewN | apply below_drew1) | exact HB.out)⟩⟩
                            · rw [if_neg c45] at H
                              have c45b0 : (t411.toList == t413.toList) = false := beq_eq_false_iff_ne.mpr c45
                              have c45b1 : (t411.toList != t413.toList) = true := bne_iff_ne.mpr c45
                              exact (laws_FnDigitsTellNumbers.j0_no HR_.out _ _ _ _ _ _ _ _ _ _ _ H).elim
                        · rw [if_neg c43] at H
                          have c43b0 : (t407 == t409) = false := beq_eq_false_iff_ne.mpr c43
                          have c43b1 : (t407 != t409) = true := bne_iff_ne.mpr c43
                          exact (laws_FnDigitsTellNumbers.j0_no HR_.out _ _ _ _ _ _ _ _ _ _ _ H).elim
                    · replace c41 := Bool.eq_false_iff.mpr c41
                      subst c41
                      have H1 : (laws_FnDigitsTellNumbers.j0 k l1 t381 t382 t383 t384 t391 t395 t399 t407 t411 true) = some r := by rw [if_neg (show ¬ (false = true) by decide)] at H; exact H
                      clear H
                      have H := H1
                      clear H1
                      exact (laws_FnDigitsTellNumbers.j0_no HR_.out _ _ _ _ _ _ _ _ _ _ _ H).elim
                · rw [if_neg c38] at H
                  have c38b0 : (t395 == t397) = false := beq_eq_false_iff_ne.mpr c38
                  have c38b1 : (t395 != t397) = true := bne_iff_ne.mpr c38
                  exact (laws_FnDigitsTellNumbers.j0_no HR_.out _ _ _ _ _ _ _ _ _ _ _ H).elim
            · rw [if_neg c36] at H
              have c36b0 : (t391 == t393) = false := beq_eq_false_iff_ne.mpr c36
              have c36b1 : (t391 != t393) = true := bne_iff_ne.mpr c36
              exact (laws_FnDigitsTellNumbers.j0_no HR_.out _ _ _ _ _ _ _ _ _ _ _ H).elim
        · replace c34 := Bool.eq_false_iff.mpr c34
          subst c34
          have H1 : (laws_FnDigitsTellNumbers.j0 k l1 t381 t382 t383 t384 t391 t395 t399 t407 t411 true) = some r := by rw [if_neg (show ¬ (false = true) by decide)] at H; exact H
          clear H
          have H := H1
          clear H1
          exact (laws_FnDigitsTellNumbers.j0_no HR_.out _ _ _ _ _ _ _ _ _ _ _ H).elim
    case rest =>
      as_aux_lemma =>
      clear HC18
      try clear c1
      try clear p2
      try clear c3
      try clear c4
      try clear c7
      try clear c8
      try clear c15
      try clear c32
      try clear c32b0
      try clear c32b1
      try clear c32b2
      try clear c34
      try clear c35
      try clear c35b0
      try clear c35b1
      try clear c35b2
      try clear c36
      try clear c36b0
      try clear c36b1
      try clear c37
      try clear c37b0
      try clear c37b1
      try clear c37b2
      try clear c38
      try clear c38b0
      try clear c38b1
      try clear c39
      try clear c39b0
      try clear c39b1
      try clear c39b2
      try clear c41
      try clear c42
      try clear c42b0
      try clear c42b1
      try clear c42b2
      try clear c43
      try clear c43b0
      try clear c43b1
      try clear c44
      try clear c44b0
      try clear c44b1
      try clear c44b2
      try clear c45
      try clear c45b0
      try clear c45b1
      try clear c46
      try clear c46b0
      try clear c46b1
      try clear c46b2
      try clear c47
      try clear c47b0
      try clear c47b1
      try clear c47b2
      try clear c48
      try clear c48b0
      try clear c48b1
      try clear c48b2
      try clear c49
      try clear c49b0
      try clear c49b1
      try clear c49b2
      obtain ⟨kq, x224_17, rfl, HA, HJ17, HO_7, HO_19, HB⟩ := hcut
      cases kq with
      | zero => exact absurd HA.out (by simp [laws_FnDigitsTellNumbers.j0])
      | succ kj17 =>
        have H := HA.out
        clear HA
        simp only [laws_FnDigitsTellNumbers.j0] at H
        by_cases c54 : x224_17 = true
        · subst c54
          have H1 : (some false) = some r := by rw [if_pos rfl] at H; exact H
          clear H
          have H := H1
          clear H1
          exact absurd (Option.some.inj H) (by rw [HR_.out]; decide)
        · replace c54 := Bool.eq_false_iff.mpr c54
          subst c54
          have H1 : (if t384 = true then ((impl_NumberOf.f kj17 t383 t382).bind fun bt417 => ((impl_AreDigits.f t383 t382).bind fun bt419 => ((impl_CountDigits.f kj17 t381 t382).bind fun bt421 => ((impl_ParseNumber.f kj17 t411 t382).bind fun bt423 => (laws_FnDigitsTellNumbers.l0 kj17 l1 t381 t382 t383 t391 t395 t399 t407 t411 bt417.1 bt417.2 bt419.1 bt419.2 bt421.1 bt421.2 bt423.1 bt423.2 1 t383 (t383.length : Int) 0))))) else (laws_FnDigitsTellNumbers.j2 kj17 l1)) = some r := by rw [if_neg (show ¬ (false = true) by decide)] at H; exact H
          clear H
          have H := H1
          clear H1
          have HC55 := Aside0.mk H
          clear H
          go_upto_if 225 with (fail)
          go_cut [] (fun wc => ∃ (kq : Nat), Aside0 (laws_FnDigitsTellNumbers.j2 kq l1 = some r) ∧ Aside0 (kq ≤ kj17) ∧ Aside0 (Below w.heap.size w wc))
          case first =>
            as_aux_lemma =>
            have H := HC55.out
            clear HC55
            by_cases c56 : t384 = true
            · subst c56
              have H1 : ((impl_NumberOf.f kj17 t383 t382).bind fun bt417 => ((impl_AreDigits.f t383 t382).bind fun bt419 => ((impl_CountDigits.f kj17 t381 t382).bind fun bt421 => ((impl_ParseNumber.f kj17 t411 t382).bind fun bt423 => (laws_FnDigitsTellNumbers.l0 kj17 l1 t381 t382 t383 t391 t395 t399 t407 t411 bt417.1 bt417.2 bt419.1 bt419.2 bt421.1 bt421.2 bt423.1 bt423.2 1 t383 (t383.length : Int) 0))))) = some r := by rw [if_pos rfl] at H; exact H
              clear H
              have H := H1
              clear H1
              replace H := Option.bind_eq_some_iff.mp H
              obtain ⟨⟨t417, t418⟩, A570, H⟩ := H
              replace H : ((impl_AreDigits.f t383 t382).bind fun bt419 => ((impl_CountDigits.f kj17 t381 t382).bind fun bt421 => ((impl_ParseNumber.f kj17 t411 t382).bind fun bt423 => (laws_FnDigitsTellNumbers.l0 kj17 l1 t381 t382 t383 t391 t395 t399 t407 t411 t417 t418 bt419.1 bt419.2 bt421.1 bt421.2 bt423.1 bt423.2 1 t383 (t383.length : Int) 0)))) = some r := H
              have A57 := Aside0.mk A570
              clear A570
              replace H := Option.bind_eq_some_iff.mp H
              obtain ⟨⟨t419, t420⟩, A580, H⟩ := H
              replace H : ((impl_CountDigits.f kj17 t381 t382).bind fun bt421 => ((impl_ParseNumber.f kj17 t411 t382).bind fun bt423 => (laws_FnDigitsTellNumbers.l0 kj17 l1 t381 t382 t383 t391 t395 t399 t407 t411 t417 t418 t419 t420 bt421.1 bt421.2 bt423.1 bt423.2 1 t383 (t383.length : Int) 0))) = some r := H
              have A58 := Aside0.mk A580
              clear A580
              replace H := Option.bind_eq_some_iff.mp H
              obtain ⟨⟨t421, t422⟩, A590, H⟩ := H
              replace H : ((impl_ParseNumber.f kj17 t411 t382).bind fun bt423 => (laws_FnDigitsTellNumbers.l0 kj17 l1 t381 t382 t383 t391 t395 t399 t407 t411 t417 t418 t419 t420 t421 t422 bt423.1 bt423.2 1 t383 (t383.length : Int) 0)) = some r := H
              have A59 := Aside0.mk A590
              clear A590
              replace H := Option.bind_eq_some_iff.mp H
              obtain ⟨⟨t423, t424⟩, A600, H⟩ := H
              replace H : (laws_FnDigitsTellNumbers.l0 kj17 l1 t381 t382 t383 t391 t395 t399 t407 t411 t417 t418 t419 t420 t421 t422 t423 t424 1 t383 (t383.length : Int) 0) = some r := H
              have A60 := Aside0.mk A600
              clear A600
              have H' := Aside0.mk H
              clear H
              obtain ⟨Ao61, co61, eo61⟩ := Kd.R_slice HO_7.out
              subst eo61
              go_wp2_with (first | ((with_reducible refine gate_callee (f := 84) rfl ?_); refine goesL_ (some 229) rfl rfl Try.func84 (by kernel_rfl) rfl #[.slice Ao61 t383.length co61, .int .i64 t382] rfl (by (try simp only [List.map_toArray, List.map_cons, List.map_nil]); first | done | rfl | (simp only [List.length_drop, List.length_take]; rfl)) ?_; (with_reducible refine (impl_NumberOf.calls kj17 _ _ t383 t382 t417 t418 _ ?side1 ?side2 A57.out).mono ?_); (case side1 => repeat (first | exact (Kd.R_reads' HO_7.out).2.2 | (with_reducible refine Kd.C_alloc ?_ _) | (with_reducible refine Kd.C_drewN ?_ _) | (with_reducible refine Kd.C_drew ?_))); (case side2 => exact (Kd.R_reads' HO_7.out).2.1); rintro e w62 ⟨rfl, hb⟩; refine ⟨_, rfl, ?_⟩; have n0_ := Aside0.mk (Kd.R_below (by (with_reducible repeat (first | apply Kd.R_alloc | apply Kd.R_drewN | apply Kd.R_drew)); exact HO_7.out) hb); have n1_ := Aside0.mk (Kd.R_below (by (with_reducible repeat (first | apply Kd.R_alloc | apply Kd.R_drewN | apply Kd.R_drew)); exact HO_19.out) hb); have n2_ := Aside0.mk (below_step (by repeat (first | (with_reducible first | exact HB.out | apply below_alloc | apply pw_below_drewN | apply below_drew1) | exact HB.out)) hb); clear HO_7; clear HO_19; clear HB; have HO_7 := n0_; have HO_19 := n1_; have HB := n2_; clear n0_ n1_ n2_; (try clear hb); (try clear hb2); (try clear hk); (try clear hi)) | ((with_reducible refine gate_callee (f := 85) rfl ?_); refine goesL_ (some 235) rfl rfl Try.func85 (by kernel_rfl) rfl #[.slice Ao61 t383.length co61, .int .i64 t382] rfl (by (try simp only [List.map_toArray, List.map_cons, List.map_nil]); first | done | rfl | (simp only [List.length_drop, List.length_take]; rfl)) ?_; (with_reducible refine (impl_AreDigits.calls _ _ t383 t382 t419 t420 _ ?side1 ?side2 A58.out).mono ?_); (case side1 => repeat (first | exact (Kd.R_reads' HO_7.out).2.2 | (with_reducible refine Kd.C_alloc ?_ _) | (with_reducible refine Kd.C_drewN ?_ _) | (with_reducible refine Kd.C_drew ?_))); (case side2 => exact (Kd.R_reads' HO_7.out).2.1); rintro e w63 ⟨rfl, hb⟩; refine ⟨_, rfl, ?_⟩; have n0_ := Aside0.mk (Kd.R_below (by (with_reducible repeat (first | apply Kd.R_alloc | apply Kd.R_drewN | apply Kd.R_drew)); exact HO_7.out) hb); have n1_ := Aside0.mk (Kd.R_below (by (with_reducible repeat (first | apply Kd.R_alloc | apply Kd.R_drewN | apply Kd.R_drew)); exact HO_19.out) hb); have n2_ := Aside0.mk (below_step (by repeat (first | (with_reducible first | exact HB.out | apply below_alloc | apply pw_below_drewN | apply below_drew1) | exact HB.out)) hb); clear HO_7; clear HO_19; clear HB; have HO_7 := n0_; have HO_19 := n1_; have HB := n2_; clear n0_ n1_ n2_; (try clear hb); (try clear hb2); (try clear hk); (try clear hi)) | ((with_reducible refine gate_callee (f := 86) rfl ?_); refine goesL_ (some 241) rfl rfl Try.func86 (by kernel_rfl) rfl #[.int .i64 t381, .int .i64 t382] rfl (by (try simp only [List.map_toArray, List.map_cons, List.map_nil]); first | done | rfl | (simp only [List.length_drop, List.length_take]; rfl)) ?_; (with_reducible refine (impl_CountDigits.calls kj17 t381 t382 t421 t422 _ A59.out).mono ?_); rintro e w64 ⟨rfl, hb⟩; refine ⟨_, rfl, ?_⟩; have n0_ := Aside0.mk (Kd.R_below (by (with_reducible repeat (first | apply Kd.R_alloc | apply Kd.R_drewN | apply Kd.R_drew)); exact HO_7.out) hb); have n1_ := Aside0.mk (Kd.R_below (by (with_reducible repeat (first | apply Kd.R_alloc | apply Kd.R_drewN | apply Kd.R_drew)); exact HO_19.out) hb); have n2_ := Aside0.mk (below_step (by repeat (first | (with_reducible first | exact HB.out | apply below_alloc | apply pw_below_drewN | apply below_drew1) | exact HB.out)) hb); clear HO_7; clear HO_19; clear HB; have HO_7 := n0_; have HO_19 := n1_; have HB := n2_; clear n0_ n1_ n2_; (try clear hb); (try clear hb2); (try clear hk); (try clear hi)) | ((with_reducible refine gate_callee (f := 87) rfl ?_); refine goesL_ (some 247) rfl rfl Try.func87 (by kernel_rfl) rfl #[.string t411, .int .i64 t382] rfl (by (try simp only [List.map_toArray, List.map_cons, List.map_nil]); first | done | rfl | (simp only [List.length_drop, List.length_take]; rfl)) ?_; (with_reducible refine (impl_ParseNumber.calls kj17 t411 t382 t423 t424 _ A60.out).mono ?_); rintro e w65 ⟨rfl, hb⟩; refine ⟨_, rfl, ?_⟩; have n0_ := Aside0.mk (Kd.R_below (by (with_reducible repeat (first | apply Kd.R_alloc | apply Kd.R_drewN | apply Kd.R_drew)); exact HO_7.out) hb); have n1_ := Aside0.mk (Kd.R_below (by (with_reducible repeat (first | apply Kd.R_alloc | apply Kd.R_drewN | apply Kd.R_drew)); exact HO_19.out) hb); have n2_ := Aside0.mk (below_step (by repeat (first | (with_reducible first | exact HB.out | apply below_alloc | apply pw_below_drewN | apply below_drew1) | exact HB.out)) hb); clear HO_7; clear HO_19; clear HB; have HO_7 := n0_; have HO_19 := n1_; have HB := n2_; clear n0_ n1_ n2_; (try clear hb); (try clear hb2); (try clear hk); (try clear hi)))
              go_loopg [39, 252] kj17 (fun kq v39 v252 w' => ∃ (x39_2 : Int) (x252_2 : Int), v39 = .int .i64 x39_2 ∧ v252 = .int .i64 x252_2 ∧ Aside0 (laws_FnDigitsTellNumbers.l0 kq l1 t381 t382 t383 t391 t395 t399 t407 t411 t417 t418 t419 t420 t421 t422 t423 t424 x39_2 t383 (t383.length : Int) x252_2 = some r) ∧ Aside0 (kq ≤ kj17) ∧ Aside0 (Kd.R (Kd.int .i64) 3 w' w.heap.size (fun k_ => some k_ ≠ (v401 : Value).ownBlock) (.slice Ao61 t383.length co61) t383) ∧ Aside0 (Kd.R (Kd.int .i64) 3 w' w.heap.size (fun k_ => some k_ ≠ ((.slice Ao61 t383.length co61) : Value).ownBlock ∧ some k_ ≠ ((.slice Ao61 t383.length co61) : Value).ownBlock) v401 t399) ∧ Aside0 (Kd.R (Kd.int .i64) 3 w' w.heap.size (fun k_ => some k_ ≠ (v401 : Value).ownBlock) (.slice Ao61 t383.length co61) t383) ∧ Aside0 (Below w.heap.size w w'))
              case atStart => exact ⟨(1), (0), (by first | rfl | (simp; done) | (simp [*]; done)), (by first | rfl | (simp; done) | (simp [*]; done)), H', ⟨Nat.le_refl _⟩, ⟨by (with_reducible repeat (first | apply Kd.R_alloc | apply Kd.R_drewN | apply Kd.R_drew)); exact HO_7.out⟩, ⟨by (with_reducible repeat (first | apply Kd.R_alloc | apply Kd.R_drewN | apply Kd.R_drew)); exact Kd.R_mono HO_19.out (fun _ hk => ⟨hk, hk⟩)⟩, ⟨by (with_reducible repeat (first | apply Kd.R_alloc | apply Kd.R_drewN | apply Kd.R_drew)); exact HO_7.out⟩, ⟨by repeat (first | (with_reducible first | exact HB.out | apply below_alloc | apply pw_below_drewN | apply below_drew1) | exact HB.out)⟩⟩
              case round =>
                as_aux_lemma =>
                clear H'
                try clear c1
                try clear p2
                try clear c3
                try clear c4
                try clear c5
                try clear c7
                try clear c8
                try clear c15
                try clear c32
                try clear c32b0
                try clear c32b1
                try clear c32b2
                try clear c34
                try clear c35
                try clear c35b0
                try clear c35b1
                try clear c35b2
                try clear c36
                try clear c36b0
                try clear c36b1
                try clear c37
                try clear c37b0
                try clear c37b1
                try clear c37b2
                try clear c38
                try clear c38b0
                try clear c38b1
                try clear c39
                try clear c39b0
                try clear c39b1
                try clear c39b2
                try clear c41
                try clear c42
                try clear c42b0
                try clear c42b1
                try clear c42b2
                try clear c43
                try clear c43b0
                try clear c43b1
                try clear c44
                try clear c44b0
                try clear c44b1
                try clear c44b2
                try clear c45
                try clear c45b0
                try clear c45b1
                try clear c46
                try clear c46b0
                try clear c46b1
                try clear c46b2
                try clear c47
                try clear c47b0
                try clear c47b1
                try clear c47b2
                try clear c48
                try clear c48b0
                try clear c48b1
                try clear c48b2
                try clear c49
                try clear c49b0
                try clear c49b1
                try clear c49b2
                try clear c54
                try clear c56
                try clear p2
                obtain ⟨x39_2, x252_2, rfl, rfl, HA, HK2, HO_7, HO_19, HO_250, HB⟩ := hrel
                cases gk with
                | zero => exact absurd HA.out (by simp [laws_FnDigitsTellNumbers.l0])
                | succ k2 =>
                  have H := HA.out
                  clear HA
                  simp only [laws_FnDigitsTellNumbers.l0] at H
                  by_cases c66 : x252_2 < (t383.length : Int)
                  · rw [if_pos c66] at H
                    have c66b0 : decide (x252_2 < (t383.length : Int)) = true := decide_eq_true c66
                    clear c66
                    (first | rw [c66b0] | (simp only [i64_w, i32_w]; rw [c66b0]) | skip)
                    by_cases c67 : 0 ≤ x252_2
                    · rw [if_pos c67] at H
                      have c67b0 : decide (0 ≤ x252_2) = true := decide_eq_true c67
                      clear c67
                      by_cases c68 : x252_2 < (t383.length : Int)
                      · rw [if_pos c68] at H
                        have c68b0 : decide (x252_2 < (t383.length : Int)) = true := decide_eq_true c68
                        clear c68
                        as_aux_lemma =>
                          have H' := Aside0.mk H
                          clear H
                          have p425 : 0 ≤ (x252_2 : Int) := of_decide_eq_true (by first | (with_reducible assumption) | assumption)
                          have q425 : x252_2 < (t383.length : Int) := of_decide_eq_true (by first | (with_reducible assumption) | assumption)
                          obtain ⟨ad425, e425, hx425_0⟩ := Kd.at_int (Kd.R_reads' HO_250.out).2.2 x252_2 p425 q425
                          cases e425
                          replace p425 := eq_true p425
                          replace q425 := eq_true q425
                          go_wp2
                          go_roundg k2
                          case measure => have := HJ17.out; have := HK2.out; omega
                          case rel => exact ⟨(wrap64 (x39_2 * (rd t383 x252_2))), (wrap64 (x252_2 + 1)), (by first | rfl | (simp; done) | (simp [*]; done)), (by first | rfl | (simp; done) | (simp [*]; done)), H', ⟨by have := HJ17.out; have := HK2.out; omega⟩, ⟨by (with_reducible repeat (first | apply Kd.R_alloc | apply Kd.R_drewN | apply Kd.R_drew)); exact HO_7.out⟩, ⟨by (with_reducible repeat (first | apply Kd.R_alloc | apply Kd.R_drewN | apply Kd.R_drew)); exact HO_19.out⟩, ⟨by (with_reducible repeat (first | apply Kd.R_alloc | apply Kd.R_drewN | apply Kd.R_drew)); exact HO_250.out⟩, ⟨by repeat (first | (with_reducible first | exact HB.out | apply below_alloc | apply pw_below_drewN | apply below_drew1) | exact HB.out)⟩⟩
                      · rw [if_neg c68] at H
                        exact absurd H (by simp)
                    · rw [if_neg c67] at H
                      exact absurd H (by simp)
                  · rw [if_neg c66] at H
                    have c66b0 : decide (x252_2 < (t383.length : Int)) = false := decide_eq_false c66
                    clear c66
                    (first | rw [c66b0] | (simp only [i64_w, i32_w]; rw [c66b0]) | skip)
                    by_cases c69 : t418 = true
                    · subst c69
                      have H1 : (if t417 = t381 then (if t420 = true then (if t419 = true then (if t422 = true then (if t421 = (t383.length : Int) then ((laws_rSum.f k2 t399).bind fun t426 => (if t426 = t421 then ((laws_rSum.f k2 t383).bind fun t427 => (if t427 = t391 then (if x39_2 = t395 then (if t424 = true then (if t423 = t381 then (if (t411.size : Int) = t421 then (if (wrap64 (t382 - 1)) = 0 then (none) else (if (Int.tmod (wrap64 (t381 - t407)) (wrap64 (t382 - 1))) = 0 then (if t407 ≥ t382 then (some false) else (if t381 > 0 then (if t407 = 0 then (some false) else (laws_FnDigitsTellNumbers.j2 k2 l1)) else (laws_FnDigitsTellNumbers.j2 k2 l1))) else (some false))) else (some false)) else (some false)) else (some false)) else (some false)) else (some false))) else (some false))) else (some false)) else (some false)) else (some false)) else (some false)) else (some false)) = some r := by rw [if_pos rfl] at H; exact H
                      clear H
                      have H := H1
                      clear H1
                      by_cases c70 : t417 = t381
                      · rw [if_pos c70] at H
                        have c70b0 : (t417 == t381) = true := beq_iff_eq.mpr c70
                        have c70b1 : (t417 != t381) = false := bne_eq_false_iff_eq.mpr c70
                        clear c70
                        by_cases c71 : t420 = true
                        · subst c71
                          have H1 : (if t419 = true then (if t422 = true then (if t421 = (t383.length : Int) then ((laws_rSum.f k2 t399).bind fun t426 => (if t426 = t421 then ((laws_rSum.f k2 t383).bind fun t427 => (if t427 = t391 then (if x39_2 = t395 then (if t424 = true then (if t423 = t381 then (if (t411.size : Int) = t421 then (if (wrap64 (t382 - 1)) = 0 then (none) else (if (Int.tmod (wrap64 (t381 - t407)) (wrap64 (t382 - 1))) = 0 then (if t407 ≥ t382 then (some false) else (if t381 > 0 then (if t407 = 0 then (some false) else (laws_FnDigitsTellNumbers.j2 k2 l1)) else (laws_FnDigitsTellNumbers.j2 k2 l1))) else (some false))) else (some false)) else (some false)) else (some false)) else (some false)) else (some false))) else (some false))) else (some false)) else (some false)) else (some false)) = some r := by rw [if_pos rfl] at H; exact H
                          clear H
                          have H := H1
                          clear H1
                          by_cases c72 : t419 = true
                          · subst c72
                            have H1 : (if t422 = true then (if t421 = (t383.length : Int) then ((laws_rSum.f k2 t399).bind fun t426 => (if t426 = t421 then ((laws_rSum.f k2 t383).bind fun t427 => (if t427 = t391 then (if x39_2 = t395 then (if t424 = true then (if t423 = t381 then (if (t411.size : Int) = t421 then (if (wrap64 (t382 - 1)) = 0 then (none) else (if (Int.tmod (wrap64 (t381 - t407)) (wrap64 (t382 - 1))) = 0 then (if t407 ≥ t382 then (some false) else (if t381 > 0 then (if t407 = 0 then (some false) else (laws_FnDigitsTellNumbers.j2 k2 l1)) else (laws_FnDigitsTellNumbers.j2 k2 l1))) else (some false))) else (some false)) else (some false)) else (some false)) else (some false)) else (some false))) else (some false))) else (some false)) else (some false)) = some r := by rw [if_pos rfl] at H; exact H
                            clear H
                            have H := H1
                            clear H1
                            by_cases c73 : t422 = true
                            · subst c73
                              have H1 : (if t421 = (t383.length : Int) then ((laws_rSum.f k2 t399).bind fun t426 => (if t426 = t421 then ((laws_rSum.f k2 t383).bind fun t427 => (if t427 = t391 then (if x39_2 = t395 then (if t424 = true then (if t423 = t381 then (if (t411.size : Int) = t421 then (if (wrap64 (t382 - 1)) = 0 then (none) else (if (Int.tmod (wrap64 (t381 - t407)) (wrap64 (t382 - 1))) = 0 then (if t407 ≥ t382 then (some false) else (if t381 > 0 then (if t407 = 0 then (some false) else (laws_FnDigitsTellNumbers.j2 k2 l1)) else (laws_FnDigitsTellNumbers.j2 k2 l1))) else (some false))) else (some false)) else (some false)) else (some false)) else (some false)) else (some false))) else (some false))) else (some false)) = some r := by rw [if_pos rfl] at H; exact H
                              clear H
                              have H := H1
                              clear H1
                              by_cases c74 : t421 = (t383.length : Int)
                              · rw [if_pos c74] at H
                                have c74b0 : (t421 == (t383.length : Int)) = true := beq_iff_eq.mpr c74
                                have c74b1 : (t421 != (t383.length : Int)) = false := bne_eq_false_iff_eq.mpr c74
                                clear c74
                                replace H := Option.bind_eq_some_iff.mp H
                                obtain ⟨t426, A750, H⟩ := H
                                replace H : (if t426 = t421 then ((laws_rSum.f k2 t383).bind fun t427 => (if t427 = t391 then (if x39_2 = t395 then (if t424 = true then (if t423 = t381 then (if (t411.size : Int) = t421 then (if (wrap64 (t382 - 1)) = 0 then (none) else (if (Int.tmod (wrap64 (t381 - t407)) (wrap64 (t382 - 1))) = 0 then (if t407 ≥ t382 then (some false) else (if t381 > 0 then (if t407 = 0 then (some false) else (laws_FnDigitsTellNumbers.j2 k2 l1)) else (laws_FnDigitsTellNumbers.j2 k2 l1))) else (some false))) else (some false)) else (some false)) else (some false)) else (some false)) else (some false))) else (some false)) = some r := H
                                have A75 := Aside0.mk A750
                                clear A750
                                by_cases c76 : t426 = t421
                                · rw [if_pos c76] at H
                                  have c76b0 : (t426 == t421) = true := beq_iff_eq.mpr c76
                                  have c76b1 : (t426 != t421) = false := bne_eq_false_iff_eq.mpr c76
                                  clear c76
                                  replace H := Option.bind_eq_some_iff.mp H
                                  obtain ⟨t427, A770, H⟩ := H
                                  replace H : (if t427 = t391 then (if x39_2 = t395 then (if t424 = true then (if t423 = t381 then (if (t411.size : Int) = t421 then (if (wrap64 (t382 - 1)) = 0 then (none) else (if (Int.tmod (wrap64 (t381 - t407)) (wrap64 (t382 - 1))) = 0 then (if t407 ≥ t382 then (some false) else (if t381 > 0 then (if t407 = 0 then (some false) else (laws_FnDigitsTellNumbers.j2 k2 l1)) else (laws_FnDigitsTellNumbers.j2 k2 l1))) else (some false))) else (some false)) else (some false)) else (some false)) else (some false)) else (some false)) = some r := H
                                  have A77 := Aside0.mk A770
                                  clear A770
                                  by_cases c78 : t427 = t391
                                  · rw [if_pos c78] at H
                                    have c78b0 : (t427 == t391) = true := beq_iff_eq.mpr c78
                                    have c78b1 : (t427 != t391) = false := bne_eq_false_iff_eq.mpr c78
                                    clear c78
                                    by_cases c79 : x39_2 = t395
                                    · rw [if_pos c79] at H
                                      have c79b0 : (x39_2 == t395) = true := beq_iff_eq.mpr c79
                                      have c79b1 : (x39_2 != t395) = false := bne_eq_false_iff_eq.mpr c79
                                      clear c79
                                      by_cases c80 : t424 = true
                                      · subst c80
                                        have H1 : (if t423 = t381 then (if (t411.size : Int) = t421 then (if (wrap64 (t382 - 1)) = 0 then (none) else (if (Int.tmod (wrap64 (t381 - t407)) (wrap64 (t382 - 1))) = 0 then (if t407 ≥ t382 then (some false) else (if t381 > 0 then (if t407 = 0 then (some false) else (laws_FnDigitsTellNumbers.j2 k2 l1)) else (laws_FnDigitsTellNumbers.j2 k2 l1))) else (some false))) else (some false)) else (some false)) = some r := by rw [if_pos rfl] at H; exact H
                                        clear H
                                        have H := H1
                                        clear H1
                                        by_cases c81 : t423 = t381
                                        · rw [if_pos c81] at H
                                          have c81b0 : (t423 == t381) = true := beq_iff_eq.mpr c81
                                          have c81b1 : (t423 != t381) = false := bne_eq_false_iff_eq.mpr c81
                                          clear c81
                                          by_cases c82 : (t411.size : Int) = t421
                                          · rw [if_pos c82] at H
                                            have c82b0 : ((t411.size : Int) == t421) = true := beq_iff_eq.mpr c82
                                            have c82b1 : ((t411.size : Int) != t421) = false := bne_eq_false_iff_eq.mpr c82
                                            clear c82
                                            by_cases c83 : (wrap64 (t382 - 1)) = 0
                                            · rw [if_pos c83] at H
                                              exact absurd H (by simp)
                                            · rw [if_neg c83] at H
                                              have c83b0 : ((wrap64 (t382 - 1)) == 0) = false := beq_eq_false_iff_ne.mpr c83
                                              have c83b1 : ((wrap64 (t382 - 1)) != 0) = true := bne_iff_ne.mpr c83
                                              by_cases c84 : (Int.tmod (wrap64 (t381 - t407)) (wrap64 (t382 - 1))) = 0
                                              · rw [if_pos c84] at H
                                                have c84b0 : ((Int.tmod (wrap64 (t381 - t407)) (wrap64 (t382 - 1))) == 0) = true := beq_iff_eq.mpr c84
                                                have c84b1 : ((Int.tmod (wrap64 (t381 - t407)) (wrap64 (t382 - 1))) != 0) = false := bne_eq_false_iff_eq.mpr c84
                                                clear c84
                                                by_cases c85 : t407 ≥ t382
                                                · rw [if_pos c85] at H
                                                  have c85b0 : decide (t382 ≤ t407) = true := decide_eq_true c85
                                                  clear c85
                                                  exact absurd (Option.some.inj H) (by rw [HR_.out]; decide)
                                                · rw [if_neg c85] at H
                                                  have c85b0 : decide (t382 ≤ t407) = false := decide_eq_false c85
                                                  clear c85
                                                  by_cases c86 : t381 > 0
                                                  · rw [if_pos c86] at H
                                                    have c86b0 : decide (0 < t381) = true := decide_eq_true c86
                                                    clear c86
                                                    by_cases c87 : t407 = 0
                                                    · rw [if_pos c87] at H
                                                      have c87b0 : (t407 == 0) = true := beq_iff_eq.mpr c87
                                                      have c87b1 : (t407 != 0) = false := bne_eq_false_iff_eq.mpr c87
                                                      clear c87
                                                      exact absurd (Option.some.inj H) (by rw [HR_.out]; decide)
                                                    · rw [if_neg c87] at H
                                                      have c87b0 : (t407 == 0) = false := beq_eq_false_iff_ne.mpr c87
                                                      have c87b1 : (t407 != 0) = true := bne_iff_ne.mpr c87
                                                      as_aux_lemma =>
                                                        have H' := Aside0.mk H
                                                        clear H
                                                        obtain ⟨Ao88, co88, eo88⟩ := Kd.R_slice HO_19.out
                                                        subst eo88
                                                        go_wp2_with (first | (go_at_call 88; (with_reducible refine (laws_rSum.calls k2 _ _ t399 t426 _ ?side1 ?side2 A75.out).mono ?_); (case side1 => repeat (first | exact (Kd.R_reads' HO_19.out).2.2 | (with_reducible refine Kd.C_alloc ?_ _) | (with_reducible refine Kd.C_drewN ?_ _) | (with_reducible refine Kd.C_drew ?_))); (case side2 => exact (Kd.R_reads' HO_19.out).2.1); rintro e w' ⟨rfl, ⟨nd, rfl⟩⟩) | (go_at_call 88; (with_reducible refine (laws_rSum.calls k2 _ _ t383 t427 _ ?side1 ?side2 A77.out).mono ?_); (case side1 => repeat (first | exact (Kd.R_reads' HO_7.out).2.2 | (with_reducible refine Kd.C_alloc ?_ _) | (with_reducible refine Kd.C_drewN ?_ _) | (with_reducible refine Kd.C_drew ?_))); (case side2 => exact (Kd.R_reads' HO_7.out).2.1); rintro e w' ⟨rfl, ⟨nd, rfl⟩⟩))
                                                        go_meet
                                                        case rel => exact ⟨_, H', ⟨by have := HJ17.out; have := HK2.out; first | omega | exact Nat.le_refl _⟩, ⟨by repeat (first | (with_reducible first | exact HB.out | apply below_alloc | apply pw_below_drewN | apply below_drew1) | exact HB.out)⟩⟩
                                                  · rw [if_neg c86] at H
                                                    have c86b0 : decide (0 < t381) = false := decide_eq_false c86
                                                    clear c86
                                                    as_aux_lemma =>
                                                      have H' := Aside0.mk H
                                                      clear H
                                                      obtain ⟨Ao89, co89, eo89⟩ := Kd.R_slice HO_19.out
                                                      subst eo89
                                                      go_wp2_with (first | (go_at_call 88; (with_reducible refine (laws_rSum.calls k2 _ _ t399 t426 _ ?side1 ?side2 A75.out).mono ?_); (case side1 => repeat (first | exact (Kd.R_reads' HO_19.out).2.2 | (with_reducible refine Kd.C_alloc ?_ _) | (with_reducible refine Kd.C_drewN ?_ _) | (with_reducible refine Kd.C_drew ?_))); (case side2 => exact (Kd.R_reads' HO_19.out).2.1); rintro e w' ⟨rfl, ⟨nd, rfl⟩⟩) | (go_at_call 88; (with_reducible refine (laws_rSum.calls k2 _ _ t383 t427 _ ?side1 ?side2 A77.out).mono ?_); (case side1 => repeat (first | exact (Kd.R_reads' HO_7.out).2.2 | (with_reducible refine Kd.C_alloc ?_ _) | (with_reducible refine Kd.C_drewN ?_ _) | (with_reducible refine Kd.C_drew ?_))); (case side2 => exact (Kd.R_reads' HO_7.out).2.1); rintro e w' ⟨rfl, ⟨nd, rfl⟩⟩))
                                                      go_meet
                                                      case rel => exact ⟨_, H', ⟨by have := HJ17.out; have := HK2.out; first | omega | exact Nat.le_refl _⟩, ⟨by repeat (first | (with_reducible first | exact HB.out | apply below_alloc | apply pw_below_drewN | apply below_drew1) | exact HB.out)⟩⟩
                                              · rw [if_neg c84] at H
                                                have c84b0 : ((Int.tmod (wrap64 (t381 - t407)) (wrap64 (t382 - 1))) == 0) = false := beq_eq_false_iff_ne.mpr c84
                                                have c84b1 : ((Int.tmod (wrap64 (t381 - t407)) (wrap64 (t382 - 1))) != 0) = true := bne_iff_ne.mpr c84
                                                exact absurd (Option.some.inj H) (by rw [HR_.out]; decide)
                                          · rw [if_neg c82] at H
                                            have c82b0 : ((t411.size : Int) == t421) = false := beq_eq_false_iff_ne.mpr c82
                                            have c82b1 : ((t411.size : Int) != t421) = true := bne_iff_ne.mpr c82
                                            exact absurd (Option.some.inj H) (by rw [HR_.out]; decide)
                                        · rw [if_neg c81] at H
                                          have c81b0 : (t423 == t381) = false := beq_eq_false_iff_ne.mpr c81
                                          have c81b1 : (t423 != t381) = true := bne_iff_ne.mpr c81
                                          exact absurd (Option.some.inj H) (by rw [HR_.out]; decide)
                                      · replace c80 := Bool.eq_false_iff.mpr c80
                                        subst c80
                                        have H1 : (some false) = some r := by rw [if_neg (show ¬ (false = true) by decide)] at H; exact H
                                        clear H
                                        have H := H1
                                        clear H1
                                        exact absurd (Option.some.inj H) (by rw [HR_.out]; decide)
                                    · rw [if_neg c79] at H
                                      have c79b0 : (x39_2 == t395) = false := beq_eq_false_iff_ne.mpr c79
                                      have c79b1 : (x39_2 != t395) = true := bne_iff_ne.mpr c79
                                      exact absurd (Option.some.inj H) (by rw [HR_.out]; decide)
                                  · rw [if_neg c78] at H
                                    have c78b0 : (t427 == t391) = false := beq_eq_false_iff_ne.mpr c78
                                    have c78b1 : (t427 != t391) = true := bne_iff_ne.mpr c78
                                    exact absurd (Option.some.inj H) (by rw [HR_.out]; decide)
                                · rw [if_neg c76] at H
                                  have c76b0 : (t426 == t421) = false := beq_eq_false_iff_ne.mpr c76
                                  have c76b1 : (t426 != t421) = true := bne_iff_ne.mpr c76
                                  exact absurd (Option.some.inj H) (by rw [HR_.out]; decide)
                              · rw [if_neg c74] at H
                                have c74b0 : (t421 == (t383.length : Int)) = false := beq_eq_false_iff_ne.mpr c74
                                have c74b1 : (t421 != (t383.length : Int)) = true := bne_iff_ne.mpr c74
                                exact absurd (Option.some.inj H) (by rw [HR_.out]; decide)
                            · replace c73 := Bool.eq_false_iff.mpr c73
                              subst c73
                              have H1 : (some false) = some r := by rw [if_neg (show ¬ (false = true) by decide)] at H; exact H
                              clear H
                              have H := H1
                              clear H1
                              exact absurd (Option.some.inj H) (by rw [HR_.out]; decide)
                          · replace c72 := Bool.eq_false_iff.mpr c72
                            subst c72
                            have H1 : (some false) = some r := by rw [if_neg (show ¬ (false = true) by decide)] at H; exact H
                            clear H
                            have H := H1
                            clear H1
                            exact absurd (Option.some.inj H) (by rw [HR_.out]; decide)
                        · replace c71 := Bool.eq_false_iff.mpr c71
                          subst c71
                          have H1 : (some false) = some r := by rw [if_neg (show ¬ (false = true) by decide)] at H; exact H
                          clear H
                          have H := H1
                          clear H1
                          exact absurd (Option.some.inj H) (by rw [HR_.out]; decide)
                      · rw [if_neg c70] at H
                        have c70b0 : (t417 == t381) = false := beq_eq_false_iff_ne.mpr c70
                        have c70b1 : (t417 != t381) = true := bne_iff_ne.mpr c70
                        exact absurd (Option.some.inj H) (by rw [HR_.out]; decide)
                    · replace c69 := Bool.eq_false_iff.mpr c69
                      subst c69
                      have H1 : (some false) = some r := by rw [if_neg (show ¬ (false = true) by decide)] at H; exact H
                      clear H
                      have H := H1
                      clear H1
                      exact absurd (Option.some.inj H) (by rw [HR_.out]; decide)
            · replace c56 := Bool.eq_false_iff.mpr c56
              subst c56
              have H1 : (laws_FnDigitsTellNumbers.j2 kj17 l1) = some r := by rw [if_neg (show ¬ (false = true) by decide)] at H; exact H
              clear H
              have H := H1
              clear H1
              as_aux_lemma =>
                have H' := Aside0.mk H
                clear H
                go_wp2
                go_meet
                case rel => exact ⟨_, H', ⟨by have := HJ17.out; first | omega | exact Nat.le_refl _⟩, ⟨by repeat (first | (with_reducible first | exact HB.out | apply below_alloc | apply pw_below_drewN | apply below_drew1) | exact HB.out)⟩⟩
          case rest =>
            as_aux_lemma =>
            clear HC55
            try clear c1
            try clear p2
            try clear c3
            try clear c4
            try clear p4
            try clear q4
            try clear hx4
            try clear c5
            try clear c6
            try clear p6
            try clear c7
            try clear c8
            try clear c15
            try clear c32
            try clear c32b0
            try clear c32b1
            try clear c32b2
            try clear c34
            try clear c35
            try clear c35b0
            try clear c35b1
            try clear c35b2
            try clear c36
            try clear c36b0
            try clear c36b1
            try clear c37
            try clear c37b0
            try clear c37b1
            try clear c37b2
            try clear c38
            try clear c38b0
            try clear c38b1
            try clear c39
            try clear c39b0
            try clear c39b1
            try clear c39b2
            try clear c41
            try clear c42
            try clear c42b0
            try clear c42b1
            try clear c42b2
            try clear p42
            try clear q42
            try clear hx42
            try clear c43
            try clear c43b0
            try clear c43b1
            try clear c44
            try clear c44b0
            try clear c44b1
            try clear c44b2
            try clear c45
            try clear c45b0
            try clear c45b1
            try clear c46
            try clear c46b0
            try clear c46b1
            try clear c46b2
            try clear c47
            try clear c47b0
            try clear c47b1
            try clear c47b2
            try clear c48
            try clear c48b0
            try clear c48b1
            try clear c48b2
            try clear c49
            try clear c49b0
            try clear c49b1
            try clear c49b2
            try clear c54
            try clear c56
            try clear p64
            try clear c66
            try clear c66b0
            try clear c67
            try clear c67b0
            try clear c68
            try clear c68b0
            try clear c69
            try clear c70
            try clear c70b0
            try clear c70b1
            try clear c71
            try clear c72
            try clear c73
            try clear c74
            try clear c74b0
            try clear c74b1
            try clear c76
            try clear c76b0
            try clear c76b1
            try clear c78
            try clear c78b0
            try clear c78b1
            try clear c79
            try clear c79b0
            try clear c79b1
            try clear c80
            try clear c81
            try clear c81b0
            try clear c81b1
            try clear c82
            try clear c82b0
            try clear c82b1
            try clear c83
            try clear c83b0
            try clear c83b1
            try clear c84
            try clear c84b0
            try clear c84b1
            try clear c85
            try clear c85b0
            try clear c86
            try clear c86b0
            try clear c87
            try clear c87b0
            try clear c87b1
            try clear hx425_0
            try clear p2
            try clear p425
            try clear q425
            obtain ⟨kq, HA, HJ54, HB⟩ := hcut
            cases kq with
            | zero => exact absurd HA.out (by simp [laws_FnDigitsTellNumbers.j2])
            | succ kj54 =>
              have H := HA.out
              clear HA
              simp only [laws_FnDigitsTellNumbers.j2] at H
              replace H := Option.bind_eq_some_iff.mp H
              obtain ⟨⟨t428, t429⟩, A900, H⟩ := H
              replace H : ((impl_NumberOf.f kj54 t428 t429).bind fun bt432 => ((spec_NumberOf.f kj54 t428 t429).bind fun bt434 => ((impl_AreDigits.f t428 t429).bind fun bt436 => ((spec_AreDigits.f kj54 t428 t429).bind fun bt438 => ((spec_DrawParseNumber.f kj54 l1).bind fun bt440 => ((impl_ParseNumber.f kj54 bt440.1 bt440.2).bind fun bt442 => ((spec_ParseNumber.f kj54 bt440.1 bt440.2).bind fun bt444 => (if (bt432.2 != bt434.2) = true then (laws_FnDigitsTellNumbers.j3 kj54 bt440.1 bt440.2 bt442.1 bt442.2 true) else (if bt432.1 = bt434.1 then (if (bt436.2 != bt438.2) = true then (laws_FnDigitsTellNumbers.j3 kj54 bt440.1 bt440.2 bt442.1 bt442.2 true) else (if (bt436.1 != bt438.1) = true then (laws_FnDigitsTellNumbers.j3 kj54 bt440.1 bt440.2 bt442.1 bt442.2 true) else (if (bt442.2 != bt444.2) = true then (laws_FnDigitsTellNumbers.j3 kj54 bt440.1 bt440.2 bt442.1 bt442.2 true) else (if bt442.1 = bt444.1 then (if bt432.2 = true then (laws_FnDigitsTellNumbers.j3 kj54 bt440.1 bt440.2 bt442.1 bt442.2 (!bt436.1)) else (laws_FnDigitsTellNumbers.j3 kj54 bt440.1 bt440.2 bt442.1 bt442.2 false)) else (laws_FnDigitsTellNumbers.j3 kj54 bt440.1 bt440.2 bt442.1 bt442.2 true))))) else (laws_FnDigitsTellNumbers.j3 kj54 bt440.1 bt440.2 bt442.1 bt442.2 true)))))))))) = some r := H
              have A90 := Aside0.mk A900
              clear A900
              replace H := Option.bind_eq_some_iff.mp H
              obtain ⟨⟨t432, t433⟩, A910, H⟩ := H
              replace H : ((spec_NumberOf.f kj54 t428 t429).bind fun bt434 => ((impl_AreDigits.f t428 t429).bind fun bt436 => ((spec_AreDigits.f kj54 t428 t429).bind fun bt438 => ((spec_DrawParseNumber.f kj54 l1).bind fun bt440 => ((impl_ParseNumber.f kj54 bt440.1 bt440.2).bind fun bt442 => ((spec_ParseNumber.f kj54 bt440.1 bt440.2).bind fun bt444 => (if (t433 != bt434.2) = true then (laws_FnDigitsTellNumbers.j3 kj54 bt440.1 bt440.2 bt442.1 bt442.2 true) else (if t432 = bt434.1 then (if (bt436.2 != bt438.2) = true then (laws_FnDigitsTellNumbers.j3 kj54 bt440.1 bt440.2 bt442.1 bt442.2 true) else (if (bt436.1 != bt438.1) = true then (laws_FnDigitsTellNumbers.j3 kj54 bt440.1 bt440.2 bt442.1 bt442.2 true) else (if (bt442.2 != bt444.2) = true then (laws_FnDigitsTellNumbers.j3 kj54 bt440.1 bt440.2 bt442.1 bt442.2 true) else (if bt442.1 = bt444.1 then (if t433 = true then (laws_FnDigitsTellNumbers.j3 kj54 bt440.1 bt440.2 bt442.1 bt442.2 (!bt436.1)) else (laws_FnDigitsTellNumbers.j3 kj54 bt440.1 bt440.2 bt442.1 bt442.2 false)) else (laws_FnDigitsTellNumbers.j3 kj54 bt440.1 bt440.2 bt442.1 bt442.2 true))))) else (laws_FnDigitsTellNumbers.j3 kj54 bt440.1 bt440.2 bt442.1 bt442.2 true))))))))) = some r := H
              have A91 := Aside0.mk A910
              clear A910
              replace H := Option.bind_eq_some_iff.mp H
              obtain ⟨⟨t434, t435⟩, A920, H⟩ := H
              replace H : ((impl_AreDigits.f t428 t429).bind fun bt436 => ((spec_AreDigits.f kj54 t428 t429).bind fun bt438 => ((spec_DrawParseNumber.f kj54 l1).bind fun bt440 => ((impl_ParseNumber.f kj54 bt440.1 bt440.2).bind fun bt442 => ((spec_ParseNumber.f kj54 bt440.1 bt440.2).bind fun bt444 => (if (t433 != t435) = true then (laws_FnDigitsTellNumbers.j3 kj54 bt440.1 bt440.2 bt442.1 bt442.2 true) else (if t432 = t434 then (if (bt436.2 != bt438.2) = true then (laws_FnDigitsTellNumbers.j3 kj54 bt440.1 bt440.2 bt442.1 bt442.2 true) else (if (bt436.1 != bt438.1) = true then (laws_FnDigitsTellNumbers.j3 kj54 bt440.1 bt440.2 bt442.1 bt442.2 true) else (if (bt442.2 != bt444.2) = true then (laws_FnDigitsTellNumbers.j3 kj54 bt440.1 bt440.2 bt442.1 bt442.2 true) else (if bt442.1 = bt444.1 then (if t433 = true then (laws_FnDigitsTellNumbers.j3 kj54 bt440.1 bt440.2 bt442.1 bt442.2 (!bt436.1)) else (laws_FnDigitsTellNumbers.j3 kj54 bt440.1 bt440.2 bt442.1 bt442.2 false)) else (laws_FnDigitsTellNumbers.j3 kj54 bt440.1 bt440.2 bt442.1 bt442.2 true))))) else (laws_FnDigitsTellNumbers.j3 kj54 bt440.1 bt440.2 bt442.1 bt442.2 true)))))))) = some r := H
              have A92 := Aside0.mk A920
              clear A920
              replace H := Option.bind_eq_some_iff.mp H
              obtain ⟨⟨t436, t437⟩, A930, H⟩ := H
              replace H : ((spec_AreDigits.f kj54 t428 t429).bind fun bt438 => ((spec_DrawParseNumber.f kj54 l1).bind fun bt440 => ((impl_ParseNumber.f kj54 bt440.1 bt440.2).bind fun bt442 => ((spec_ParseNumber.f kj54 bt440.1 bt440.2).bind fun bt444 => (if (t433 != t435) = true then (laws_FnDigitsTellNumbers.j3 kj54 bt440.1 bt440.2 bt442.1 bt442.2 true) else (if t432 = t434 then (if (t437 != bt438.2) = true then (laws_FnDigitsTellNumbers.j3 kj54 bt440.1 bt440.2 bt442.1 bt442.2 true) else (if (t436 != bt438.1) = true then (laws_FnDigitsTellNumbers.j3 kj54 bt440.1 bt440.2 bt442.1 bt442.2 true) else (if (bt442.2 != bt444.2) = true then (laws_FnDigitsTellNumbers.j3 kj54 bt440.1 bt440.2 bt442.1 bt442.2 true) else (if bt442.1 = bt444.1 then (if t433 = true then (laws_FnDigitsTellNumbers.j3 kj54 bt440.1 bt440.2 bt442.1 bt442.2 (!t436)) else (laws_FnDigitsTellNumbers.j3 kj54 bt440.1 bt440.2 bt442.1 bt442.2 false)) else (laws_FnDigitsTellNumbers.j3 kj54 bt440.1 bt440.2 bt442.1 bt442.2 true))))) else (laws_FnDigitsTellNumbers.j3 kj54 bt440.1 bt440.2 bt442.1 bt442.2 true))))))) = some r := H
              have A93 := Aside0.mk A930
              clear A930
              replace H := Option.bind_eq_some_iff.mp H
              obtain ⟨⟨t438, t439⟩, A940, H⟩ := H
              replace H : ((spec_DrawParseNumber.f kj54 l1).bind fun bt440 => ((impl_ParseNumber.f kj54 bt440.1 bt440.2).bind fun bt442 => ((spec_ParseNumber.f kj54 bt440.1 bt440.2).bind fun bt444 => (if (t433 != t435) = true then (laws_FnDigitsTellNumbers.j3 kj54 bt440.1 bt440.2 bt442.1 bt442.2 true) else (if t432 = t434 then (if (t437 != t439) = true then (laws_FnDigitsTellNumbers.j3 kj54 bt440.1 bt440.2 bt442.1 bt442.2 true) else (if (t436 != t438) = true then (laws_FnDigitsTellNumbers.j3 kj54 bt440.1 bt440.2 bt442.1 bt442.2 true) else (if (bt442.2 != bt444.2) = true then (laws_FnDigitsTellNumbers.j3 kj54 bt440.1 bt440.2 bt442.1 bt442.2 true) else (if bt442.1 = bt444.1 then (if t433 = true then (laws_FnDigitsTellNumbers.j3 kj54 bt440.1 bt440.2 bt442.1 bt442.2 (!t436)) else (laws_FnDigitsTellNumbers.j3 kj54 bt440.1 bt440.2 bt442.1 bt442.2 false)) else (laws_FnDigitsTellNumbers.j3 kj54 bt440.1 bt440.2 bt442.1 bt442.2 true))))) else (laws_FnDigitsTellNumbers.j3 kj54 bt440.1 bt440.2 bt442.1 bt442.2 true)))))) = some r := H
              have A94 := Aside0.mk A940
              clear A940
              replace H := Option.bind_eq_some_iff.mp H
              obtain ⟨⟨t440, t441⟩, A950, H⟩ := H
              replace H : ((impl_ParseNumber.f kj54 t440 t441).bind fun bt442 => ((spec_ParseNumber.f kj54 t440 t441).bind fun bt444 => (if (t433 != t435) = true then (laws_FnDigitsTellNumbers.j3 kj54 t440 t441 bt442.1 bt442.2 true) else (if t432 = t434 then (if (t437 != t439) = true then (laws_FnDigitsTellNumbers.j3 kj54 t440 t441 bt442.1 bt442.2 true) else (if (t436 != t438) = true then (laws_FnDigitsTellNumbers.j3 kj54 t440 t441 bt442.1 bt442.2 true) else (if (bt442.2 != bt444.2) = true then (laws_FnDigitsTellNumbers.j3 kj54 t440 t441 bt442.1 bt442.2 true) else (if bt442.1 = bt444.1 then (if t433 = true then (laws_FnDigitsTellNumbers.j3 kj54 t440 t441 bt442.1 bt442.2 (!t436)) else (laws_FnDigitsTellNumbers.j3 kj54 t440 t441 bt442.1 bt442.2 false)) else (laws_FnDigitsTellNumbers.j3 kj54 t440 t441 bt442.1 bt442.2 true))))) else (laws_FnDigitsTellNumbers.j3 kj54 t440 t441 bt442.1 bt442.2 true))))) = some r := H
              have A95 := Aside0.mk A950
              clear A950
              replace H := Option.bind_eq_some_iff.mp H
              obtain ⟨⟨t442, t443⟩, A960, H⟩ := H
              replace H : ((spec_ParseNumber.f kj54 t440 t441).bind fun bt444 => (if (t433 != t435) = true then (laws_FnDigitsTellNumbers.j3 kj54 t440 t441 t442 t443 true) else (if t432 = t434 then (if (t437 != t439) = true then (laws_FnDigitsTellNumbers.j3 kj54 t440 t441 t442 t443 true) else (if (t436 != t438) = true then (laws_FnDigitsTellNumbers.j3 kj54 t440 t441 t442 t443 true) else (if (t443 != bt444.2) = true then (laws_FnDigitsTellNumbers.j3 kj54 t440 t441 t442 t443 true) else (if t442 = bt444.1 then (if t433 = true then (laws_FnDigitsTellNumbers.j3 kj54 t440 t441 t442 t443 (!t436)) else (laws_FnDigitsTellNumbers.j3 kj54 t440 t441 t442 t443 false)) else (laws_FnDigitsTellNumbers.j3 kj54 t440 t441 t442 t443 true))))) else (laws_FnDigitsTellNumbers.j3 kj54 t440 t441 t442 t443 true)))) = some r := H
              have A96 := Aside0.mk A960
              clear A960
              replace H := Option.bind_eq_some_iff.mp H
              obtain ⟨⟨t444, t445⟩, A970, H⟩ := H
              replace H : (if (t433 != t435) = true then (laws_FnDigitsTellNumbers.j3 kj54 t440 t441 t442 t443 true) else (if t432 = t434 then (if (t437 != t439) = true then (laws_FnDigitsTellNumbers.j3 kj54 t440 t441 t442 t443 true) else (if (t436 != t438) = true then (laws_FnDigitsTellNumbers.j3 kj54 t440 t441 t442 t443 true) else (if (t443 != t445) = true then (laws_FnDigitsTellNumbers.j3 kj54 t440 t441 t442 t443 true) else (if t442 = t444 then (if t433 = true then (laws_FnDigitsTellNumbers.j3 kj54 t440 t441 t442 t443 (!t436)) else (laws_FnDigitsTellNumbers.j3 kj54 t440 t441 t442 t443 false)) else (laws_FnDigitsTellNumbers.j3 kj54 t440 t441 t442 t443 true))))) else (laws_FnDigitsTellNumbers.j3 kj54 t440 t441 t442 t443 true))) = some r := H
              have A97 := Aside0.mk A970
              clear A970
              have HC98 := Aside0.mk H
              clear H
              go_upto_region 39 with (first | ((with_reducible refine gate_callee (f := 89) rfl ?_); refine goesL_ (some 341) rfl rfl Try.func89 (by kernel_rfl) rfl #[.slice A1 l1.length c1] rfl (by (try simp only [List.map_toArray, List.map_cons, List.map_nil]); first | done | rfl | (simp only [List.length_drop, List.length_take]; rfl)) ?_; (with_reducible refine (spec_DrawNumberOf.calls kj54 _ _ l1 t428 t429 _ ?side1 ?side2 A90.out).mono ?_); (case side1 => repeat (first | exact (Kd.C_below HR1.out HB.out) | (with_reducible refine Kd.C_alloc ?_ _) | (with_reducible refine Kd.C_drewN ?_ _) | (with_reducible refine Kd.C_drew ?_))); (case side2 => exact HC1.out); rintro e w99 ⟨v430, rfl, ho0, hb⟩; refine ⟨_, rfl, ?_⟩; have n0_ := Aside0.mk (Kd.R_lower ho0 (below_size (by repeat (first | (with_reducible first | exact HB.out | apply below_alloc | apply pw_below_drewN | apply below_drew1) | exact HB.out)))); have n1_ := Aside0.mk (below_step (by repeat (first | (with_reducible first | exact HB.out | apply below_alloc | apply pw_below_drewN | apply below_drew1) | exact HB.out)) hb); clear HB; have HO431 := n0_; have HB := n1_; clear n0_ n1_; (try clear hb); (try clear hb2); (try clear hk); (try clear hi); (try clear ho0); obtain ⟨Ao100, co100, eo100⟩ := Kd.R_slice HO431.out; subst eo100) | ((with_reducible refine gate_callee (f := 84) rfl ?_); refine goesL_ (some 347) rfl rfl Try.func84 (by kernel_rfl) rfl #[.slice Ao100 t428.length co100, .int .i64 t429] rfl (by (try simp only [List.map_toArray, List.map_cons, List.map_nil]); first | done | rfl | (simp only [List.length_drop, List.length_take]; rfl)) ?_; (with_reducible refine (impl_NumberOf.calls kj54 _ _ t428 t429 t432 t433 _ ?side1 ?side2 A91.out).mono ?_); (case side1 => repeat (first | exact (Kd.R_reads' HO431.out).2.2 | (with_reducible refine Kd.C_alloc ?_ _) | (with_reducible refine Kd.C_drewN ?_ _) | (with_reducible refine Kd.C_drew ?_))); (case side2 => exact (Kd.R_reads' HO431.out).2.1); rintro e w101 ⟨rfl, hb⟩; refine ⟨_, rfl, ?_⟩; have n0_ := Aside0.mk (Kd.R_below (by (with_reducible repeat (first | apply Kd.R_alloc | apply Kd.R_drewN | apply Kd.R_drew)); exact HO431.out) hb); have n1_ := Aside0.mk (below_step (by repeat (first | (with_reducible first | exact HB.out | apply below_alloc | apply pw_below_drewN | apply below_drew1) | exact HB.out)) hb); clear HO431; clear HB; have HO431 := n0_; have HB := n1_; clear n0_ n1_; (try clear hb); (try clear hb2); (try clear hk); (try clear hi)) | ((with_reducible refine gate_callee (f := 90) rfl ?_); refine goesL_ (some 353) rfl rfl Try.func90 (by kernel_rfl) rfl #[.slice Ao100 t428.length co100, .int .i64 t429] rfl (by (try simp only [List.map_toArray, List.map_cons, List.map_nil]); first | done | rfl | (simp only [List.length_drop, List.length_take]; rfl)) ?_; (with_reducible refine (spec_NumberOf.calls kj54 _ _ t428 t429 t434 t435 _ ?side1 ?side2 A92.out).mono ?_); (case side1 => repeat (first | exact (Kd.R_reads' HO431.out).2.2 | (with_reducible refine Kd.C_alloc ?_ _) | (with_reducible refine Kd.C_drewN ?_ _) | (with_reducible refine Kd.C_drew ?_))); (case side2 => exact (Kd.R_reads' HO431.out).2.1); rintro e w' ⟨rfl, ⟨nd, rfl⟩⟩; refine ⟨_, rfl, ?_⟩) | ((with_reducible refine gate_callee (f := 85) rfl ?_); refine goesL_ (some 359) rfl rfl Try.func85 (by kernel_rfl) rfl #[.slice Ao100 t428.length co100, .int .i64 t429] rfl (by (try simp only [List.map_toArray, List.map_cons, List.map_nil]); first | done | rfl | (simp only [List.length_drop, List.length_take]; rfl)) ?_; (with_reducible refine (impl_AreDigits.calls _ _ t428 t429 t436 t437 _ ?side1 ?side2 A93.out).mono ?_); (case side1 => repeat (first | exact (Kd.R_reads' HO431.out).2.2 | (with_reducible refine Kd.C_alloc ?_ _) | (with_reducible refine Kd.C_drewN ?_ _) | (with_reducible refine Kd.C_drew ?_))); (case side2 => exact (Kd.R_reads' HO431.out).2.1); rintro e w102 ⟨rfl, hb⟩; refine ⟨_, rfl, ?_⟩; have n0_ := Aside0.mk (Kd.R_below (by (with_reducible repeat (first | apply Kd.R_alloc | apply Kd.R_drewN | apply Kd.R_drew)); exact HO431.out) hb); have n1_ := Aside0.mk (below_step (by repeat (first | (with_reducible first | exact HB.out | apply below_alloc | apply pw_below_drewN | apply below_drew1) | exact HB.out)) hb); clear HO431; clear HB; have HO431 := n0_; have HB := n1_; clear n0_ n1_; (try clear hb); (try clear hb2); (try clear hk); (try clear hi)) | ((with_reducible refine gate_callee (f := 91) rfl ?_); refine goesL_ (some 365) rfl rfl Try.func91 (by kernel_rfl) rfl #[.slice Ao100 t428.length co100, .int .i64 t429] rfl (by (try simp only [List.map_toArray, List.map_cons, List.map_nil]); first | done | rfl | (simp only [List.length_drop, List.length_take]; rfl)) ?_; (with_reducible refine (spec_AreDigits.calls kj54 _ _ t428 t429 t438 t439 _ ?side1 ?side2 A94.out).mono ?_); (case side1 => repeat (first | exact (Kd.R_reads' HO431.out).2.2 | (with_reducible refine Kd.C_alloc ?_ _) | (with_reducible refine Kd.C_drewN ?_ _) | (with_reducible refine Kd.C_drew ?_))); (case side2 => exact (Kd.R_reads' HO431.out).2.1); rintro e w' ⟨rfl, ⟨nd, rfl⟩⟩; refine ⟨_, rfl, ?_⟩) | ((with_reducible refine gate_callee (f := 92) rfl ?_); refine goesL_ (some 370) rfl rfl Try.func92 (by kernel_rfl) rfl #[.slice A1 l1.length c1] rfl (by (try simp only [List.map_toArray, List.map_cons, List.map_nil]); first | done | rfl | (simp only [List.length_drop, List.length_take]; rfl)) ?_; (with_reducible refine (spec_DrawParseNumber.calls kj54 _ _ l1 t440 t441 _ ?side1 ?side2 A95.out).mono ?_); (case side1 => repeat (first | exact (Kd.C_below HR1.out (by repeat (first | (with_reducible first | exact HB.out | apply below_alloc | apply pw_below_drewN | apply below_drew1) | exact HB.out))) | (with_reducible refine Kd.C_alloc ?_ _) | (with_reducible refine Kd.C_drewN ?_ _) | (with_reducible refine Kd.C_drew ?_))); (case side2 => exact HC1.out); rintro e w103 ⟨rfl, hb⟩; refine ⟨_, rfl, ?_⟩; have n0_ := Aside0.mk (Kd.R_below (by (with_reducible repeat (first | apply Kd.R_alloc | apply Kd.R_drewN | apply Kd.R_drew)); exact HO431.out) hb); have n1_ := Aside0.mk (below_step (by repeat (first | (with_reducible first | exact HB.out | apply below_alloc | apply pw_below_drewN | apply below_drew1) | exact HB.out)) hb); clear HO431; clear HB; have HO431 := n0_; have HB := n1_; clear n0_ n1_; (try clear hb); (try clear hb2); (try clear hk); (try clear hi)) | ((with_reducible refine gate_callee (f := 87) rfl ?_); refine goesL_ (some 376) rfl rfl Try.func87 (by kernel_rfl) rfl #[.string t440, .int .i64 t441] rfl (by (try simp only [List.map_toArray, List.map_cons, List.map_nil]); first | done | rfl | (simp only [List.length_drop, List.length_take]; rfl)) ?_; (with_reducible refine (impl_ParseNumber.calls kj54 t440 t441 t442 t443 _ A96.out).mono ?_); rintro e w104 ⟨rfl, hb⟩; refine ⟨_, rfl, ?_⟩; have n0_ := Aside0.mk (Kd.R_below (by (with_reducible repeat (first | apply Kd.R_alloc | apply Kd.R_drewN | apply Kd.R_drew)); exact HO431.out) hb); have n1_ := Aside0.mk (below_step (by repeat (first | (with_reducible first | exact HB.out | apply below_alloc | apply pw_below_drewN | apply below_drew1) | exact HB.out)) hb); clear HO431; clear HB; have HO431 := n0_; have HB := n1_; clear n0_ n1_; (try clear hb); (try clear hb2); (try clear hk); (try clear hi)) | ((with_reducible refine gate_callee (f := 93) rfl ?_); refine goesL_ (some 382) rfl rfl Try.func93 (by kernel_rfl) rfl #[.string t440, .int .i64 t441] rfl (by (try simp only [List.map_toArray, List.map_cons, List.map_nil]); first | done | rfl | (simp only [List.length_drop, List.length_take]; rfl)) ?_; (with_reducible refine (spec_ParseNumber.calls kj54 t440 t441 t444 t445 _ A97.out).mono ?_); rintro e w105 ⟨rfl, hb⟩; refine ⟨_, rfl, ?_⟩; have n0_ := Aside0.mk (Kd.R_below (by (with_reducible repeat (first | apply Kd.R_alloc | apply Kd.R_drewN | apply Kd.R_drew)); exact HO431.out) hb); have n1_ := Aside0.mk (below_step (by repeat (first | (with_reducible first | exact HB.out | apply below_alloc | apply pw_below_drewN | apply below_drew1) | exact HB.out)) hb); clear HO431; clear HB; have HO431 := n0_; have HB := n1_; clear n0_ n1_; (try clear hb); (try clear hb2); (try clear hk); (try clear hi)))
              (try simp only [Act.put, List.setIfInBounds_toArray, List.set_cons_zero, List.set_cons_succ])
              go_cut [419] (fun v419 wc => ∃ (kq : Nat) (x419_97 : Bool), v419 = .bool x419_97 ∧ Aside0 (laws_FnDigitsTellNumbers.j3 kq t440 t441 t442 t443 x419_97 = some r) ∧ Aside0 (kq ≤ kj54) ∧ Aside0 (Below w.heap.size w wc))
              case first =>
                as_aux_lemma =>
                have H := HC98.out
                clear HC98
                by_cases c106 : (t433 != t435) = true
                · rw [if_pos c106] at H
                  have c106b0 : (t433 != t435) = true := c106
                  (try (have c106b1 : decide (t433 = t435) = false := by simpa using c106))
                  (try (have c106b2 : (t433 == t435) = false := by simpa using c106))
                  (try (have c106b3 : ¬ (t433 = t435) := by simpa using c106))
                  clear c106
                  (first | rw [c106b0] | (simp only [i64_w, i32_w]; rw [c106b0]) | skip)
                  exact (laws_FnDigitsTellNumbers.j3_no HR_.out _ _ _ _ _ H).elim
                · rw [if_neg c106] at H
                  have c106b0 : (t433 != t435) = false := by simpa using c106
                  (try (have c106b1 : decide (t433 = t435) = true := by simpa using c106))
                  (try (have c106b2 : (t433 == t435) = true := by simpa using c106))
                  clear c106
                  (first | rw [c106b0] | (simp only [i64_w, i32_w]; rw [c106b0]) | skip)
                  by_cases c107 : t432 = t434
                  · rw [if_pos c107] at H
                    have c107b0 : (t432 == t434) = true := beq_iff_eq.mpr c107
                    have c107b1 : (t432 != t434) = false := bne_eq_false_iff_eq.mpr c107
                    clear c107
                    by_cases c108 : (t437 != t439) = true
                    · rw [if_pos c108] at H
                      have c108b0 : (t437 != t439) = true := c108
                      (try (have c108b1 : decide (t437 = t439) = false := by simpa using c108))
                      (try (have c108b2 : (t437 == t439) = false := by simpa using c108))
                      (try (have c108b3 : ¬ (t437 = t439) := by simpa using c108))
                      clear c108
                      exact (laws_FnDigitsTellNumbers.j3_no HR_.out _ _ _ _ _ H).elim
                    · rw [if_neg c108] at H
                      have c108b0 : (t437 != t439) = false := by simpa using c108
                      (try (have c108b1 : decide (t437 = t439) = true := by simpa using c108))
                      (try (have c108b2 : (t437 == t439) = true := by simpa using c108))
                      clear c108
                      by_cases c109 : (t436 != t438) = true
                      · rw [if_pos c109] at H
                        have c109b0 : (t436 != t438) = true := c109
                        (try (have c109b1 : decide (t436 = t438) = false := by simpa using c109))
                        (try (have c109b2 : (t436 == t438) = false := by simpa using c109))
                        (try (have c109b3 : ¬ (t436 = t438) := by simpa using c109))
                        clear c109
                        exact (laws_FnDigitsTellNumbers.j3_no HR_.out _ _ _ _ _ H).elim
                      · rw [if_neg c109] at H
                        have c109b0 : (t436 != t438) = false := by simpa using c109
                        (try (have c109b1 : decide (t436 = t438) = true := by simpa using c109))
                        (try (have c109b2 : (t436 == t438) = true := by simpa using c109))
                        clear c109
                        by_cases c110 : (t443 != t445) = true
                        · rw [if_pos c110] at H
                          have c110b0 : (t443 != t445) = true := c110
                          (try (have c110b1 : decide (t443 = t445) = false := by simpa using c110))
                          (try (have c110b2 : (t443 == t445) = false := by simpa using c110))
                          (try (have c110b3 : ¬ (t443 = t445) := by simpa using c110))
                          clear c110
                          exact (laws_FnDigitsTellNumbers.j3_no HR_.out _ _ _ _ _ H).elim
                        · rw [if_neg c110] at H
                          have c110b0 : (t443 != t445) = false := by simpa using c110
                          (try (have c110b1 : decide (t443 = t445) = true := by simpa using c110))
                          (try (have c110b2 : (t443 == t445) = true := by simpa using c110))
                          clear c110
                          by_cases c111 : t442 = t444
                          · rw [if_pos c111] at H
                            have c111b0 : (t442 == t444) = true := beq_iff_eq.mpr c111
                            have c111b1 : (t442 != t444) = false := bne_eq_false_iff_eq.mpr c111
                            clear c111
                            by_cases c112 : t433 = true
                            · subst c112
                              have H1 : (laws_FnDigitsTellNumbers.j3 kj54 t440 t441 t442 t443 (!t436)) = some r := by rw [if_pos rfl] at H; exact H
                              clear H
                              have H := H1
                              clear H1
                              as_aux_lemma =>
                                have H' := Aside0.mk H
                                clear H
                                go_wp2
                                go_meet
                                case rel => exact ⟨_, (!t436), (by first | rfl | (simp; done) | (simp [*]; done)), H', ⟨by have := HJ17.out; have := HJ54.out; first | omega | exact Nat.le_refl _⟩, ⟨by repeat (first | (with_reducible first | exact HB.out | apply below_alloc | apply pw_below_drewN | apply below_drew1) | exact HB.out)⟩⟩
                            · replace c112 := Bool.eq_false_iff.mpr c112
                              subst c112
                              have H1 : (laws_FnDigitsTellNumbers.j3 kj54 t440 t441 t442 t443 false) = some r := by rw [if_neg (show ¬ (false = true) by decide)] at H; exact H
                              clear H
                              have H := H1
                              clear H1
                              as_aux_lemma =>
                                have H' := Aside0.mk H
                                clear H
                                go_wp2
                                go_meet
                                case rel => exact ⟨_, (false), (by first | rfl | (simp; done) | (simp [*]; done)), H', ⟨by have := HJ17.out; have := HJ54.out; first | omega | exact Nat.le_refl _⟩, ⟨by repeat (first | (with_reducible first | exact HB.out | apply below_alloc | apply pw_below_drewN | apply below_drew1) | exact HB.out)⟩⟩
                          · rw [if_neg c111] at H
                            have c111b0 : (t442 == t444) = false := beq_eq_false_iff_ne.mpr c111
                            have c111b1 : (t442 != t444) = true := bne_iff_ne.mpr c111
                            exact (laws_FnDigitsTellNumbers.j3_no HR_.out _ _ _ _ _ H).elim
                  · rw [if_neg c107] at H
                    have c107b0 : (t432 == t434) = false := beq_eq_false_iff_ne.mpr c107
                    have c107b1 : (t432 != t434) = true := bne_iff_ne.mpr c107
                    exact (laws_FnDigitsTellNumbers.j3_no HR_.out _ _ _ _ _ H).elim
              case rest =>
                as_aux_lemma =>
                clear HC98
                try clear c1
                try clear p2
                try clear c3
                try clear c4
                try clear p4
                try clear q4
                try clear hx4
                try clear c5
                try clear c6
                try clear p6
                try clear c7
                try clear c8
                try clear c9
                try clear c10
                try clear c11
                try clear c15
                try clear c32
                try clear c32b0
                try clear c32b1
                try clear c32b2
                try clear c34
                try clear c35
                try clear c35b0
                try clear c35b1
                try clear c35b2
                try clear c36
                try clear c36b0
                try clear c36b1
                try clear c37
                try clear c37b0
                try clear c37b1
                try clear c37b2
                try clear c38
                try clear c38b0
                try clear c38b1
                try clear c39
                try clear c39b0
                try clear c39b1
                try clear c39b2
                try clear c41
                try clear c42
                try clear c42b0
                try clear c42b1
                try clear c42b2
                try clear p42
                try clear q42
                try clear hx42
                try clear c43
                try clear c43b0
                try clear c43b1
                try clear c44
                try clear c44b0
                try clear c44b1
                try clear c44b2
                try clear c45
                try clear c45b0
                try clear c45b1
                try clear c46
                try clear c46b0
                try clear c46b1
                try clear c46b2
                try clear c47
                try clear c47b0
                try clear c47b1
                try clear c47b2
                try clear c48
                try clear c48b0
                try clear c48b1
                try clear c48b2
                try clear c49
                try clear c49b0
                try clear c49b1
                try clear c49b2
                try clear c54
                try clear c56
                try clear p64
                try clear c66
                try clear c66b0
                try clear c67
                try clear c67b0
                try clear c68
                try clear c68b0
                try clear c69
                try clear c70
                try clear c70b0
                try clear c70b1
                try clear c71
                try clear c72
                try clear c73
                try clear c74
                try clear c74b0
                try clear c74b1
                try clear c76
                try clear c76b0
                try clear c76b1
                try clear c78
                try clear c78b0
                try clear c78b1
                try clear c79
                try clear c79b0
                try clear c79b1
                try clear c80
                try clear c81
                try clear c81b0
                try clear c81b1
                try clear c82
                try clear c82b0
                try clear c82b1
                try clear c83
                try clear c83b0
                try clear c83b1
                try clear c84
                try clear c84b0
                try clear c84b1
                try clear c85
                try clear c85b0
                try clear c86
                try clear c86b0
                try clear c87
                try clear c87b0
                try clear c87b1
                try clear c89
                try clear c90
                try clear c91
                try clear c92
                try clear c93
                try clear c106
                try clear c106b0
                try clear c106b1
                try clear c106b2
                try clear c107
                try clear c107b0
                try clear c107b1
                try clear c108
                try clear c108b0
                try clear c108b1
                try clear c108b2
                try clear c109
                try clear c109b0
                try clear c109b1
                try clear c109b2
                try clear c110
                try clear c110b0
                try clear c110b1
                try clear c110b2
                try clear c111
                try clear c111b0
                try clear c111b1
                try clear c112
                try clear hx425_0
                try clear p2
                try clear p4
                try clear p42
                try clear p425
                try clear p6
                try clear p64
                try clear q4
                try clear q42
                try clear q425
                obtain ⟨kq, x419_97, rfl, HA, HJ97, HB⟩ := hcut
                cases kq with
                | zero => exact absurd HA.out (by simp [laws_FnDigitsTellNumbers.j3])
                | succ kj97 =>
                  have H := HA.out
                  clear HA
                  simp only [laws_FnDigitsTellNumbers.j3] at H
                  by_cases c113 : x419_97 = true
                  · subst c113
                    have H1 : (some false) = some r := by rw [if_pos rfl] at H; exact H
                    clear H
                    have H := H1
                    clear H1
                    exact absurd (Option.some.inj H) (by rw [HR_.out]; decide)
                  · replace c113 := Bool.eq_false_iff.mpr c113
                    subst c113
                    have H1 : (if t443 = true then ((impl_NumberText.f kj97 t442 t441).bind fun bt446 => (if bt446.2 = true then (some (bt446.1.toList == t440.toList)) else (some false))) else (some true)) = some r := by rw [if_neg (show ¬ (false = true) by decide)] at H; exact H
                    clear H
                    have H := H1
                    clear H1
                    by_cases c114 : t443 = true
                    · subst c114
                      have H1 : ((impl_NumberText.f kj97 t442 t441).bind fun bt446 => (if bt446.2 = true then (some (bt446.1.toList == t440.toList)) else (some false))) = some r := by rw [if_pos rfl] at H; exact H
                      clear H
                      have H := H1
                      clear H1
                      replace H := Option.bind_eq_some_iff.mp H
                      obtain ⟨⟨t446, t447⟩, A1150, H⟩ := H
                      replace H : (if t447 = true then (some (t446.toList == t440.toList)) else (some false)) = some r := H
                      have A115 := Aside0.mk A1150
                      clear A1150
                      by_cases c116 : t447 = true
                      · subst c116
                        have H1 : (some (t446.toList == t440.toList)) = some r := by rw [if_pos rfl] at H; exact H
                        clear H
                        have H := H1
                        clear H1
                        as_aux_lemma =>
                          obtain rfl := Option.some.inj H
                          go_wp2_with (first | ((with_reducible refine gate_callee (f := 81) rfl ?_); refine goesL_ (some 424) rfl rfl Try.func81 (by kernel_rfl) rfl #[.int .i64 t442, .int .i64 t441] rfl (by (try simp only [List.map_toArray, List.map_cons, List.map_nil]); first | done | rfl | (simp only [List.length_drop, List.length_take]; rfl)) ?_; (with_reducible refine (impl_NumberText.calls kj97 t442 t441 t446 true _ A115.out).mono ?_); rintro e w117 ⟨rfl, hb⟩; refine ⟨_, rfl, ?_⟩; have n0_ := Aside0.mk (below_step (by repeat (first | (with_reducible first | exact HB.out | apply below_alloc | apply pw_below_drewN | apply below_drew1) | exact HB.out)) hb); clear HB; have HB := n0_; clear n0_; (try clear hb); (try clear hb2); (try clear hk); (try clear hi)))
                          go_ret
                          exact ⟨by first | rfl | (simp [errW_none, errW_some] <;> rfl) | (simp [*, errW_none, errW_some] <;> rfl), by repeat (first | (with_reducible first | exact HB.out | apply below_alloc | apply pw_below_drewN | apply below_drew1) | exact HB.out)⟩
                      · replace c116 := Bool.eq_false_iff.mpr c116
                        subst c116
                        have H1 : (some false) = some r := by rw [if_neg (show ¬ (false = true) by decide)] at H; exact H
                        clear H
                        have H := H1
                        clear H1
                        exact absurd (Option.some.inj H) (by rw [HR_.out]; decide)
                    · replace c114 := Bool.eq_false_iff.mpr c114
                      subst c114
                      have H1 : (some true) = some r := by rw [if_neg (show ¬ (false = true) by decide)] at H; exact H
                      clear H
                      have H := H1
                      clear H1
                      as_aux_lemma =>
                        obtain rfl := Option.some.inj H
                        go_wp2
                        go_ret
                        exact ⟨by first | rfl | (simp [errW_none, errW_some] <;> rfl) | (simp [*, errW_none, errW_some] <;> rfl), by repeat (first | (with_reducible first | exact HB.out | apply below_alloc | apply pw_below_drewN | apply below_drew1) | exact HB.out)⟩

/-- THE ONE PURE STATEMENT of laws_FnDigitsTellNumbers: yours. -/
def laws_FnDigitsTellNumbers.Pure : Prop := ∀ (l0 : List Int) (l1 : List Int), l0.length ≤ maxLen → l0.length * 1 ≤ 140737488351232 → (∀ x ∈ l0, (Lit.int .u8 x).wf = true) → l1.length ≤ maxLen → l1.length * 1 ≤ 140737488351232 → (∀ x ∈ l1, (Lit.int .u8 x).wf = true) → ∃ k, laws_FnDigitsTellNumbers.f k l0 l1 = some true
theorem laws_FnDigitsTellNumbers.walk (P : laws_FnDigitsTellNumbers.Pure) (a0 : Option Addr) (len0 cap0 : Nat) (z0 : List Int) (a1 : Option Addr) (len1 cap1 : Nat) (z1 : List Int) (w : World) (w0 : (a0 = none ∧ len0 = 0 ∧ cap0 = 0 ∧ z0 = []) ∨ ∃ x, a0 = some x ∧ len0 ≤ cap0 ∧ cap0 ≤ maxLen ∧ z0.length = cap0 ∧ (∀ i, i < z0.length → w.cell? (x.add i) = some (.int .u8 (z0.getD i 0))) ∧ ∀ n ∈ z0, (Lit.int .u8 n).wf = true) (y0 : len0 * 1 ≤ 140737488351232) (w1 : (a1 = none ∧ len1 = 0 ∧ cap1 = 0 ∧ z1 = []) ∨ ∃ x, a1 = some x ∧ len1 ≤ cap1 ∧ cap1 ≤ maxLen ∧ z1.length = cap1 ∧ (∀ i, i < z1.length → w.cell? (x.add i) = some (.int .u8 (z1.getD i 0))) ∧ ∀ n ∈ z1, (Lit.int .u8 n).wf = true) (y1 : len1 * 1 ≤ 140737488351232) :
    Calls Try.prog 7 #[.slice a0 len0 cap0, .slice a1 len1 cap1] w fun e w' => e = .returned (.bool true) ∧ Below w.heap.size w w' := by
  obtain ⟨l0, rfl, hr0, hm0, hw0, hc0⟩ := ReadsInt.ofRowC w0
  obtain ⟨l1, rfl, hr1, hm1, hw1, hc1⟩ := ReadsInt.ofRowC w1
  obtain ⟨k, h⟩ := P l0 l1 hm0 y0 hw0 hm1 y1 hw1
  refine (laws_FnDigitsTellNumbers.calls k _ _ l0 _ _ l1 true w (Kd.C_of_reads (d := (0 : Int)) (h1 := fun _ => rfl) hr0) hc0 (Kd.C_of_reads (d := (0 : Int)) (h1 := fun _ => rfl) hr1) hc1 h rfl).mono ?_
  rintro e w' ⟨rfl, hd⟩
  exact ⟨rfl, hd⟩

end Go.Proofs.Ytiheocddlopfcaa.PFnDigitsTellNumbers
