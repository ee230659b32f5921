-- out of the kit's print, turned by wip/own_print.py
import Derived.Test.YtikkpehjleoplaaPFnCyclicNumbersx0
import Derived.Test.YtikkpehjleoplaaPFnCyclicNumbersx1
import Derived.Test.YtikkpehjleoplaaPFnCyclicNumbersx2
import Derived.Test.YtikkpehjleoplaaPFnCyclicNumbersx3
import Derived.Test.YtikkpehjleoplaaPFnCyclicNumbersx4
import Derived.Test.YtikkpehjleoplaaPFnCyclicNumbersx5
import Derived.Test.YtikkpehjleoplaaPFnCyclicNumbersx6
namespace Go.Proofs.Ytikkpehjleoplaa.PFnCyclicNumbers
open Go.RowKit Go.Proofs.YtikkpehjleoplaaW.PrintWords Go.Proofs.YtikkpehjleoplaaW.PrintLast Go.Proofs.YtikkpehjleoplaaW.PrintMore
attribute [local go_sem] max2_int min2_int max_two min_two max_three min_three max_four min_four   -- for this text's walks alone
set_option linter.unusedVariables false
set_option linter.unusedSimpArgs false

/-! ### laws_FnCyclicNumbers: function 12 -/
mutual
def laws_FnCyclicNumbers.j0 : Nat → List Int → Int → Int → Int → List Int → List Int → Bool → Bool → Option (Bool)
  | 0, _, _, _, _, _, _, _, _ => none
  | k + 1, x1, x5, x6, x7, x8, x9, x10, x83 => if x83 = true then (some false) else (if x10 = true then ((impl_RepetendOf.f k x5 x6 x7).bind fun bt344 => (if bt344.2 = true then (if (x8.length : Int) = (x9.length : Int) then ((some (([] : List Int) : List Int)).bind fun y348 => (if y348.length + x8.length < 17592186044416 then ((some (y348 ++ x8 : List Int)).bind fun y351 => (if y351.length + x9.length < 17592186044416 then ((laws_qSame.f k bt344.1 (y351 ++ x9)).bind fun t357 => (laws_FnCyclicNumbers.j1 k x1 x7 x8 x9 (!t357))) else (none))) else (none))) else (laws_FnCyclicNumbers.j1 k x1 x7 x8 x9 true)) else (laws_FnCyclicNumbers.j1 k x1 x7 x8 x9 true))) else (laws_FnCyclicNumbers.j3 k x1))
def laws_FnCyclicNumbers.j3 : Nat → List Int → Option (Bool)
  | 0, _ => none
  | k + 1, x1 => (spec_DrawTurnsOf.f x1).bind fun bt360 => ((impl_TurnsOf.f k bt360.1 bt360.2).bind fun bt362 => ((spec_TurnsOf.f k bt360.1 bt360.2).bind fun bt366 => ((impl_CyclicOf.f k bt360.1 bt360.2).bind fun bt370 => ((spec_CyclicOf.f k bt360.1 bt360.2).bind fun bt374 => (if (bt362.2 != bt366.2) = true then (laws_FnCyclicNumbers.j4 k x1 bt360.1 bt360.2 bt362.1 bt362.2 bt370.1 true) else ((laws_qSame.f k bt362.1 bt366.1).bind fun t378 => (if t378 = true then (if (bt370.2 != bt374.2) = true then (laws_FnCyclicNumbers.j4 k x1 bt360.1 bt360.2 bt362.1 bt362.2 bt370.1 true) else ((laws_qSame.f k bt370.1 bt374.1).bind fun t379 => (if t379 = true then (laws_FnCyclicNumbers.j4 k x1 bt360.1 bt360.2 bt362.1 bt362.2 bt370.1 (bt370.2 != bt362.2)) else (laws_FnCyclicNumbers.j4 k x1 bt360.1 bt360.2 bt362.1 bt362.2 bt370.1 true)))) else (laws_FnCyclicNumbers.j4 k x1 bt360.1 bt360.2 bt362.1 bt362.2 bt370.1 true))))))))
def laws_FnCyclicNumbers.j4 : Nat → List Int → Int → Int → List Int → Bool → List Int → Bool → Option (Bool)
  | 0, _, _, _, _, _, _, _ => none
  | k + 1, x1, x17, x18, x19, x20, x23, x182 => if x182 = true then (some false) else (if x20 = true then (laws_FnCyclicNumbers.l1 k x1 x17 x18 x23 x19 (x19.length : Int) 0) else (laws_FnCyclicNumbers.j8 k x1))
def laws_FnCyclicNumbers.j8 : Nat → List Int → Option (Bool)
  | 0, _ => none
  | k + 1, x1 => (spec_DrawFullPrimes.f x1).bind fun bt387 => ((impl_FullPrimes.f k bt387.1 bt387.2).bind fun bt389 => ((spec_FullPrimes.f k bt387.1 bt387.2).bind fun bt393 => (if (bt389.2 != bt393.2) = true then (laws_FnCyclicNumbers.j9 k bt387.1 bt389.1 true) else ((laws_qSame.f k bt389.1 bt393.1).bind fun t397 => (laws_FnCyclicNumbers.j9 k bt387.1 bt389.1 (!t397))))))
def laws_FnCyclicNumbers.j9 : Nat → Int → List Int → Bool → Option (Bool)
  | 0, _, _, _ => none
  | k + 1, x32, x34, x254 => if x254 = true then (some false) else (laws_FnCyclicNumbers.l3 k x32 x34 (x34.length : Int) 0)
def laws_FnCyclicNumbers.l3 : Nat → Int → List Int → Int → Int → Option (Bool)
  | 0, _, _, _, _ => none
  | k + 1, x32, x255, x256, x257 => if x257 < x256 then (if 0 ≤ x257 then (if x257 < (x255.length : Int) then ((impl_OrderOf.f k (rd x255 x257) x32).bind fun bt399 => ((impl_CyclicOf.f k (rd x255 x257) x32).bind fun bt401 => (if bt399.2 = true then (if bt399.1 = (wrap64 ((rd x255 x257) - 1)) then (if bt401.2 = true then (laws_FnCyclicNumbers.l3 k x32 x255 x256 (wrap64 (x257 + 1))) else (some false)) else (some false)) else (some false)))) else (none)) else (none)) else (some true)
def laws_FnCyclicNumbers.l1 : Nat → List Int → Int → Int → List Int → List Int → Int → Int → Option (Bool)
  | 0, _, _, _, _, _, _, _ => none
  | k + 1, x1, x17, x18, x23, x184, x185, x186 => if x186 < x185 then (if 0 ≤ x186 then (if x186 < (x184.length : Int) then ((impl_RepetendOf.f k (wrap64 (x186 + 1)) x17 x18).bind fun bt381 => (if bt381.2 = true then (laws_FnCyclicNumbers.j6 k x1 x17 x18 x23 (rd x184 x186) bt381.1 x184 x185 x186 ((bt381.1.length : Int) != (wrap64 (x17 - 1)))) else (laws_FnCyclicNumbers.j6 k x1 x17 x18 x23 (rd x184 x186) bt381.1 x184 x185 x186 true))) else (none)) else (none)) else (laws_FnCyclicNumbers.j8 k x1)
def laws_FnCyclicNumbers.j6 : Nat → List Int → Int → Int → List Int → Int → List Int → List Int → Int → Int → Bool → Option (Bool)
  | 0, _, _, _, _, _, _, _, _, _, _ => none
  | k + 1, x1, x17, x18, x23, x28, x29, x184, x185, x186, x207 => if x207 = true then (some false) else (laws_FnCyclicNumbers.l2 k x1 x17 x18 x23 x28 x29 x184 x185 x186 (x29.length : Int) 0)
def laws_FnCyclicNumbers.l2 : Nat → List Int → Int → Int → List Int → Int → List Int → List Int → Int → Int → Int → Int → Option (Bool)
  | 0, _, _, _, _, _, _, _, _, _, _, _ => none
  | k + 1, x1, x17, x18, x23, x28, x29, x184, x185, x186, x209, x210 => if x210 < x209 then (if 0 ≤ x210 then (if x210 < (x29.length : Int) then (if (x23.length : Int) = 0 then (none) else (if 0 ≤ (Int.tmod (wrap64 (x210 + x28)) (x23.length : Int)) then (if (Int.tmod (wrap64 (x210 + x28)) (x23.length : Int)) < (x23.length : Int) then (if (rd x29 x210) = (rd x23 (Int.tmod (wrap64 (x210 + x28)) (x23.length : Int))) then (laws_FnCyclicNumbers.l2 k x1 x17 x18 x23 x28 x29 x184 x185 x186 x209 (wrap64 (x210 + 1))) else (some false)) else (none)) else (none))) else (none)) else (none)) else (laws_FnCyclicNumbers.l1 k x1 x17 x18 x23 x184 x185 (wrap64 (x186 + 1)))
def laws_FnCyclicNumbers.j1 : Nat → List Int → Int → List Int → List Int → Bool → Option (Bool)
  | 0, _, _, _, _, _ => none
  | k + 1, x1, x7, x8, x9, x110 => if x110 = true then (some false) else (laws_FnCyclicNumbers.l0 k x1 x7 x8 x9 (x8.length : Int) 0)
def laws_FnCyclicNumbers.l0 : Nat → List Int → Int → List Int → List Int → Int → Int → Option (Bool)
  | 0, _, _, _, _, _, _ => none
  | k + 1, x1, x7, x8, x9, x112, x113 => if x113 < x112 then (if 0 ≤ x113 then (if x113 < (x8.length : Int) then (if x113 < (x9.length : Int) then (if (wrap64 ((rd x8 x113) + (rd x9 x113))) = (wrap64 (x7 - 1)) then (laws_FnCyclicNumbers.l0 k x1 x7 x8 x9 x112 (wrap64 (x113 + 1))) else (some false)) else (none)) else (none)) else (none)) else (laws_FnCyclicNumbers.j3 k x1)
end
def laws_FnCyclicNumbers.f (k : Nat) (l0 : List Int) (l1 : List Int) : Option (Bool) := (laws_big.f l0 l1).bind fun t324 => (if t324 = true then (some true) else ((spec_DrawHalvesOf.f l0).bind fun bt325 => ((impl_HalvesOf.f k bt325.1 bt325.2.1 bt325.2.2).bind fun bt328 => ((spec_HalvesOf.f k bt325.1 bt325.2.1 bt325.2.2).bind fun bt335 => (if (bt328.2.2 != bt335.2.2) = true then (laws_FnCyclicNumbers.j0 k l1 bt325.1 bt325.2.1 bt325.2.2 bt328.1 bt328.2.1 bt328.2.2 true) else ((laws_qSame.f k bt328.1 bt335.1).bind fun t342 => (if t342 = true then ((laws_qSame.f k bt328.2.1 bt335.2.1).bind fun t343 => (laws_FnCyclicNumbers.j0 k l1 bt325.1 bt325.2.1 bt325.2.2 bt328.1 bt328.2.1 bt328.2.2 (!t343))) else (laws_FnCyclicNumbers.j0 k l1 bt325.1 bt325.2.1 bt325.2.2 bt328.1 bt328.2.1 bt328.2.2 true))))))))
theorem laws_FnCyclicNumbers.mono_l : ∀ k, (∀ y0 y1 y2 y3 y4 y5 y6 y7, LeO (laws_FnCyclicNumbers.j0 k y0 y1 y2 y3 y4 y5 y6 y7) (laws_FnCyclicNumbers.j0 (k + 1) y0 y1 y2 y3 y4 y5 y6 y7)) ∧ (∀ y0, LeO (laws_FnCyclicNumbers.j3 k y0) (laws_FnCyclicNumbers.j3 (k + 1) y0)) ∧ (∀ y0 y1 y2 y3 y4 y5 y6, LeO (laws_FnCyclicNumbers.j4 k y0 y1 y2 y3 y4 y5 y6) (laws_FnCyclicNumbers.j4 (k + 1) y0 y1 y2 y3 y4 y5 y6)) ∧ (∀ y0, LeO (laws_FnCyclicNumbers.j8 k y0) (laws_FnCyclicNumbers.j8 (k + 1) y0)) ∧ (∀ y0 y1 y2, LeO (laws_FnCyclicNumbers.j9 k y0 y1 y2) (laws_FnCyclicNumbers.j9 (k + 1) y0 y1 y2)) ∧ (∀ y0 y1 y2 y3, LeO (laws_FnCyclicNumbers.l3 k y0 y1 y2 y3) (laws_FnCyclicNumbers.l3 (k + 1) y0 y1 y2 y3)) ∧ (∀ y0 y1 y2 y3 y4 y5 y6, LeO (laws_FnCyclicNumbers.l1 k y0 y1 y2 y3 y4 y5 y6) (laws_FnCyclicNumbers.l1 (k + 1) y0 y1 y2 y3 y4 y5 y6)) ∧ (∀ y0 y1 y2 y3 y4 y5 y6 y7 y8 y9, LeO (laws_FnCyclicNumbers.j6 k y0 y1 y2 y3 y4 y5 y6 y7 y8 y9) (laws_FnCyclicNumbers.j6 (k + 1) y0 y1 y2 y3 y4 y5 y6 y7 y8 y9)) ∧ (∀ y0 y1 y2 y3 y4 y5 y6 y7 y8 y9 y10, LeO (laws_FnCyclicNumbers.l2 k y0 y1 y2 y3 y4 y5 y6 y7 y8 y9 y10) (laws_FnCyclicNumbers.l2 (k + 1) y0 y1 y2 y3 y4 y5 y6 y7 y8 y9 y10)) ∧ (∀ y0 y1 y2 y3 y4, LeO (laws_FnCyclicNumbers.j1 k y0 y1 y2 y3 y4) (laws_FnCyclicNumbers.j1 (k + 1) y0 y1 y2 y3 y4)) ∧ (∀ y0 y1 y2 y3 y4 y5, LeO (laws_FnCyclicNumbers.l0 k y0 y1 y2 y3 y4 y5) (laws_FnCyclicNumbers.l0 (k + 1) y0 y1 y2 y3 y4 y5))
  | 0 => ⟨fun _ _ _ _ _ _ _ _ r h => by simp [laws_FnCyclicNumbers.j0] at h, fun _ r h => by simp [laws_FnCyclicNumbers.j3] at h, fun _ _ _ _ _ _ _ r h => by simp [laws_FnCyclicNumbers.j4] at h, fun _ r h => by simp [laws_FnCyclicNumbers.j8] at h, fun _ _ _ r h => by simp [laws_FnCyclicNumbers.j9] at h, fun _ _ _ _ r h => by simp [laws_FnCyclicNumbers.l3] at h, fun _ _ _ _ _ _ _ r h => by simp [laws_FnCyclicNumbers.l1] at h, fun _ _ _ _ _ _ _ _ _ _ r h => by simp [laws_FnCyclicNumbers.j6] at h, fun _ _ _ _ _ _ _ _ _ _ _ r h => by simp [laws_FnCyclicNumbers.l2] at h, fun _ _ _ _ _ r h => by simp [laws_FnCyclicNumbers.j1] at h, fun _ _ _ _ _ _ r h => by simp [laws_FnCyclicNumbers.l0] at h⟩
  | k + 1 => by
    obtain ⟨ih0, ih1, ih2, ih3, ih4, ih5, ih6, ih7, ih8, ih9, ih10⟩ := laws_FnCyclicNumbers.mono_l k
    refine ⟨?_, ?_, ?_, ?_, ?_, ?_, ?_, ?_, ?_, ?_, ?_⟩
    · intro y0 y1 y2 y3 y4 y5 y6 y7
      unfold laws_FnCyclicNumbers.j0
      repeat' first
      | (with_reducible exact ih0 _ _ _ _ _ _ _ _)
      | (with_reducible exact ih1 _)
      | (with_reducible exact ih2 _ _ _ _ _ _ _)
      | (with_reducible exact ih3 _)
      | (with_reducible exact ih4 _ _ _)
      | (with_reducible exact ih5 _ _ _ _)
      | (with_reducible exact ih6 _ _ _ _ _ _ _)
      | (with_reducible exact ih7 _ _ _ _ _ _ _ _ _ _)
      | (with_reducible exact ih8 _ _ _ _ _ _ _ _ _ _ _)
      | (with_reducible exact ih9 _ _ _ _ _)
      | (with_reducible exact ih10 _ _ _ _ _ _)
      | (with_reducible exact impl_CyclicOf.mono _ _ _)
      | (with_reducible exact impl_FullPrimes.mono _ _ _)
      | (with_reducible exact impl_HalvesOf.mono _ _ _ _)
      | (with_reducible exact impl_OrderOf.mono _ _ _)
      | (with_reducible exact impl_RepetendOf.mono _ _ _ _)
      | (with_reducible exact impl_TurnsOf.mono _ _ _)
      | (with_reducible exact laws_qSame.mono _ _ _)
      | (with_reducible exact spec_CyclicOf.mono _ _ _)
      | (with_reducible exact spec_FullPrimes.mono _ _ _)
      | (with_reducible exact spec_HalvesOf.mono _ _ _ _)
      | (with_reducible exact spec_TurnsOf.mono _ _ _)
      | (with_reducible exact LeO.refl _)
      | (with_reducible exact LeO.none _)
      | (with_reducible refine LeO.ite ?_ ?_)
      | (with_reducible refine LeO.bind ?_ (fun _ => ?_))
      | exact ih0 _ _ _ _ _ _ _ _
      | exact ih1 _
      | exact ih2 _ _ _ _ _ _ _
      | exact ih3 _
      | exact ih4 _ _ _
      | exact ih5 _ _ _ _
      | exact ih6 _ _ _ _ _ _ _
      | exact ih7 _ _ _ _ _ _ _ _ _ _
      | exact ih8 _ _ _ _ _ _ _ _ _ _ _
      | exact ih9 _ _ _ _ _
      | exact ih10 _ _ _ _ _ _
      | exact impl_CyclicOf.mono _ _ _
      | exact impl_FullPrimes.mono _ _ _
      | exact impl_HalvesOf.mono _ _ _ _
      | exact impl_OrderOf.mono _ _ _
      | exact impl_RepetendOf.mono _ _ _ _
      | exact impl_TurnsOf.mono _ _ _
      | exact laws_qSame.mono _ _ _
      | exact spec_CyclicOf.mono _ _ _
      | exact spec_FullPrimes.mono _ _ _
      | exact spec_HalvesOf.mono _ _ _ _
      | exact spec_TurnsOf.mono _ _ _
      | exact LeO.none _
      | refine LeO.ite ?_ ?_
      | refine LeO.bind ?_ (fun _ => ?_)
    · intro y0
      unfold laws_FnCyclicNumbers.j3
      repeat' first
      | (with_reducible exact ih0 _ _ _ _ _ _ _ _)
      | (with_reducible exact ih1 _)
      | (with_reducible exact ih2 _ _ _ _ _ _ _)
      | (with_reducible exact ih3 _)
      | (with_reducible exact ih4 _ _ _)
      | (with_reducible exact ih5 _ _ _ _)
      | (with_reducible exact ih6 _ _ _ _ _ _ _)
      | (with_reducible exact ih7 _ _ _ _ _ _ _ _ _ _)
      | (with_reducible exact ih8 _ _ _ _ _ _ _ _ _ _ _)
      | (with_reducible exact ih9 _ _ _ _ _)
      | (with_reducible exact ih10 _ _ _ _ _ _)
      | (with_reducible exact impl_CyclicOf.mono _ _ _)
      | (with_reducible exact impl_FullPrimes.mono _ _ _)
      | (with_reducible exact impl_HalvesOf.mono _ _ _ _)
      | (with_reducible exact impl_OrderOf.mono _ _ _)
      | (with_reducible exact impl_RepetendOf.mono _ _ _ _)
      | (with_reducible exact impl_TurnsOf.mono _ _ _)
      | (with_reducible exact laws_qSame.mono _ _ _)
      | (with_reducible exact spec_CyclicOf.mono _ _ _)
      | (with_reducible exact spec_FullPrimes.mono _ _ _)
      | (with_reducible exact spec_HalvesOf.mono _ _ _ _)
      | (with_reducible exact spec_TurnsOf.mono _ _ _)
      | (with_reducible exact LeO.refl _)
      | (with_reducible exact LeO.none _)
      | (with_reducible refine LeO.ite ?_ ?_)
      | (with_reducible refine LeO.bind ?_ (fun _ => ?_))
      | exact ih0 _ _ _ _ _ _ _ _
      | exact ih1 _
      | exact ih2 _ _ _ _ _ _ _
      | exact ih3 _
      | exact ih4 _ _ _
      | exact ih5 _ _ _ _
      | exact ih6 _ _ _ _ _ _ _
      | exact ih7 _ _ _ _ _ _ _ _ _ _
      | exact ih8 _ _ _ _ _ _ _ _ _ _ _
      | exact ih9 _ _ _ _ _
      | exact ih10 _ _ _ _ _ _
      | exact impl_CyclicOf.mono _ _ _
      | exact impl_FullPrimes.mono _ _ _
      | exact impl_HalvesOf.mono _ _ _ _
      | exact impl_OrderOf.mono _ _ _
      | exact impl_RepetendOf.mono _ _ _ _
      | exact impl_TurnsOf.mono _ _ _
      | exact laws_qSame.mono _ _ _
      | exact spec_CyclicOf.mono _ _ _
      | exact spec_FullPrimes.mono _ _ _
      | exact spec_HalvesOf.mono _ _ _ _
      | exact spec_TurnsOf.mono _ _ _
      | exact LeO.none _
      | refine LeO.ite ?_ ?_
      | refine LeO.bind ?_ (fun _ => ?_)
    · intro y0 y1 y2 y3 y4 y5 y6
      unfold laws_FnCyclicNumbers.j4
      repeat' first
      | (with_reducible exact ih0 _ _ _ _ _ _ _ _)
      | (with_reducible exact ih1 _)
      | (with_reducible exact ih2 _ _ _ _ _ _ _)
      | (with_reducible exact ih3 _)
      | (with_reducible exact ih4 _ _ _)
      | (with_reducible exact ih5 _ _ _ _)
      | (with_reducible exact ih6 _ _ _ _ _ _ _)
      | (with_reducible exact ih7 _ _ _ _ _ _ _ _ _ _)
      | (with_reducible exact ih8 _ _ _ _ _ _ _ _ _ _ _)
      | (with_reducible exact ih9 _ _ _ _ _)
      | (with_reducible exact ih10 _ _ _ _ _ _)
      | (with_reducible exact impl_CyclicOf.mono _ _ _)
      | (with_reducible exact impl_FullPrimes.mono _ _ _)
      | (with_reducible exact impl_HalvesOf.mono _ _ _ _)
      | (with_reducible exact impl_OrderOf.mono _ _ _)
      | (with_reducible exact impl_RepetendOf.mono _ _ _ _)
      | (with_reducible exact impl_TurnsOf.mono _ _ _)
      | (with_reducible exact laws_qSame.mono _ _ _)
      | (with_reducible exact spec_CyclicOf.mono _ _ _)
      | (with_reducible exact spec_FullPrimes.mono _ _ _)
      | (with_reducible exact spec_HalvesOf.mono _ _ _ _)
      | (with_reducible exact spec_TurnsOf.mono _ _ _)
      | (with_reducible exact LeO.refl _)
      | (with_reducible exact LeO.none _)
      | (with_reducible refine LeO.ite ?_ ?_)
      | (with_reducible refine LeO.bind ?_ (fun _ => ?_))
      | exact ih0 _ _ _ _ _ _ _ _
      | exact ih1 _
      | exact ih2 _ _ _ _ _ _ _
      | exact ih3 _
      | exact ih4 _ _ _
      | exact ih5 _ _ _ _
      | exact ih6 _ _ _ _ _ _ _
      | exact ih7 _ _ _ _ _ _ _ _ _ _
      | exact ih8 _ _ _ _ _ _ _ _ _ _ _
      | exact ih9 _ _ _ _ _
      | exact ih10 _ _ _ _ _ _
      | exact impl_CyclicOf.mono _ _ _
      | exact impl_FullPrimes.mono _ _ _
      | exact impl_HalvesOf.mono _ _ _ _
      | exact impl_OrderOf.mono _ _ _
      | exact impl_RepetendOf.mono _ _ _ _
      | exact impl_TurnsOf.mono _ _ _
      | exact laws_qSame.mono _ _ _
      | exact spec_CyclicOf.mono _ _ _
      | exact spec_FullPrimes.mono _ _ _
      | exact spec_HalvesOf.mono _ _ _ _
      | exact spec_TurnsOf.mono _ _ _
      | exact LeO.none _
      | refine LeO.ite ?_ ?_
      | refine LeO.bind ?_ (fun _ => ?_)
    · intro y0
      unfold laws_FnCyclicNumbers.j8
      repeat' first
      | (with_reducible exact ih0 _ _ _ _ _ _ _ _)
      | (with_reducible exact ih1 _)
      | (with_reducible exact ih2 _ _ _ _ _ _ _)
      | (with_reducible exact ih3 _)
      | (with_reducible exact ih4 _ _ _)
      | (with_reducible exact ih5 _ _ _ _)
      | (with_reducible exact ih6 _ _ _ _ _ _ _)
      | (with_reducible exact ih7 _ _ _ _ _ _ _ _ _ _)
      | (with_reducible exact ih8 _ _ _ _ _ _ _ _ _ _ _)
      | (with_reducible exact ih9 _ _ _ _ _)
      | (with_reducible exact ih10 _ _ _ _ _ _)
      | (with_reducible exact impl_CyclicOf.mono _ _ _)
      | (with_reducible exact impl_FullPrimes.mono _ _ _)
      | (with_reducible exact impl_HalvesOf.mono _ _ _ _)
      | (with_reducible exact impl_OrderOf.mono _ _ _)
      | (with_reducible exact impl_RepetendOf.mono _ _ _ _)
      | (with_reducible exact impl_TurnsOf.mono _ _ _)
      | (with_reducible exact laws_qSame.mono _ _ _)
      | (with_reducible exact spec_CyclicOf.mono _ _ _)
      | (with_reducible exact spec_FullPrimes.mono _ _ _)
      | (with_reducible exact spec_HalvesOf.mono _ _ _ _)
      | (with_reducible exact spec_TurnsOf.mono _ _ _)
      | (with_reducible exact LeO.refl _)
      | (with_reducible exact LeO.none _)
      | (with_reducible refine LeO.ite ?_ ?_)
      | (with_reducible refine LeO.bind ?_ (fun _ => ?_))
      | exact ih0 _ _ _ _ _ _ _ _
      | exact ih1 _
      | exact ih2 _ _ _ _ _ _ _
      | exact ih3 _
      | exact ih4 _ _ _
      | exact ih5 _ _ _ _
      | exact ih6 _ _ _ _ _ _ _
      | exact ih7 _ _ _ _ _ _ _ _ _ _
      | exact ih8 _ _ _ _ _ _ _ _ _ _ _
      | exact ih9 _ _ _ _ _
      | exact ih10 _ _ _ _ _ _
      | exact impl_CyclicOf.mono _ _ _
      | exact impl_FullPrimes.mono _ _ _
      | exact impl_HalvesOf.mono _ _ _ _
      | exact impl_OrderOf.mono _ _ _
      | exact impl_RepetendOf.mono _ _ _ _
      | exact impl_TurnsOf.mono _ _ _
      | exact laws_qSame.mono _ _ _
      | exact spec_CyclicOf.mono _ _ _
      | exact spec_FullPrimes.mono _ _ _
      | exact spec_HalvesOf.mono _ _ _ _
      | exact spec_TurnsOf.mono _ _ _
      | exact LeO.none _
      | refine LeO.ite ?_ ?_
      | refine LeO.bind ?_ (fun _ => ?_)
    · intro y0 y1 y2
      unfold laws_FnCyclicNumbers.j9
      repeat' first
      | (with_reducible exact ih0 _ _ _ _ _ _ _ _)
      | (with_reducible exact ih1 _)
      | (with_reducible exact ih2 _ _ _ _ _ _ _)
      | (with_reducible exact ih3 _)
      | (with_reducible exact ih4 _ _ _)
      | (with_reducible exact ih5 _ _ _ _)
      | (with_reducible exact ih6 _ _ _ _ _ _ _)
      | (with_reducible exact ih7 _ _ _ _ _ _ _ _ _ _)
      | (with_reducible exact ih8 _ _ _ _ _ _ _ _ _ _ _)
      | (with_reducible exact ih9 _ _ _ _ _)
      | (with_reducible exact ih10 _ _ _ _ _ _)
      | (with_reducible exact impl_CyclicOf.mono _ _ _)
      | (with_reducible exact impl_FullPrimes.mono _ _ _)
      | (with_reducible exact impl_HalvesOf.mono _ _ _ _)
      | (with_reducible exact impl_OrderOf.mono _ _ _)
      | (with_reducible exact impl_RepetendOf.mono _ _ _ _)
      | (with_reducible exact impl_TurnsOf.mono _ _ _)
      | (with_reducible exact laws_qSame.mono _ _ _)
      | (with_reducible exact spec_CyclicOf.mono _ _ _)
      | (with_reducible exact spec_FullPrimes.mono _ _ _)
      | (with_reducible exact spec_HalvesOf.mono _ _ _ _)
      | (with_reducible exact spec_TurnsOf.mono _ _ _)
      | (with_reducible exact LeO.refl _)
      | (with_reducible exact LeO.none _)
      | (with_reducible refine LeO.ite ?_ ?_)
      | (with_reducible refine LeO.bind ?_ (fun _ => ?_))
      | exact ih0 _ _ _ _ _ _ _ _
      | exact ih1 _
      | exact ih2 _ _ _ _ _ _ _
      | exact ih3 _
      | exact ih4 _ _ _
      | exact ih5 _ _ _ _
      | exact ih6 _ _ _ _ _ _ _
      | exact ih7 _ _ _ _ _ _ _ _ _ _
      | exact ih8 _ _ _ _ _ _ _ _ _ _ _
      | exact ih9 _ _ _ _ _
      | exact ih10 _ _ _ _ _ _
      | exact impl_CyclicOf.mono _ _ _
      | exact impl_FullPrimes.mono _ _ _
      | exact impl_HalvesOf.mono _ _ _ _
      | exact impl_OrderOf.mono _ _ _
      | exact impl_RepetendOf.mono _ _ _ _
      | exact impl_TurnsOf.mono _ _ _
      | exact laws_qSame.mono _ _ _
      | exact spec_CyclicOf.mono _ _ _
      | exact spec_FullPrimes.mono _ _ _
      | exact spec_HalvesOf.mono _ _ _ _
      | exact spec_TurnsOf.mono _ _ _
      | exact LeO.none _
      | refine LeO.ite ?_ ?_
      | refine LeO.bind ?_ (fun _ => ?_)
    · intro y0 y1 y2 y3
      unfold laws_FnCyclicNumbers.l3
      repeat' first
      | (with_reducible exact ih0 _ _ _ _ _ _ _ _)
      | (with_reducible exact ih1 _)
      | (with_reducible exact ih2 _ _ _ _ _ _ _)
      | (with_reducible exact ih3 _)
      | (with_reducible exact ih4 _ _ _)
      | (with_reducible exact ih5 _ _ _ _)
      | (with_reducible exact ih6 _ _ _ _ _ _ _)
      | (with_reducible exact ih7 _ _ _ _ _ _ _ _ _ _)
      | (with_reducible exact ih8 _ _ _ _ _ _ _ _ _ _ _)
      | (with_reducible exact ih9 _ _ _ _ _)
      | (with_reducible exact ih10 _ _ _ _ _ _)
      | (with_reducible exact impl_CyclicOf.mono _ _ _)
      | (with_reducible exact impl_FullPrimes.mono _ _ _)
      | (with_reducible exact impl_HalvesOf.mono _ _ _ _)
      | (with_reducible exact impl_OrderOf.mono _ _ _)
      | (with_reducible exact impl_RepetendOf.mono _ _ _ _)
      | (with_reducible exact impl_TurnsOf.mono _ _ _)
      | (with_reducible exact laws_qSame.mono _ _ _)
      | (with_reducible exact spec_CyclicOf.mono _ _ _)
      | (with_reducible exact spec_FullPrimes.mono _ _ _)
      | (with_reducible exact spec_HalvesOf.mono _ _ _ _)
      | (with_reducible exact spec_TurnsOf.mono _ _ _)
      | (with_reducible exact LeO.refl _)
      | (with_reducible exact LeO.none _)
      | (with_reducible refine LeO.ite ?_ ?_)
      | (with_reducible refine LeO.bind ?_ (fun _ => ?_))
      | exact ih0 _ _ _ _ _ _ _ _
      | exact ih1 _
      | exact ih2 _ _ _ _ _ _ _
      | exact ih3 _
      | exact ih4 _ _ _
      | exact ih5 _ _ _ _
      | exact ih6 _ _ _ _ _ _ _
      | exact ih7 _ _ _ _ _ _ _ _ _ _
      | exact ih8 _ _ _ _ _ _ _ _ _ _ _
      | exact ih9 _ _ _ _ _
      | exact ih10 _ _ _ _ _ _
      | exact impl_CyclicOf.mono _ _ _
      | exact impl_FullPrimes.mono _ _ _
      | exact impl_HalvesOf.mono _ _ _ _
      | exact impl_OrderOf.mono _ _ _
      | exact impl_RepetendOf.mono _ _ _ _
      | exact impl_TurnsOf.mono _ _ _
      | exact laws_qSame.mono _ _ _
      | exact spec_CyclicOf.mono _ _ _
      | exact spec_FullPrimes.mono _ _ _
      | exact spec_HalvesOf.mono _ _ _ _
      | exact spec_TurnsOf.mono _ _ _
      | exact LeO.none _
      | refine LeO.ite ?_ ?_
      | refine LeO.bind ?_ (fun _ => ?_)
    · intro y0 y1 y2 y3 y4 y5 y6
      unfold laws_FnCyclicNumbers.l1
      repeat' first
      | (with_reducible exact ih0 _ _ _ _ _ _ _ _)
      | (with_reducible exact ih1 _)
      | (with_reducible exact ih2 _ _ _ _ _ _ _)
      | (with_reducible exact ih3 _)
      | (with_reducible exact ih4 _ _ _)
      | (with_reducible exact ih5 _ _ _ _)
      | (with_reducible exact ih6 _ _ _ _ _ _ _)
      | (with_reducible exact ih7 _ _ _ _ _ _ _ _ _ _)
      | (with_reducible exact ih8 _ _ _ _ _ _ _ _ _ _ _)
      | (with_reducible exact ih9 _ _ _ _ _)
      | (with_reducible exact ih10 _ _ _ _ _ _)
      | (with_reducible exact impl_CyclicOf.mono _ _ _)
      | (with_reducible exact impl_FullPrimes.mono _ _ _)
      | (with_reducible exact impl_HalvesOf.mono _ _ _ _)
      | (with_reducible exact impl_OrderOf.mono _ _ _)
      | (with_reducible exact impl_RepetendOf.mono _ _ _ _)
      | (with_reducible exact impl_TurnsOf.mono _ _ _)
      | (with_reducible exact laws_qSame.mono _ _ _)
      | (with_reducible exact spec_CyclicOf.mono _ _ _)
      | (with_reducible exact spec_FullPrimes.mono _ _ _)
      | (with_reducible exact spec_HalvesOf.mono _ _ _ _)
      | (with_reducible exact spec_TurnsOf.mono _ _ _)
      | (with_reducible exact LeO.refl _)
      | (with_reducible exact LeO.none _)
      | (with_reducible refine LeO.ite ?_ ?_)
      | (with_reducible refine LeO.bind ?_ (fun _ => ?_))
      | exact ih0 _ _ _ _ _ _ _ _
      | exact ih1 _
      | exact ih2 _ _ _ _ _ _ _
      | exact ih3 _
      | exact ih4 _ _ _
      | exact ih5 _ _ _ _
      | exact ih6 _ _ _ _ _ _ _
      | exact ih7 _ _ _ _ _ _ _ _ _ _
      | exact ih8 _ _ _ _ _ _ _ _ _ _ _
      | exact ih9 _ _ _ _ _
      | exact ih10 _ _ _ _ _ _
      | exact impl_CyclicOf.mono _ _ _
      | exact impl_FullPrimes.mono _ _ _
      | exact impl_HalvesOf.mono _ _ _ _
      | exact impl_OrderOf.mono _ _ _
      | exact impl_RepetendOf.mono _ _ _ _
      | exact impl_TurnsOf.mono _ _ _
      | exact laws_qSame.mono _ _ _
      | exact spec_CyclicOf.mono _ _ _
      | exact spec_FullPrimes.mono _ _ _
      | exact spec_HalvesOf.mono _ _ _ _
      | exact spec_TurnsOf.mono _ _ _
      | exact LeO.none _
      | refine LeO.ite ?_ ?_
      | refine LeO.bind ?_ (fun _ => ?_)
    · intro y0 y1 y2 y3 y4 y5 y6 y7 y8 y9
      unfold laws_FnCyclicNumbers.j6
      repeat' first
      | (with_reducible exact ih0 _ _ _ _ _ _ _ _)
      | (with_reducible exact ih1 _)
      | (with_reducible exact ih2 _ _ _ _ _ _ _)
      | (with_reducible exact ih3 _)
      | (with_reducible exact ih4 _ _ _)
      | (with_reducible exact ih5 _ _ _ _)
      | (with_reducible exact ih6 _ _ _ _ _ _ _)
      | (with_reducible exact ih7 _ _ _ _ _ _ _ _ _ _)
      | (with_reducible exact ih8 _ _ _ _ _ _ _ _ _ _ _)
      | (with_reducible exact ih9 _ _ _ _ _)
      | (with_reducible exact ih10 _ _ _ _ _ _)
      | (with_reducible exact impl_CyclicOf.mono _ _ _)
      | (with_reducible exact impl_FullPrimes.mono _ _ _)
      | (with_reducible exact impl_HalvesOf.mono _ _ _ _)
      | (with_reducible exact impl_OrderOf.mono _ _ _)
      | (with_reducible exact impl_RepetendOf.mono _ _ _ _)
      | (with_reducible exact impl_TurnsOf.mono _ _ _)
      | (with_reducible exact laws_qSame.mono _ _ _)
      | (with_reducible exact spec_CyclicOf.mono _ _ _)
      | (with_reducible exact spec_FullPrimes.mono _ _ _)
      | (with_reducible exact spec_HalvesOf.mono _ _ _ _)
      | (with_reducible exact spec_TurnsOf.mono _ _ _)
      | (with_reducible exact LeO.refl _)
      | (with_reducible exact LeO.none _)
      | (with_reducible refine LeO.ite ?_ ?_)
      | (with_reducible refine LeO.bind ?_ (fun _ => ?_))
      | exact ih0 _ _ _ _ _ _ _ _
      | exact ih1 _
      | exact ih2 _ _ _ _ _ _ _
      | exact ih3 _
      | exact ih4 _ _ _
      | exact ih5 _ _ _ _
      | exact ih6 _ _ _ _ _ _ _
      | exact ih7 _ _ _ _ _ _ _ _ _ _
      | exact ih8 _ _ _ _ _ _ _ _ _ _ _
      | exact ih9 _ _ _ _ _
      | exact ih10 _ _ _ _ _ _
      | exact impl_CyclicOf.mono _ _ _
      | exact impl_FullPrimes.mono _ _ _
      | exact impl_HalvesOf.mono _ _ _ _
      | exact impl_OrderOf.mono _ _ _
      | exact impl_RepetendOf.mono _ _ _ _
      | exact impl_TurnsOf.mono _ _ _
      | exact laws_qSame.mono _ _ _
      | exact spec_CyclicOf.mono _ _ _
      | exact spec_FullPrimes.mono _ _ _
      | exact spec_HalvesOf.mono _ _ _ _
      | exact spec_TurnsOf.mono _ _ _
      | exact LeO.none _
      | refine LeO.ite ?_ ?_
      | refine LeO.bind ?_ (fun _ => ?_)
    · intro y0 y1 y2 y3 y4 y5 y6 y7 y8 y9 y10
      unfold laws_FnCyclicNumbers.l2
      repeat' first
      | (with_reducible exact ih0 _ _ _ _ _ _ _ _)
      | (with_reducible exact ih1 _)
      | (with_reducible exact ih2 _ _ _ _ _ _ _)
      | (with_reducible exact ih3 _)
      | (with_reducible exact ih4 _ _ _)
      | (with_reducible exact ih5 _ _ _ _)
      | (with_reducible exact ih6 _ _ _ _ _ _ _)
      | (with_reducible exact ih7 _ _ _ _ _ _ _ _ _ _)
      | (with_reducible exact ih8 _ _ _ _ _ _ _ _ _ _ _)
      | (with_reducible exact ih9 _ _ _ _ _)
      | (with_reducible exact ih10 _ _ _ _ _ _)
      | (with_reducible exact impl_CyclicOf.mono _ _ _)
      | (with_reducible exact impl_FullPrimes.mono _ _ _)
      | (with_reducible exact impl_HalvesOf.mono _ _ _ _)
      | (with_reducible exact impl_OrderOf.mono _ _ _)
      | (with_reducible exact impl_RepetendOf.mono _ _ _ _)
      | (with_reducible exact impl_TurnsOf.mono _ _ _)
      | (with_reducible exact laws_qSame.mono _ _ _)
      | (with_reducible exact spec_CyclicOf.mono _ _ _)
      | (with_reducible exact spec_FullPrimes.mono _ _ _)
      | (with_reducible exact spec_HalvesOf.mono _ _ _ _)
      | (with_reducible exact spec_TurnsOf.mono _ _ _)
      | (with_reducible exact LeO.refl _)
      | (with_reducible exact LeO.none _)
      | (with_reducible refine LeO.ite ?_ ?_)
      | (with_reducible refine LeO.bind ?_ (fun _ => ?_))
      | exact ih0 _ _ _ _ _ _ _ _
      | exact ih1 _
      | exact ih2 _ _ _ _ _ _ _
      | exact ih3 _
      | exact ih4 _ _ _
      | exact ih5 _ _ _ _
      | exact ih6 _ _ _ _ _ _ _
      | exact ih7 _ _ _ _ _ _ _ _ _ _
      | exact ih8 _ _ _ _ _ _ _ _ _ _ _
      | exact ih9 _ _ _ _ _
      | exact ih10 _ _ _ _ _ _
      | exact impl_CyclicOf.mono _ _ _
      | exact impl_FullPrimes.mono _ _ _
      | exact impl_HalvesOf.mono _ _ _ _
      | exact impl_OrderOf.mono _ _ _
      | exact impl_RepetendOf.mono _ _ _ _
      | exact impl_TurnsOf.mono _ _ _
      | exact laws_qSame.mono _ _ _
      | exact spec_CyclicOf.mono _ _ _
      | exact spec_FullPrimes.mono _ _ _
      | exact spec_HalvesOf.mono _ _ _ _
      | exact spec_TurnsOf.mono _ _ _
      | exact LeO.none _
      | refine LeO.ite ?_ ?_
      | refine LeO.bind ?_ (fun _ => ?_)
    · intro y0 y1 y2 y3 y4
      unfold laws_FnCyclicNumbers.j1
      repeat' first
      | (with_reducible exact ih0 _ _ _ _ _ _ _ _)
      | (with_reducible exact ih1 _)
      | (with_reducible exact ih2 _ _ _ _ _ _ _)
      | (with_reducible exact ih3 _)
      | (with_reducible exact ih4 _ _ _)
      | (with_reducible exact ih5 _ _ _ _)
      | (with_reducible exact ih6 _ _ _ _ _ _ _)
      | (with_reducible exact ih7 _ _ _ _ _ _ _ _ _ _)
      | (with_reducible exact ih8 _ _ _ _ _ _ _ _ _ _ _)
      | (with_reducible exact ih9 _ _ _ _ _)
      | (with_reducible exact ih10 _ _ _ _ _ _)
      | (with_reducible exact impl_CyclicOf.mono _ _ _)
      | (with_reducible exact impl_FullPrimes.mono _ _ _)
      | (with_reducible exact impl_HalvesOf.mono _ _ _ _)
      | (with_reducible exact impl_OrderOf.mono _ _ _)
      | (with_reducible exact impl_RepetendOf.mono _ _ _ _)
      | (with_reducible exact impl_TurnsOf.mono _ _ _)
      | (with_reducible exact laws_qSame.mono _ _ _)
      | (with_reducible exact spec_CyclicOf.mono _ _ _)
      | (with_reducible exact spec_FullPrimes.mono _ _ _)
      | (with_reducible exact spec_HalvesOf.mono _ _ _ _)
      | (with_reducible exact spec_TurnsOf.mono _ _ _)
      | (with_reducible exact LeO.refl _)
      | (with_reducible exact LeO.none _)
      | (with_reducible refine LeO.ite ?_ ?_)
      | (with_reducible refine LeO.bind ?_ (fun _ => ?_))
      | exact ih0 _ _ _ _ _ _ _ _
      | exact ih1 _
      | exact ih2 _ _ _ _ _ _ _
      | exact ih3 _
      | exact ih4 _ _ _
      | exact ih5 _ _ _ _
      | exact ih6 _ _ _ _ _ _ _
      | exact ih7 _ _ _ _ _ _ _ _ _ _
      | exact ih8 _ _ _ _ _ _ _ _ _ _ _
      | exact ih9 _ _ _ _ _
      | exact ih10 _ _ _ _ _ _
      | exact impl_CyclicOf.mono _ _ _
      | exact impl_FullPrimes.mono _ _ _
      | exact impl_HalvesOf.mono _ _ _ _
      | exact impl_OrderOf.mono _ _ _
      | exact impl_RepetendOf.mono _ _ _ _
      | exact impl_TurnsOf.mono _ _ _
      | exact laws_qSame.mono _ _ _
      | exact spec_CyclicOf.mono _ _ _
      | exact spec_FullPrimes.mono _ _ _
      | exact spec_HalvesOf.mono _ _ _ _
      | exact spec_TurnsOf.mono _ _ _
      | exact LeO.none _
      | refine LeO.ite ?_ ?_
      | refine LeO.bind ?_ (fun _ => ?_)
    · intro y0 y1 y2 y3 y4 y5
      unfold laws_FnCyclicNumbers.l0
      repeat' first
      | (with_reducible exact ih0 _ _ _ _ _ _ _ _)
      | (with_reducible exact ih1 _)
      | (with_reducible exact ih2 _ _ _ _ _ _ _)
      | (with_reducible exact ih3 _)
      | (with_reducible exact ih4 _ _ _)
      | (with_reducible exact ih5 _ _ _ _)
      | (with_reducible exact ih6 _ _ _ _ _ _ _)
      | (with_reducible exact ih7 _ _ _ _ _ _ _ _ _ _)
      | (with_reducible exact ih8 _ _ _ _ _ _ _ _ _ _ _)
      | (with_reducible exact ih9 _ _ _ _ _)
      | (with_reducible exact ih10 _ _ _ _ _ _)
      | (with_reducible exact impl_CyclicOf.mono _ _ _)
      | (with_reducible exact impl_FullPrimes.mono _ _ _)
      | (with_reducible exact impl_HalvesOf.mono _ _ _ _)
      | (with_reducible exact impl_OrderOf.mono _ _ _)
      | (with_reducible exact impl_RepetendOf.mono _ _ _ _)
      | (with_reducible exact impl_TurnsOf.mono _ _ _)
      | (with_reducible exact laws_qSame.mono _ _ _)
      | (with_reducible exact spec_CyclicOf.mono _ _ _)
      | (with_reducible exact spec_FullPrimes.mono _ _ _)
      | (with_reducible exact spec_HalvesOf.mono _ _ _ _)
      | (with_reducible exact spec_TurnsOf.mono _ _ _)
      | (with_reducible exact LeO.refl _)
      | (with_reducible exact LeO.none _)
      | (with_reducible refine LeO.ite ?_ ?_)
      | (with_reducible refine LeO.bind ?_ (fun _ => ?_))
      | exact ih0 _ _ _ _ _ _ _ _
      | exact ih1 _
      | exact ih2 _ _ _ _ _ _ _
      | exact ih3 _
      | exact ih4 _ _ _
      | exact ih5 _ _ _ _
      | exact ih6 _ _ _ _ _ _ _
      | exact ih7 _ _ _ _ _ _ _ _ _ _
      | exact ih8 _ _ _ _ _ _ _ _ _ _ _
      | exact ih9 _ _ _ _ _
      | exact ih10 _ _ _ _ _ _
      | exact impl_CyclicOf.mono _ _ _
      | exact impl_FullPrimes.mono _ _ _
      | exact impl_HalvesOf.mono _ _ _ _
      | exact impl_OrderOf.mono _ _ _
      | exact impl_RepetendOf.mono _ _ _ _
      | exact impl_TurnsOf.mono _ _ _
      | exact laws_qSame.mono _ _ _
      | exact spec_CyclicOf.mono _ _ _
      | exact spec_FullPrimes.mono _ _ _
      | exact spec_HalvesOf.mono _ _ _ _
      | exact spec_TurnsOf.mono _ _ _
      | exact LeO.none _
      | refine LeO.ite ?_ ?_
      | refine LeO.bind ?_ (fun _ => ?_)
theorem laws_FnCyclicNumbers.mono : ∀ a0 a1 k, LeO (laws_FnCyclicNumbers.f k a0 a1) (laws_FnCyclicNumbers.f (k + 1) a0 a1) := by
  intro a0 a1 k
  obtain ⟨ih0, ih1, ih2, ih3, ih4, ih5, ih6, ih7, ih8, ih9, ih10⟩ := laws_FnCyclicNumbers.mono_l k
  unfold laws_FnCyclicNumbers.f
  repeat' first
      | (with_reducible exact ih0 _ _ _ _ _ _ _ _)
      | (with_reducible exact ih1 _)
      | (with_reducible exact ih2 _ _ _ _ _ _ _)
      | (with_reducible exact ih3 _)
      | (with_reducible exact ih4 _ _ _)
      | (with_reducible exact ih5 _ _ _ _)
      | (with_reducible exact ih6 _ _ _ _ _ _ _)
      | (with_reducible exact ih7 _ _ _ _ _ _ _ _ _ _)
      | (with_reducible exact ih8 _ _ _ _ _ _ _ _ _ _ _)
      | (with_reducible exact ih9 _ _ _ _ _)
      | (with_reducible exact ih10 _ _ _ _ _ _)
      | (with_reducible exact impl_CyclicOf.mono _ _ _)
      | (with_reducible exact impl_FullPrimes.mono _ _ _)
      | (with_reducible exact impl_HalvesOf.mono _ _ _ _)
      | (with_reducible exact impl_OrderOf.mono _ _ _)
      | (with_reducible exact impl_RepetendOf.mono _ _ _ _)
      | (with_reducible exact impl_TurnsOf.mono _ _ _)
      | (with_reducible exact laws_qSame.mono _ _ _)
      | (with_reducible exact spec_CyclicOf.mono _ _ _)
      | (with_reducible exact spec_FullPrimes.mono _ _ _)
      | (with_reducible exact spec_HalvesOf.mono _ _ _ _)
      | (with_reducible exact spec_TurnsOf.mono _ _ _)
      | (with_reducible exact LeO.refl _)
      | (with_reducible exact LeO.none _)
      | (with_reducible refine LeO.ite ?_ ?_)
      | (with_reducible refine LeO.bind ?_ (fun _ => ?_))
      | exact ih0 _ _ _ _ _ _ _ _
      | exact ih1 _
      | exact ih2 _ _ _ _ _ _ _
      | exact ih3 _
      | exact ih4 _ _ _
      | exact ih5 _ _ _ _
      | exact ih6 _ _ _ _ _ _ _
      | exact ih7 _ _ _ _ _ _ _ _ _ _
      | exact ih8 _ _ _ _ _ _ _ _ _ _ _
      | exact ih9 _ _ _ _ _
      | exact ih10 _ _ _ _ _ _
      | exact impl_CyclicOf.mono _ _ _
      | exact impl_FullPrimes.mono _ _ _
      | exact impl_HalvesOf.mono _ _ _ _
      | exact impl_OrderOf.mono _ _ _
      | exact impl_RepetendOf.mono _ _ _ _
      | exact impl_TurnsOf.mono _ _ _
      | exact laws_qSame.mono _ _ _
      | exact spec_CyclicOf.mono _ _ _
      | exact spec_FullPrimes.mono _ _ _
      | exact spec_HalvesOf.mono _ _ _ _
      | exact spec_TurnsOf.mono _ _ _
      | exact LeO.none _
      | refine LeO.ite ?_ ?_
      | refine LeO.bind ?_ (fun _ => ?_)
theorem laws_FnCyclicNumbers.j0_no {r : Bool} (hr : r = true) (k : Nat) (x1 : List Int) (x5 : Int) (x6 : Int) (x7 : Int) (x8 : List Int) (x9 : List Int) (x10 : Bool) (h : laws_FnCyclicNumbers.j0 k x1 x5 x6 x7 x8 x9 x10 true = some r) : False := by
  subst hr
  cases k with
  | zero => simp [laws_FnCyclicNumbers.j0] at h
  | succ k => simp [laws_FnCyclicNumbers.j0] at h
theorem laws_FnCyclicNumbers.j4_no {r : Bool} (hr : r = true) (k : Nat) (x1 : List Int) (x17 : Int) (x18 : Int) (x19 : List Int) (x20 : Bool) (x23 : List Int) (h : laws_FnCyclicNumbers.j4 k x1 x17 x18 x19 x20 x23 true = some r) : False := by
  subst hr
  cases k with
  | zero => simp [laws_FnCyclicNumbers.j4] at h
  | succ k => simp [laws_FnCyclicNumbers.j4] at h
theorem laws_FnCyclicNumbers.j9_no {r : Bool} (hr : r = true) (k : Nat) (x32 : Int) (x34 : List Int) (h : laws_FnCyclicNumbers.j9 k x32 x34 true = some r) : False := by
  subst hr
  cases k with
  | zero => simp [laws_FnCyclicNumbers.j9] at h
  | succ k => simp [laws_FnCyclicNumbers.j9] at h
theorem laws_FnCyclicNumbers.j6_no {r : Bool} (hr : r = true) (k : Nat) (x1 : List Int) (x17 : Int) (x18 : Int) (x23 : List Int) (x28 : Int) (x29 : List Int) (x184 : List Int) (x185 : Int) (x186 : Int) (h : laws_FnCyclicNumbers.j6 k x1 x17 x18 x23 x28 x29 x184 x185 x186 true = some r) : False := by
  subst hr
  cases k with
  | zero => simp [laws_FnCyclicNumbers.j6] at h
  | succ k => simp [laws_FnCyclicNumbers.j6] at h
theorem laws_FnCyclicNumbers.j1_no {r : Bool} (hr : r = true) (k : Nat) (x1 : List Int) (x7 : Int) (x8 : List Int) (x9 : List Int) (h : laws_FnCyclicNumbers.j1 k x1 x7 x8 x9 true = some r) : False := by
  subst hr
  cases k with
  | zero => simp [laws_FnCyclicNumbers.j1] at h
  | succ k => simp [laws_FnCyclicNumbers.j1] at h
set_option maxHeartbeats 8000000 in
set_option maxRecDepth 100000 in
theorem laws_FnCyclicNumbers.calls (k : Nat) (A0 : Option Addr) (c0 : Nat) (l0 : List Int) (A1 : Option Addr) (c1 : Nat) (l1 : List Int) (r : Bool) (w : World) (hr0 : Kd.C (Kd.int .u8) w A0 l0.length l0) (hc0 : l0.length ≤ c0) (hr1 : Kd.C (Kd.int .u8) w A1 l1.length l1) (hc1 : l1.length ≤ c1) (h : laws_FnCyclicNumbers.f k l0 l1 = some r) (hr_ : r = true) :
    Calls Try.prog 12 #[.slice A0 l0.length c0, .slice A1 l1.length c1] w fun e w' => e = .returned (.bool r) ∧ Below w.heap.size w w' := by
  have HR0 := Aside0.mk hr0
  have HC0 := Aside0.mk hc0
  clear hr0 hc0
  have HR1 := Aside0.mk hr1
  have HC1 := Aside0.mk hc1
  clear hr1 hc1
  have HB := Aside0.mk (Below.refl w.heap.size w)
  have H : ((laws_big.f l0 l1).bind fun t324 => (if t324 = true then (some true) else ((spec_DrawHalvesOf.f l0).bind fun bt325 => ((impl_HalvesOf.f k bt325.1 bt325.2.1 bt325.2.2).bind fun bt328 => ((spec_HalvesOf.f k bt325.1 bt325.2.1 bt325.2.2).bind fun bt335 => (if (bt328.2.2 != bt335.2.2) = true then (laws_FnCyclicNumbers.j0 k l1 bt325.1 bt325.2.1 bt325.2.2 bt328.1 bt328.2.1 bt328.2.2 true) else ((laws_qSame.f k bt328.1 bt335.1).bind fun t342 => (if t342 = true then ((laws_qSame.f k bt328.2.1 bt335.2.1).bind fun t343 => (laws_FnCyclicNumbers.j0 k l1 bt325.1 bt325.2.1 bt325.2.2 bt328.1 bt328.2.1 bt328.2.2 (!t343))) else (laws_FnCyclicNumbers.j0 k l1 bt325.1 bt325.2.1 bt325.2.2 bt328.1 bt328.2.1 bt328.2.2 true))))))))) = some r := h
  clear h
  have HR_ := Aside0.mk hr_
  clear hr_
  replace H := Option.bind_eq_some_iff.mp H
  obtain ⟨t324, A30, H⟩ := H
  replace H : (if t324 = true then (some true) else ((spec_DrawHalvesOf.f l0).bind fun bt325 => ((impl_HalvesOf.f k bt325.1 bt325.2.1 bt325.2.2).bind fun bt328 => ((spec_HalvesOf.f k bt325.1 bt325.2.1 bt325.2.2).bind fun bt335 => (if (bt328.2.2 != bt335.2.2) = true then (laws_FnCyclicNumbers.j0 k l1 bt325.1 bt325.2.1 bt325.2.2 bt328.1 bt328.2.1 bt328.2.2 true) else ((laws_qSame.f k bt328.1 bt335.1).bind fun t342 => (if t342 = true then ((laws_qSame.f k bt328.2.1 bt335.2.1).bind fun t343 => (laws_FnCyclicNumbers.j0 k l1 bt325.1 bt325.2.1 bt325.2.2 bt328.1 bt328.2.1 bt328.2.2 (!t343))) else (laws_FnCyclicNumbers.j0 k l1 bt325.1 bt325.2.1 bt325.2.2 bt328.1 bt328.2.1 bt328.2.2 true)))))))) = some r := H
  have A3 := Aside0.mk A30
  clear A30
  by_cases c4 : t324 = true
  · subst c4
    have H1 : (some true) = some r := by rw [if_pos rfl] at H; exact H
    clear H
    have H := H1
    clear H1
    as_aux_lemma =>
      obtain rfl := Option.some.inj H
      go_enter Try.func12, Try.ntmps12
      go_wp2_with (first | (go_at_call 25; (with_reducible refine (laws_big.calls _ _ l0 _ _ l1 true _ ?side1 ?side2 ?side3 ?side4 A3.out).mono ?_); (case side1 => repeat (first | exact HR0.out | (with_reducible refine Kd.C_alloc ?_ _) | (with_reducible refine Kd.C_drewN ?_ _) | (with_reducible refine Kd.C_drew ?_))); (case side2 => exact HC0.out); (case side3 => repeat (first | exact HR1.out | (with_reducible refine Kd.C_alloc ?_ _) | (with_reducible refine Kd.C_drewN ?_ _) | (with_reducible refine Kd.C_drew ?_))); (case side4 => exact HC1.out); rintro e w' ⟨rfl, ⟨nd, rfl⟩⟩; (try first | exact ⟨rfl, _, World.drewN_drewN _ _ _⟩ | exact ⟨rfl, _, Eq.trans (World.drewN_drewN _ _ _) (congrArg (World.drewN _) (Nat.add_assoc _ _ _))⟩)))
      repeat (go_quiet (first | (go_at_call 25; (with_reducible refine (laws_big.calls _ _ l0 _ _ l1 true _ ?side1 ?side2 ?side3 ?side4 A3.out).mono ?_); (case side1 => repeat (first | exact HR0.out | (with_reducible refine Kd.C_alloc ?_ _) | (with_reducible refine Kd.C_drewN ?_ _) | (with_reducible refine Kd.C_drew ?_))); (case side2 => exact HC0.out); (case side3 => repeat (first | exact HR1.out | (with_reducible refine Kd.C_alloc ?_ _) | (with_reducible refine Kd.C_drewN ?_ _) | (with_reducible refine Kd.C_drew ?_))); (case side4 => exact HC1.out); rintro e w' ⟨rfl, ⟨nd, rfl⟩⟩; (try first | exact ⟨rfl, _, World.drewN_drewN _ _ _⟩ | exact ⟨rfl, _, Eq.trans (World.drewN_drewN _ _ _) (congrArg (World.drewN _) (Nat.add_assoc _ _ _))⟩))); try go_wp2_with (first | (go_at_call 25; (with_reducible refine (laws_big.calls _ _ l0 _ _ l1 true _ ?side1 ?side2 ?side3 ?side4 A3.out).mono ?_); (case side1 => repeat (first | exact HR0.out | (with_reducible refine Kd.C_alloc ?_ _) | (with_reducible refine Kd.C_drewN ?_ _) | (with_reducible refine Kd.C_drew ?_))); (case side2 => exact HC0.out); (case side3 => repeat (first | exact HR1.out | (with_reducible refine Kd.C_alloc ?_ _) | (with_reducible refine Kd.C_drewN ?_ _) | (with_reducible refine Kd.C_drew ?_))); (case side4 => exact HC1.out); rintro e w' ⟨rfl, ⟨nd, rfl⟩⟩; (try first | exact ⟨rfl, _, World.drewN_drewN _ _ _⟩ | exact ⟨rfl, _, Eq.trans (World.drewN_drewN _ _ _) (congrArg (World.drewN _) (Nat.add_assoc _ _ _))⟩))))
      go_ret
      exact ⟨by first | rfl | (simp [errW_none, errW_some] <;> rfl) | (simp [*, errW_none, errW_some] <;> rfl), by repeat (first | (with_reducible first | exact HB.out | apply below_alloc | apply pw_below_drewN | apply below_drew1) | exact HB.out)⟩
  · replace c4 := Bool.eq_false_iff.mpr c4
    subst c4
    have H1 : ((spec_DrawHalvesOf.f l0).bind fun bt325 => ((impl_HalvesOf.f k bt325.1 bt325.2.1 bt325.2.2).bind fun bt328 => ((spec_HalvesOf.f k bt325.1 bt325.2.1 bt325.2.2).bind fun bt335 => (if (bt328.2.2 != bt335.2.2) = true then (laws_FnCyclicNumbers.j0 k l1 bt325.1 bt325.2.1 bt325.2.2 bt328.1 bt328.2.1 bt328.2.2 true) else ((laws_qSame.f k bt328.1 bt335.1).bind fun t342 => (if t342 = true then ((laws_qSame.f k bt328.2.1 bt335.2.1).bind fun t343 => (laws_FnCyclicNumbers.j0 k l1 bt325.1 bt325.2.1 bt325.2.2 bt328.1 bt328.2.1 bt328.2.2 (!t343))) else (laws_FnCyclicNumbers.j0 k l1 bt325.1 bt325.2.1 bt325.2.2 bt328.1 bt328.2.1 bt328.2.2 true))))))) = some r := by rw [if_neg (show ¬ (false = true) by decide)] at H; exact H
    clear H
    have H := H1
    clear H1
    replace H := Option.bind_eq_some_iff.mp H
    obtain ⟨⟨t325, t326, t327⟩, A50, H⟩ := H
    replace H : ((impl_HalvesOf.f k t325 t326 t327).bind fun bt328 => ((spec_HalvesOf.f k t325 t326 t327).bind fun bt335 => (if (bt328.2.2 != bt335.2.2) = true then (laws_FnCyclicNumbers.j0 k l1 t325 t326 t327 bt328.1 bt328.2.1 bt328.2.2 true) else ((laws_qSame.f k bt328.1 bt335.1).bind fun t342 => (if t342 = true then ((laws_qSame.f k bt328.2.1 bt335.2.1).bind fun t343 => (laws_FnCyclicNumbers.j0 k l1 t325 t326 t327 bt328.1 bt328.2.1 bt328.2.2 (!t343))) else (laws_FnCyclicNumbers.j0 k l1 t325 t326 t327 bt328.1 bt328.2.1 bt328.2.2 true)))))) = some r := H
    have A5 := Aside0.mk A50
    clear A50
    replace H := Option.bind_eq_some_iff.mp H
    obtain ⟨⟨t328, t329, t330⟩, A60, H⟩ := H
    replace H : ((spec_HalvesOf.f k t325 t326 t327).bind fun bt335 => (if (t330 != bt335.2.2) = true then (laws_FnCyclicNumbers.j0 k l1 t325 t326 t327 t328 t329 t330 true) else ((laws_qSame.f k t328 bt335.1).bind fun t342 => (if t342 = true then ((laws_qSame.f k t329 bt335.2.1).bind fun t343 => (laws_FnCyclicNumbers.j0 k l1 t325 t326 t327 t328 t329 t330 (!t343))) else (laws_FnCyclicNumbers.j0 k l1 t325 t326 t327 t328 t329 t330 true))))) = some r := H
    have A6 := Aside0.mk A60
    clear A60
    replace H := Option.bind_eq_some_iff.mp H
    obtain ⟨⟨t335, t336, t337⟩, A70, H⟩ := H
    replace H : (if (t330 != t337) = true then (laws_FnCyclicNumbers.j0 k l1 t325 t326 t327 t328 t329 t330 true) else ((laws_qSame.f k t328 t335).bind fun t342 => (if t342 = true then ((laws_qSame.f k t329 t336).bind fun t343 => (laws_FnCyclicNumbers.j0 k l1 t325 t326 t327 t328 t329 t330 (!t343))) else (laws_FnCyclicNumbers.j0 k l1 t325 t326 t327 t328 t329 t330 true)))) = some r := H
    have A7 := Aside0.mk A70
    clear A70
    have HC8 := Aside0.mk H
    clear H
    go_enter Try.func12, Try.ntmps12
    go_upto_region 6 with (first | (go_at_call 25; (with_reducible refine (laws_big.calls _ _ l0 _ _ l1 false _ ?side1 ?side2 ?side3 ?side4 A3.out).mono ?_); (case side1 => repeat (first | exact HR0.out | (with_reducible refine Kd.C_alloc ?_ _) | (with_reducible refine Kd.C_drewN ?_ _) | (with_reducible refine Kd.C_drew ?_))); (case side2 => exact HC0.out); (case side3 => repeat (first | exact HR1.out | (with_reducible refine Kd.C_alloc ?_ _) | (with_reducible refine Kd.C_drewN ?_ _) | (with_reducible refine Kd.C_drew ?_))); (case side4 => exact HC1.out); rintro e w' ⟨rfl, ⟨nd, rfl⟩⟩; (try first | exact ⟨rfl, _, World.drewN_drewN _ _ _⟩ | exact ⟨rfl, _, Eq.trans (World.drewN_drewN _ _ _) (congrArg (World.drewN _) (Nat.add_assoc _ _ _))⟩)) | (go_at_call 99; (with_reducible refine (spec_DrawHalvesOf.calls _ _ l0 t325 t326 t327 _ ?side1 ?side2 A5.out).mono ?_); (case side1 => repeat (first | exact HR0.out | (with_reducible refine Kd.C_alloc ?_ _) | (with_reducible refine Kd.C_drewN ?_ _) | (with_reducible refine Kd.C_drew ?_))); (case side2 => exact HC0.out); rintro e w9 ⟨rfl, hb⟩; have n0_ := Aside0.mk (below_step (by repeat (first | (with_reducible first | exact HB.out | apply below_alloc | apply pw_below_drewN | apply below_drew1) | exact HB.out)) hb); clear HB; have HB := n0_; clear n0_; (try clear hb); (try clear hb2); (try clear hk); (try clear hi)) | (go_at_call 100; (with_reducible refine (impl_HalvesOf.calls k t325 t326 t327 t328 t329 t330 _ A6.out).mono ?_); rintro e w10 ⟨v331, v333, rfl, ho0, ho1, hb⟩; have n0_ := Aside0.mk (Kd.R_lower ho0 (below_size (by repeat (first | (with_reducible first | exact HB.out | apply below_alloc | apply pw_below_drewN | apply below_drew1) | exact HB.out)))); have n1_ := Aside0.mk (Kd.R_lower ho1 (below_size (by repeat (first | (with_reducible first | exact HB.out | apply below_alloc | apply pw_below_drewN | apply below_drew1) | exact HB.out)))); have n2_ := Aside0.mk (below_step (by repeat (first | (with_reducible first | exact HB.out | apply below_alloc | apply pw_below_drewN | apply below_drew1) | exact HB.out)) hb); clear HB; have HO332 := n0_; have HO334 := n1_; have HB := n2_; clear n0_ n1_ n2_; (try clear hb); (try clear hb2); (try clear hk); (try clear hi); (try clear ho0); (try clear ho1)) | (go_at_call 101; (with_reducible refine (spec_HalvesOf.calls k t325 t326 t327 t335 t336 t337 _ A7.out).mono ?_); rintro e w11 ⟨v338, v340, rfl, ho0, ho1, hb⟩; have n0_ := Aside0.mk (Kd.R_mono (Kd.R_told (Kd.R_told (Kd.R_old (by (with_reducible repeat (first | apply Kd.R_alloc | apply Kd.R_drewN | apply Kd.R_drew)); exact HO332.out) hb) (Kd.R_base ho0)) (Kd.R_base ho1)) (fun _ h_ => h_.1)); have n1_ := Aside0.mk (Kd.R_mono (Kd.R_told (Kd.R_told (Kd.R_old (by (with_reducible repeat (first | apply Kd.R_alloc | apply Kd.R_drewN | apply Kd.R_drew)); exact HO334.out) hb) (Kd.R_base ho0)) (Kd.R_base ho1)) (fun _ h_ => h_.1)); have n2_ := Aside0.mk (Kd.R_lower (Kd.R_new' (Kd.R_new' ho0 (Kd.R_lt (by (with_reducible repeat (first | apply Kd.R_alloc | apply Kd.R_drewN | apply Kd.R_drew)); exact HO332.out))) (Kd.R_lt (by (with_reducible repeat (first | apply Kd.R_alloc | apply Kd.R_drewN | apply Kd.R_drew)); exact HO334.out))) (below_size (by repeat (first | (with_reducible first | exact HB.out | apply below_alloc | apply pw_below_drewN | apply below_drew1) | exact HB.out)))); have n3_ := Aside0.mk (Kd.R_lower (Kd.R_new' (Kd.R_new' ho1 (Kd.R_lt (by (with_reducible repeat (first | apply Kd.R_alloc | apply Kd.R_drewN | apply Kd.R_drew)); exact HO332.out))) (Kd.R_lt (by (with_reducible repeat (first | apply Kd.R_alloc | apply Kd.R_drewN | apply Kd.R_drew)); exact HO334.out))) (below_size (by repeat (first | (with_reducible first | exact HB.out | apply below_alloc | apply pw_below_drewN | apply below_drew1) | exact HB.out)))); have n4_ := Aside0.mk (below_step (by repeat (first | (with_reducible first | exact HB.out | apply below_alloc | apply pw_below_drewN | apply below_drew1) | exact HB.out)) hb); clear HO332; clear HO334; clear HB; have HO332 := n0_; have HO334 := n1_; have HO339 := n2_; have HO341 := n3_; have HB := n4_; clear n0_ n1_ n2_ n3_ n4_; (try clear hb); (try clear hb2); (try clear hk); (try clear hi); (try clear ho0); (try clear ho1)))
    repeat (go_quiet (first | (go_at_call 25; (with_reducible refine (laws_big.calls _ _ l0 _ _ l1 false _ ?side1 ?side2 ?side3 ?side4 A3.out).mono ?_); (case side1 => repeat (first | exact HR0.out | (with_reducible refine Kd.C_alloc ?_ _) | (with_reducible refine Kd.C_drewN ?_ _) | (with_reducible refine Kd.C_drew ?_))); (case side2 => exact HC0.out); (case side3 => repeat (first | exact HR1.out | (with_reducible refine Kd.C_alloc ?_ _) | (with_reducible refine Kd.C_drewN ?_ _) | (with_reducible refine Kd.C_drew ?_))); (case side4 => exact HC1.out); rintro e w' ⟨rfl, ⟨nd, rfl⟩⟩; (try first | exact ⟨rfl, _, World.drewN_drewN _ _ _⟩ | exact ⟨rfl, _, Eq.trans (World.drewN_drewN _ _ _) (congrArg (World.drewN _) (Nat.add_assoc _ _ _))⟩)) | (go_at_call 99; (with_reducible refine (spec_DrawHalvesOf.calls _ _ l0 t325 t326 t327 _ ?side1 ?side2 A5.out).mono ?_); (case side1 => repeat (first | exact HR0.out | (with_reducible refine Kd.C_alloc ?_ _) | (with_reducible refine Kd.C_drewN ?_ _) | (with_reducible refine Kd.C_drew ?_))); (case side2 => exact HC0.out); rintro e w9 ⟨rfl, hb⟩; have n0_ := Aside0.mk (below_step (by repeat (first | (with_reducible first | exact HB.out | apply below_alloc | apply pw_below_drewN | apply below_drew1) | exact HB.out)) hb); clear HB; have HB := n0_; clear n0_; (try clear hb); (try clear hb2); (try clear hk); (try clear hi)) | (go_at_call 100; (with_reducible refine (impl_HalvesOf.calls k t325 t326 t327 t328 t329 t330 _ A6.out).mono ?_); rintro e w10 ⟨v331, v333, rfl, ho0, ho1, hb⟩; have n0_ := Aside0.mk (Kd.R_lower ho0 (below_size (by repeat (first | (with_reducible first | exact HB.out | apply below_alloc | apply pw_below_drewN | apply below_drew1) | exact HB.out)))); have n1_ := Aside0.mk (Kd.R_lower ho1 (below_size (by repeat (first | (with_reducible first | exact HB.out | apply below_alloc | apply pw_below_drewN | apply below_drew1) | exact HB.out)))); have n2_ := Aside0.mk (below_step (by repeat (first | (with_reducible first | exact HB.out | apply below_alloc | apply pw_below_drewN | apply below_drew1) | exact HB.out)) hb); clear HB; have HO332 := n0_; have HO334 := n1_; have HB := n2_; clear n0_ n1_ n2_; (try clear hb); (try clear hb2); (try clear hk); (try clear hi); (try clear ho0); (try clear ho1)) | (go_at_call 101; (with_reducible refine (spec_HalvesOf.calls k t325 t326 t327 t335 t336 t337 _ A7.out).mono ?_); rintro e w11 ⟨v338, v340, rfl, ho0, ho1, hb⟩; have n0_ := Aside0.mk (Kd.R_mono (Kd.R_told (Kd.R_told (Kd.R_old (by (with_reducible repeat (first | apply Kd.R_alloc | apply Kd.R_drewN | apply Kd.R_drew)); exact HO332.out) hb) (Kd.R_base ho0)) (Kd.R_base ho1)) (fun _ h_ => h_.1)); have n1_ := Aside0.mk (Kd.R_mono (Kd.R_told (Kd.R_told (Kd.R_old (by (with_reducible repeat (first | apply Kd.R_alloc | apply Kd.R_drewN | apply Kd.R_drew)); exact HO334.out) hb) (Kd.R_base ho0)) (Kd.R_base ho1)) (fun _ h_ => h_.1)); have n2_ := Aside0.mk (Kd.R_lower (Kd.R_new' (Kd.R_new' ho0 (Kd.R_lt (by (with_reducible repeat (first | apply Kd.R_alloc | apply Kd.R_drewN | apply Kd.R_drew)); exact HO332.out))) (Kd.R_lt (by (with_reducible repeat (first | apply Kd.R_alloc | apply Kd.R_drewN | apply Kd.R_drew)); exact HO334.out))) (below_size (by repeat (first | (with_reducible first | exact HB.out | apply below_alloc | apply pw_below_drewN | apply below_drew1) | exact HB.out)))); have n3_ := Aside0.mk (Kd.R_lower (Kd.R_new' (Kd.R_new' ho1 (Kd.R_lt (by (with_reducible repeat (first | apply Kd.R_alloc | apply Kd.R_drewN | apply Kd.R_drew)); exact HO332.out))) (Kd.R_lt (by (with_reducible repeat (first | apply Kd.R_alloc | apply Kd.R_drewN | apply Kd.R_drew)); exact HO334.out))) (below_size (by repeat (first | (with_reducible first | exact HB.out | apply below_alloc | apply pw_below_drewN | apply below_drew1) | exact HB.out)))); have n4_ := Aside0.mk (below_step (by repeat (first | (with_reducible first | exact HB.out | apply below_alloc | apply pw_below_drewN | apply below_drew1) | exact HB.out)) hb); clear HO332; clear HO334; clear HB; have HO332 := n0_; have HO334 := n1_; have HO339 := n2_; have HO341 := n3_; have HB := n4_; clear n0_ n1_ n2_ n3_ n4_; (try clear hb); (try clear hb2); (try clear hk); (try clear hi); (try clear ho0); (try clear ho1))); go_upto_region 6 with (first | (go_at_call 25; (with_reducible refine (laws_big.calls _ _ l0 _ _ l1 false _ ?side1 ?side2 ?side3 ?side4 A3.out).mono ?_); (case side1 => repeat (first | exact HR0.out | (with_reducible refine Kd.C_alloc ?_ _) | (with_reducible refine Kd.C_drewN ?_ _) | (with_reducible refine Kd.C_drew ?_))); (case side2 => exact HC0.out); (case side3 => repeat (first | exact HR1.out | (with_reducible refine Kd.C_alloc ?_ _) | (with_reducible refine Kd.C_drewN ?_ _) | (with_reducible refine Kd.C_drew ?_))); (case side4 => exact HC1.out); rintro e w' ⟨rfl, ⟨nd, rfl⟩⟩; (try first | exact ⟨rfl, _, World.drewN_drewN _ _ _⟩ | exact ⟨rfl, _, Eq.trans (World.drewN_drewN _ _ _) (congrArg (World.drewN _) (Nat.add_assoc _ _ _))⟩)) | (go_at_call 99; (with_reducible refine (spec_DrawHalvesOf.calls _ _ l0 t325 t326 t327 _ ?side1 ?side2 A5.out).mono ?_); (case side1 => repeat (first | exact HR0.out | (with_reducible refine Kd.C_alloc ?_ _) | (with_reducible refine Kd.C_drewN ?_ _) | (with_reducible refine Kd.C_drew ?_))); (case side2 => exact HC0.out); rintro e w9 ⟨rfl, hb⟩; have n0_ := Aside0.mk (below_step (by repeat (first | (with_reducible first | exact HB.out | apply below_alloc | apply pw_below_drewN | apply below_drew1) | exact HB.out)) hb); clear HB; have HB := n0_; clear n0_; (try clear hb); (try clear hb2); (try clear hk); (try clear hi)) | (go_at_call 100; (with_reducible refine (impl_HalvesOf.calls k t325 t326 t327 t328 t329 t330 _ A6.out).mono ?_); rintro e w10 ⟨v331, v333, rfl, ho0, ho1, hb⟩; have n0_ := Aside0.mk (Kd.R_lower ho0 (below_size (by repeat (first | (with_reducible first | exact HB.out | apply below_alloc | apply pw_below_drewN | apply below_drew1) | exact HB.out)))); have n1_ := Aside0.mk (Kd.R_lower ho1 (below_size (by repeat (first | (with_reducible first | exact HB.out | apply below_alloc | apply pw_below_drewN | apply below_drew1) | exact HB.out)))); have n2_ := Aside0.mk (below_step (by repeat (first | (with_reducible first | exact HB.out | apply below_alloc | apply pw_below_drewN | apply below_drew1) | exact HB.out)) hb); clear HB; have HO332 := n0_; have HO334 := n1_; have HB := n2_; clear n0_ n1_ n2_; (try clear hb); (try clear hb2); (try clear hk); (try clear hi); (try clear ho0); (try clear ho1)) | (go_at_call 101; (with_reducible refine (spec_HalvesOf.calls k t325 t326 t327 t335 t336 t337 _ A7.out).mono ?_); rintro e w11 ⟨v338, v340, rfl, ho0, ho1, hb⟩; have n0_ := Aside0.mk (Kd.R_mono (Kd.R_told (Kd.R_told (Kd.R_old (by (with_reducible repeat (first | apply Kd.R_alloc | apply Kd.R_drewN | apply Kd.R_drew)); exact HO332.out) hb) (Kd.R_base ho0)) (Kd.R_base ho1)) (fun _ h_ => h_.1)); have n1_ := Aside0.mk (Kd.R_mono (Kd.R_told (Kd.R_told (Kd.R_old (by (with_reducible repeat (first | apply Kd.R_alloc | apply Kd.R_drewN | apply Kd.R_drew)); exact HO334.out) hb) (Kd.R_base ho0)) (Kd.R_base ho1)) (fun _ h_ => h_.1)); have n2_ := Aside0.mk (Kd.R_lower (Kd.R_new' (Kd.R_new' ho0 (Kd.R_lt (by (with_reducible repeat (first | apply Kd.R_alloc | apply Kd.R_drewN | apply Kd.R_drew)); exact HO332.out))) (Kd.R_lt (by (with_reducible repeat (first | apply Kd.R_alloc | apply Kd.R_drewN | apply Kd.R_drew)); exact HO334.out))) (below_size (by repeat (first | (with_reducible first | exact HB.out | apply below_alloc | apply pw_below_drewN | apply below_drew1) | exact HB.out)))); have n3_ := Aside0.mk (Kd.R_lower (Kd.R_new' (Kd.R_new' ho1 (Kd.R_lt (by (with_reducible repeat (first | apply Kd.R_alloc | apply Kd.R_drewN | apply Kd.R_drew)); exact HO332.out))) (Kd.R_lt (by (with_reducible repeat (first | apply Kd.R_alloc | apply Kd.R_drewN | apply Kd.R_drew)); exact HO334.out))) (below_size (by repeat (first | (with_reducible first | exact HB.out | apply below_alloc | apply pw_below_drewN | apply below_drew1) | exact HB.out)))); have n4_ := Aside0.mk (below_step (by repeat (first | (with_reducible first | exact HB.out | apply below_alloc | apply pw_below_drewN | apply below_drew1) | exact HB.out)) hb); clear HO332; clear HO334; clear HB; have HO332 := n0_; have HO334 := n1_; have HO339 := n2_; have HO341 := n3_; have HB := n4_; clear n0_ n1_ n2_ n3_ n4_; (try clear hb); (try clear hb2); (try clear hk); (try clear hi); (try clear ho0); (try clear ho1))))
    (try simp only [Act.put, List.setIfInBounds_toArray, List.set_cons_zero, List.set_cons_succ])
    go_cut [83] (fun v83 wc => ∃ (kq : Nat) (x83_7 : Bool), v83 = .bool x83_7 ∧ Aside0 (laws_FnCyclicNumbers.j0 kq l1 t325 t326 t327 t328 t329 t330 x83_7 = some r) ∧ Aside0 (kq ≤ k) ∧ Aside0 (Kd.R (Kd.int .i64) 3 wc w.heap.size (fun k_ => some k_ ≠ (v333 : Value).ownBlock) v331 t328) ∧ Aside0 (Kd.R (Kd.int .i64) 3 wc w.heap.size (fun k_ => some k_ ≠ (v331 : Value).ownBlock) v333 t329) ∧ Aside0 (Below w.heap.size w wc))
    case first =>
      have H := HC8.out
      clear HC8
      by_cases c12 : (t330 != t337) = true
      · rw [if_pos c12] at H
        have c12b0 : (t330 != t337) = true := c12
        (try (have c12b1 : decide (t330 = t337) = false := by simpa using c12))
        (try (have c12b2 : (t330 == t337) = false := by simpa using c12))
        (try (have c12b3 : ¬ (t330 = t337) := by simpa using c12))
        clear c12
        (first | rw [c12b0] | (simp only [i64_w, i32_w]; rw [c12b0]) | skip)
        exact (laws_FnCyclicNumbers.j0_no HR_.out _ _ _ _ _ _ _ _ H).elim
      · rw [if_neg c12] at H
        have c12b0 : (t330 != t337) = false := by simpa using c12
        (try (have c12b1 : decide (t330 = t337) = true := by simpa using c12))
        (try (have c12b2 : (t330 == t337) = true := by simpa using c12))
        clear c12
        (first | rw [c12b0] | (simp only [i64_w, i32_w]; rw [c12b0]) | skip)
        replace H := Option.bind_eq_some_iff.mp H
        obtain ⟨t342, A130, H⟩ := H
        replace H : (if t342 = true then ((laws_qSame.f k t329 t336).bind fun t343 => (laws_FnCyclicNumbers.j0 k l1 t325 t326 t327 t328 t329 t330 (!t343))) else (laws_FnCyclicNumbers.j0 k l1 t325 t326 t327 t328 t329 t330 true)) = some r := H
        have A13 := Aside0.mk A130
        clear A130
        by_cases c14 : t342 = true
        · subst c14
          have H1 : ((laws_qSame.f k t329 t336).bind fun t343 => (laws_FnCyclicNumbers.j0 k l1 t325 t326 t327 t328 t329 t330 (!t343))) = some r := by rw [if_pos rfl] at H; exact H
          clear H
          have H := H1
          clear H1
          replace H := Option.bind_eq_some_iff.mp H
          obtain ⟨t343, A150, H⟩ := H
          replace H : (laws_FnCyclicNumbers.j0 k l1 t325 t326 t327 t328 t329 t330 (!t343)) = some r := H
          have A15 := Aside0.mk A150
          clear A150
          as_aux_lemma =>
            have H' := Aside0.mk H
            clear H
            obtain ⟨Ao16, co16, eo16⟩ := Kd.R_slice HO332.out
            subst eo16
            obtain ⟨Ao17, co17, eo17⟩ := Kd.R_slice HO339.out
            subst eo17
            go_wp2_with (first | (go_at_call 32; (with_reducible refine (laws_qSame.calls k _ _ t328 _ _ t335 true _ ?side1 ?side2 ?side3 ?side4 A13.out).mono ?_); (case side1 => repeat (first | exact (Kd.R_reads' HO332.out).2.2 | (with_reducible refine Kd.C_alloc ?_ _) | (with_reducible refine Kd.C_drewN ?_ _) | (with_reducible refine Kd.C_drew ?_))); (case side2 => exact (Kd.R_reads' HO332.out).2.1); (case side3 => repeat (first | exact (Kd.R_reads' HO339.out).2.2 | (with_reducible refine Kd.C_alloc ?_ _) | (with_reducible refine Kd.C_drewN ?_ _) | (with_reducible refine Kd.C_drew ?_))); (case side4 => exact (Kd.R_reads' HO339.out).2.1); rintro e w' ⟨rfl, ⟨nd, rfl⟩⟩; (try first | exact ⟨rfl, _, World.drewN_drewN _ _ _⟩ | exact ⟨rfl, _, Eq.trans (World.drewN_drewN _ _ _) (congrArg (World.drewN _) (Nat.add_assoc _ _ _))⟩); obtain ⟨Ao18, co18, eo18⟩ := Kd.R_slice HO334.out; subst eo18; obtain ⟨Ao19, co19, eo19⟩ := Kd.R_slice HO341.out; subst eo19) | (go_at_call 32; (with_reducible refine (laws_qSame.calls k _ _ t329 _ _ t336 t343 _ ?side1 ?side2 ?side3 ?side4 A15.out).mono ?_); (case side1 => repeat (first | exact (Kd.R_reads' HO334.out).2.2 | (with_reducible refine Kd.C_alloc ?_ _) | (with_reducible refine Kd.C_drewN ?_ _) | (with_reducible refine Kd.C_drew ?_))); (case side2 => exact (Kd.R_reads' HO334.out).2.1); (case side3 => repeat (first | exact (Kd.R_reads' HO341.out).2.2 | (with_reducible refine Kd.C_alloc ?_ _) | (with_reducible refine Kd.C_drewN ?_ _) | (with_reducible refine Kd.C_drew ?_))); (case side4 => exact (Kd.R_reads' HO341.out).2.1); rintro e w' ⟨rfl, ⟨nd, rfl⟩⟩; (try first | exact ⟨rfl, _, World.drewN_drewN _ _ _⟩ | exact ⟨rfl, _, Eq.trans (World.drewN_drewN _ _ _) (congrArg (World.drewN _) (Nat.add_assoc _ _ _))⟩)))
            repeat (go_quiet (first | (go_at_call 32; (with_reducible refine (laws_qSame.calls k _ _ t328 _ _ t335 true _ ?side1 ?side2 ?side3 ?side4 A13.out).mono ?_); (case side1 => repeat (first | exact (Kd.R_reads' HO332.out).2.2 | (with_reducible refine Kd.C_alloc ?_ _) | (with_reducible refine Kd.C_drewN ?_ _) | (with_reducible refine Kd.C_drew ?_))); (case side2 => exact (Kd.R_reads' HO332.out).2.1); (case side3 => repeat (first | exact (Kd.R_reads' HO339.out).2.2 | (with_reducible refine Kd.C_alloc ?_ _) | (with_reducible refine Kd.C_drewN ?_ _) | (with_reducible refine Kd.C_drew ?_))); (case side4 => exact (Kd.R_reads' HO339.out).2.1); rintro e w' ⟨rfl, ⟨nd, rfl⟩⟩; (try first | exact ⟨rfl, _, World.drewN_drewN _ _ _⟩ | exact ⟨rfl, _, Eq.trans (World.drewN_drewN _ _ _) (congrArg (World.drewN _) (Nat.add_assoc _ _ _))⟩); obtain ⟨Ao18, co18, eo18⟩ := Kd.R_slice HO334.out; subst eo18; obtain ⟨Ao19, co19, eo19⟩ := Kd.R_slice HO341.out; subst eo19) | (go_at_call 32; (with_reducible refine (laws_qSame.calls k _ _ t329 _ _ t336 t343 _ ?side1 ?side2 ?side3 ?side4 A15.out).mono ?_); (case side1 => repeat (first | exact (Kd.R_reads' HO334.out).2.2 | (with_reducible refine Kd.C_alloc ?_ _) | (with_reducible refine Kd.C_drewN ?_ _) | (with_reducible refine Kd.C_drew ?_))); (case side2 => exact (Kd.R_reads' HO334.out).2.1); (case side3 => repeat (first | exact (Kd.R_reads' HO341.out).2.2 | (with_reducible refine Kd.C_alloc ?_ _) | (with_reducible refine Kd.C_drewN ?_ _) | (with_reducible refine Kd.C_drew ?_))); (case side4 => exact (Kd.R_reads' HO341.out).2.1); rintro e w' ⟨rfl, ⟨nd, rfl⟩⟩; (try first | exact ⟨rfl, _, World.drewN_drewN _ _ _⟩ | exact ⟨rfl, _, Eq.trans (World.drewN_drewN _ _ _) (congrArg (World.drewN _) (Nat.add_assoc _ _ _))⟩))); try go_wp2_with (first | (go_at_call 32; (with_reducible refine (laws_qSame.calls k _ _ t328 _ _ t335 true _ ?side1 ?side2 ?side3 ?side4 A13.out).mono ?_); (case side1 => repeat (first | exact (Kd.R_reads' HO332.out).2.2 | (with_reducible refine Kd.C_alloc ?_ _) | (with_reducible refine Kd.C_drewN ?_ _) | (with_reducible refine Kd.C_drew ?_))); (case side2 => exact (Kd.R_reads' HO332.out).2.1); (case side3 => repeat (first | exact (Kd.R_reads' HO339.out).2.2 | (with_reducible refine Kd.C_alloc ?_ _) | (with_reducible refine Kd.C_drewN ?_ _) | (with_reducible refine Kd.C_drew ?_))); (case side4 => exact (Kd.R_reads' HO339.out).2.1); rintro e w' ⟨rfl, ⟨nd, rfl⟩⟩; (try first | exact ⟨rfl, _, World.drewN_drewN _ _ _⟩ | exact ⟨rfl, _, Eq.trans (World.drewN_drewN _ _ _) (congrArg (World.drewN _) (Nat.add_assoc _ _ _))⟩); obtain ⟨Ao18, co18, eo18⟩ := Kd.R_slice HO334.out; subst eo18; obtain ⟨Ao19, co19, eo19⟩ := Kd.R_slice HO341.out; subst eo19) | (go_at_call 32; (with_reducible refine (laws_qSame.calls k _ _ t329 _ _ t336 t343 _ ?side1 ?side2 ?side3 ?side4 A15.out).mono ?_); (case side1 => repeat (first | exact (Kd.R_reads' HO334.out).2.2 | (with_reducible refine Kd.C_alloc ?_ _) | (with_reducible refine Kd.C_drewN ?_ _) | (with_reducible refine Kd.C_drew ?_))); (case side2 => exact (Kd.R_reads' HO334.out).2.1); (case side3 => repeat (first | exact (Kd.R_reads' HO341.out).2.2 | (with_reducible refine Kd.C_alloc ?_ _) | (with_reducible refine Kd.C_drewN ?_ _) | (with_reducible refine Kd.C_drew ?_))); (case side4 => exact (Kd.R_reads' HO341.out).2.1); rintro e w' ⟨rfl, ⟨nd, rfl⟩⟩; (try first | exact ⟨rfl, _, World.drewN_drewN _ _ _⟩ | exact ⟨rfl, _, Eq.trans (World.drewN_drewN _ _ _) (congrArg (World.drewN _) (Nat.add_assoc _ _ _))⟩))))
            go_meet
            case rel => exact ⟨_, (!t343), (by first | rfl | (simp; done) | (simp [*]; done)), H', ⟨by first | omega | exact Nat.le_refl _⟩, ⟨by (with_reducible repeat (first | apply Kd.R_alloc | apply Kd.R_drewN | apply Kd.R_drew)); exact Kd.R_mono HO332.out (fun _ hk => hk.1.1)⟩, ⟨by (with_reducible repeat (first | apply Kd.R_alloc | apply Kd.R_drewN | apply Kd.R_drew)); exact Kd.R_mono HO334.out (fun _ hk => hk.1.1)⟩, ⟨by repeat (first | (with_reducible first | exact HB.out | apply below_alloc | apply pw_below_drewN | apply below_drew1) | exact HB.out)⟩⟩
        · replace c14 := Bool.eq_false_iff.mpr c14
          subst c14
          have H1 : (laws_FnCyclicNumbers.j0 k l1 t325 t326 t327 t328 t329 t330 true) = some r := by rw [if_neg (show ¬ (false = true) by decide)] at H; exact H
          clear H
          have H := H1
          clear H1
          exact (laws_FnCyclicNumbers.j0_no HR_.out _ _ _ _ _ _ _ _ H).elim
    case rest =>
      clear HC8
      try clear c1
      try clear p2
      try clear c4
      try clear c12
      try clear c12b0
      try clear c12b1
      try clear c12b2
      try clear c14
      obtain ⟨kq, x83_7, rfl, HA, HJ7, HO_8, HO_9, HB⟩ := hcut
      cases kq with
      | zero => exact absurd HA.out (by simp [laws_FnCyclicNumbers.j0])
      | succ kj7 =>
        have H := HA.out
        clear HA
        simp only [laws_FnCyclicNumbers.j0] at H
        by_cases c20 : x83_7 = true
        · subst c20
          have H1 : (some false) = some r := by rw [if_pos rfl] at H; exact H
          clear H
          have H := H1
          clear H1
          exact absurd (Option.some.inj H) (by rw [HR_.out]; decide)
        · replace c20 := Bool.eq_false_iff.mpr c20
          subst c20
          have H1 : (if t330 = true then ((impl_RepetendOf.f kj7 t325 t326 t327).bind fun bt344 => (if bt344.2 = true then (if (t328.length : Int) = (t329.length : Int) then ((some (([] : List Int) : List Int)).bind fun y348 => (if y348.length + t328.length < 17592186044416 then ((some (y348 ++ t328 : List Int)).bind fun y351 => (if y351.length + t329.length < 17592186044416 then ((laws_qSame.f kj7 bt344.1 (y351 ++ t329)).bind fun t357 => (laws_FnCyclicNumbers.j1 kj7 l1 t327 t328 t329 (!t357))) else (none))) else (none))) else (laws_FnCyclicNumbers.j1 kj7 l1 t327 t328 t329 true)) else (laws_FnCyclicNumbers.j1 kj7 l1 t327 t328 t329 true))) else (laws_FnCyclicNumbers.j3 kj7 l1)) = some r := by rw [if_neg (show ¬ (false = true) by decide)] at H; exact H
          clear H
          have H := H1
          clear H1
          have HC21 := Aside0.mk H
          clear H
          go_upto_if 84 with (fail)
          repeat (go_quiet (fail); go_upto_if 84 with (fail))
          go_cut [] (fun wc => ∃ (kq : Nat), Aside0 (laws_FnCyclicNumbers.j3 kq l1 = some r) ∧ Aside0 (kq ≤ kj7) ∧ Aside0 (Below w.heap.size w wc))
          case first =>
            have H := HC21.out
            clear HC21
            by_cases c22 : t330 = true
            · subst c22
              have H1 : ((impl_RepetendOf.f kj7 t325 t326 t327).bind fun bt344 => (if bt344.2 = true then (if (t328.length : Int) = (t329.length : Int) then ((some (([] : List Int) : List Int)).bind fun y348 => (if y348.length + t328.length < 17592186044416 then ((some (y348 ++ t328 : List Int)).bind fun y351 => (if y351.length + t329.length < 17592186044416 then ((laws_qSame.f kj7 bt344.1 (y351 ++ t329)).bind fun t357 => (laws_FnCyclicNumbers.j1 kj7 l1 t327 t328 t329 (!t357))) else (none))) else (none))) else (laws_FnCyclicNumbers.j1 kj7 l1 t327 t328 t329 true)) else (laws_FnCyclicNumbers.j1 kj7 l1 t327 t328 t329 true))) = some r := by rw [if_pos rfl] at H; exact H
              clear H
              have H := H1
              clear H1
              replace H := Option.bind_eq_some_iff.mp H
              obtain ⟨⟨t344, t345⟩, A230, H⟩ := H
              replace H : (if t345 = true then (if (t328.length : Int) = (t329.length : Int) then ((some (([] : List Int) : List Int)).bind fun y348 => (if y348.length + t328.length < 17592186044416 then ((some (y348 ++ t328 : List Int)).bind fun y351 => (if y351.length + t329.length < 17592186044416 then ((laws_qSame.f kj7 t344 (y351 ++ t329)).bind fun t357 => (laws_FnCyclicNumbers.j1 kj7 l1 t327 t328 t329 (!t357))) else (none))) else (none))) else (laws_FnCyclicNumbers.j1 kj7 l1 t327 t328 t329 true)) else (laws_FnCyclicNumbers.j1 kj7 l1 t327 t328 t329 true)) = some r := H
              have A23 := Aside0.mk A230
              clear A230
              have HC24 := Aside0.mk H
              clear H
              go_upto_region 10 with (first | (go_at_call 66; (with_reducible refine (impl_RepetendOf.calls kj7 t325 t326 t327 t344 t345 _ A23.out).mono ?_); rintro e w25 ⟨v346, rfl, ho0, hb⟩; have n0_ := Aside0.mk (Kd.R_elder' (by (with_reducible repeat (first | apply Kd.R_alloc | apply Kd.R_drewN | apply Kd.R_drew)); exact HO_8.out) (Kd.R_base ho0) hb); have n1_ := Aside0.mk (Kd.R_elder' (by (with_reducible repeat (first | apply Kd.R_alloc | apply Kd.R_drewN | apply Kd.R_drew)); exact HO_9.out) (Kd.R_base ho0) hb); have n2_ := Aside0.mk (Kd.R_lower (Kd.R_new' (Kd.R_new' ho0 (Kd.R_lt (by (with_reducible repeat (first | apply Kd.R_alloc | apply Kd.R_drewN | apply Kd.R_drew)); exact HO_8.out))) (Kd.R_lt (by (with_reducible repeat (first | apply Kd.R_alloc | apply Kd.R_drewN | apply Kd.R_drew)); exact HO_9.out))) (below_size (by repeat (first | (with_reducible first | exact HB.out | apply below_alloc | apply pw_below_drewN | apply below_drew1) | exact HB.out)))); have n3_ := Aside0.mk (below_step (by repeat (first | (with_reducible first | exact HB.out | apply below_alloc | apply pw_below_drewN | apply below_drew1) | exact HB.out)) hb); clear HO_8; clear HO_9; clear HB; have HO_8 := n0_; have HO_9 := n1_; have HO347 := n2_; have HB := n3_; clear n0_ n1_ n2_ n3_; (try clear hb); (try clear hb2); (try clear hk); (try clear hi); (try clear ho0)))
              repeat (go_quiet (first | (go_at_call 66; (with_reducible refine (impl_RepetendOf.calls kj7 t325 t326 t327 t344 t345 _ A23.out).mono ?_); rintro e w25 ⟨v346, rfl, ho0, hb⟩; have n0_ := Aside0.mk (Kd.R_elder' (by (with_reducible repeat (first | apply Kd.R_alloc | apply Kd.R_drewN | apply Kd.R_drew)); exact HO_8.out) (Kd.R_base ho0) hb); have n1_ := Aside0.mk (Kd.R_elder' (by (with_reducible repeat (first | apply Kd.R_alloc | apply Kd.R_drewN | apply Kd.R_drew)); exact HO_9.out) (Kd.R_base ho0) hb); have n2_ := Aside0.mk (Kd.R_lower (Kd.R_new' (Kd.R_new' ho0 (Kd.R_lt (by (with_reducible repeat (first | apply Kd.R_alloc | apply Kd.R_drewN | apply Kd.R_drew)); exact HO_8.out))) (Kd.R_lt (by (with_reducible repeat (first | apply Kd.R_alloc | apply Kd.R_drewN | apply Kd.R_drew)); exact HO_9.out))) (below_size (by repeat (first | (with_reducible first | exact HB.out | apply below_alloc | apply pw_below_drewN | apply below_drew1) | exact HB.out)))); have n3_ := Aside0.mk (below_step (by repeat (first | (with_reducible first | exact HB.out | apply below_alloc | apply pw_below_drewN | apply below_drew1) | exact HB.out)) hb); clear HO_8; clear HO_9; clear HB; have HO_8 := n0_; have HO_9 := n1_; have HO347 := n2_; have HB := n3_; clear n0_ n1_ n2_ n3_; (try clear hb); (try clear hb2); (try clear hk); (try clear hi); (try clear ho0))); go_upto_region 10 with (first | (go_at_call 66; (with_reducible refine (impl_RepetendOf.calls kj7 t325 t326 t327 t344 t345 _ A23.out).mono ?_); rintro e w25 ⟨v346, rfl, ho0, hb⟩; have n0_ := Aside0.mk (Kd.R_elder' (by (with_reducible repeat (first | apply Kd.R_alloc | apply Kd.R_drewN | apply Kd.R_drew)); exact HO_8.out) (Kd.R_base ho0) hb); have n1_ := Aside0.mk (Kd.R_elder' (by (with_reducible repeat (first | apply Kd.R_alloc | apply Kd.R_drewN | apply Kd.R_drew)); exact HO_9.out) (Kd.R_base ho0) hb); have n2_ := Aside0.mk (Kd.R_lower (Kd.R_new' (Kd.R_new' ho0 (Kd.R_lt (by (with_reducible repeat (first | apply Kd.R_alloc | apply Kd.R_drewN | apply Kd.R_drew)); exact HO_8.out))) (Kd.R_lt (by (with_reducible repeat (first | apply Kd.R_alloc | apply Kd.R_drewN | apply Kd.R_drew)); exact HO_9.out))) (below_size (by repeat (first | (with_reducible first | exact HB.out | apply below_alloc | apply pw_below_drewN | apply below_drew1) | exact HB.out)))); have n3_ := Aside0.mk (below_step (by repeat (first | (with_reducible first | exact HB.out | apply below_alloc | apply pw_below_drewN | apply below_drew1) | exact HB.out)) hb); clear HO_8; clear HO_9; clear HB; have HO_8 := n0_; have HO_9 := n1_; have HO347 := n2_; have HB := n3_; clear n0_ n1_ n2_ n3_; (try clear hb); (try clear hb2); (try clear hk); (try clear hi); (try clear ho0))))
              (try simp only [Act.put, List.setIfInBounds_toArray, List.set_cons_zero, List.set_cons_succ])
              go_cut [110] (fun v110 wc => ∃ (kq : Nat) (x110_23 : Bool), v110 = .bool x110_23 ∧ Aside0 (laws_FnCyclicNumbers.j1 kq l1 t327 t328 t329 x110_23 = some r) ∧ Aside0 (kq ≤ kj7) ∧ Aside0 (Kd.R (Kd.int .i64) 3 wc w.heap.size (fun k_ => some k_ ≠ (v333 : Value).ownBlock) v331 t328) ∧ Aside0 (Kd.R (Kd.int .i64) 3 wc w.heap.size (fun k_ => some k_ ≠ (v331 : Value).ownBlock) v333 t329) ∧ Aside0 (Below w.heap.size w wc))
              case first =>
                have H := HC24.out
                clear HC24
                by_cases c26 : t345 = true
                · subst c26
                  have H1 : (if (t328.length : Int) = (t329.length : Int) then ((some (([] : List Int) : List Int)).bind fun y348 => (if y348.length + t328.length < 17592186044416 then ((some (y348 ++ t328 : List Int)).bind fun y351 => (if y351.length + t329.length < 17592186044416 then ((laws_qSame.f kj7 t344 (y351 ++ t329)).bind fun t357 => (laws_FnCyclicNumbers.j1 kj7 l1 t327 t328 t329 (!t357))) else (none))) else (none))) else (laws_FnCyclicNumbers.j1 kj7 l1 t327 t328 t329 true)) = some r := by rw [if_pos rfl] at H; exact H
                  clear H
                  have H := H1
                  clear H1
                  by_cases c27 : (t328.length : Int) = (t329.length : Int)
                  · rw [if_pos c27] at H
                    have c27b0 : ((t328.length : Int) == (t329.length : Int)) = true := beq_iff_eq.mpr c27
                    have c27b1 : ((t328.length : Int) != (t329.length : Int)) = false := bne_eq_false_iff_eq.mpr c27
                    have c27b2 : (t328.length == t329.length) = true := by first | simpa using c27 | (simp at c27 ⊢; omega)
                    clear c27
                    (first | rw [c27b0] | (simp only [i64_w, i32_w]; rw [c27b0]) | skip)
                    obtain ⟨y348, hy348⟩ : ∃ y_ : List Int, y_ = (([] : List Int)) := ⟨_, rfl⟩
                    replace H : (if y348.length + t328.length < 17592186044416 then ((some (y348 ++ t328 : List Int)).bind fun y351 => (if y351.length + t329.length < 17592186044416 then ((laws_qSame.f kj7 t344 (y351 ++ t329)).bind fun t357 => (laws_FnCyclicNumbers.j1 kj7 l1 t327 t328 t329 (!t357))) else (none))) else (none)) = some r := by first | (rw [hy348]; with_reducible exact H) | (have H2_ := (Option.bind_some _ _).symm.trans H; rw [hy348]; with_reducible exact H2_) | (have H2_ := (Option.bind_some _ _).symm.trans H; with_reducible exact H2_) | with_reducible exact H | (rw [hy348]; exact H) | exact H
                    have Ny348 := Aside0.mk hy348
                    clear hy348
                    by_cases c28 : y348.length + t328.length < 17592186044416
                    · rw [if_pos c28] at H
                      have LMc28 := Aside0.mk c28
                      clear c28
                      obtain ⟨y351, hy351⟩ : ∃ y_ : List Int, y_ = (y348 ++ t328) := ⟨_, rfl⟩
                      replace H : (if y351.length + t329.length < 17592186044416 then ((laws_qSame.f kj7 t344 (y351 ++ t329)).bind fun t357 => (laws_FnCyclicNumbers.j1 kj7 l1 t327 t328 t329 (!t357))) else (none)) = some r := by first | (rw [hy351]; with_reducible exact H) | (have H2_ := (Option.bind_some _ _).symm.trans H; rw [hy351]; with_reducible exact H2_) | (have H2_ := (Option.bind_some _ _).symm.trans H; with_reducible exact H2_) | with_reducible exact H | (rw [hy351]; exact H) | exact H
                      have Ny351 := Aside0.mk hy351
                      clear hy351
                      by_cases c29 : y351.length + t329.length < 17592186044416
                      · rw [if_pos c29] at H
                        have LMc29 := Aside0.mk c29
                        clear c29
                        obtain ⟨y354, hy354⟩ : ∃ y_ : List Int, y_ = (y351 ++ t329) := ⟨_, rfl⟩
                        replace H : ((laws_qSame.f kj7 t344 y354).bind fun t357 => (laws_FnCyclicNumbers.j1 kj7 l1 t327 t328 t329 (!t357))) = some r := by first | (rw [hy354]; with_reducible exact H) | (have H2_ := (Option.bind_some _ _).symm.trans H; rw [hy354]; with_reducible exact H2_) | (have H2_ := (Option.bind_some _ _).symm.trans H; with_reducible exact H2_) | with_reducible exact H | (rw [hy354]; exact H) | exact H
                        have Ny354 := Aside0.mk hy354
                        clear hy354
                        replace H := Option.bind_eq_some_iff.mp H
                        obtain ⟨t357, A300, H⟩ := H
                        replace H : (laws_FnCyclicNumbers.j1 kj7 l1 t327 t328 t329 (!t357)) = some r := H
                        have A30 := Aside0.mk A300
                        clear A300
                        as_aux_lemma =>
                          have H' := Aside0.mk H
                          clear H
                          obtain ⟨Ao31, co31, eo31⟩ := Kd.R_slice HO_8.out
                          subst eo31
                          obtain ⟨Ao32, co32, eo32⟩ := Kd.R_slice HO_9.out
                          subst eo32
                          go_wp2_with (first | ((with_reducible refine gate_dst (N := 103) rfl ?_); (try (refine gate_guard (by rfl) ?_; dsimp only)); refine Kd.R_lit (Kd.int .i64) _ 3 ?hg (N := 103) ?hd (xs := ([] : List Int)) (inner := []) (ok := fun _ => True) (okp := fun _ => True) ?hr ?hp (fun _ hk => hk) trivial (Below.refl _ _) (Nat.le_refl _) (by simp) ?_; (case hd => rfl); (case hg => rfl); (case hr => first | (go_simp; done) | (go_simp; rfl)); (case hp => exact (Reps.none _ _)); intro v349 w33 ho34 hb hg_ hnew_; clear hg_ hnew_; (first | rw [← Ny348.out] at ho34 | (simp only [Int.reduceToNat] at ho34; rw [← Ny348.out] at ho34)); have n0_ := Aside0.mk (Kd.R_elder' (by (with_reducible repeat (first | apply Kd.R_alloc | apply Kd.R_drewN | apply Kd.R_drew)); exact HO_8.out) (Kd.R_base ho34) hb); have n1_ := Aside0.mk (Kd.R_elder' (by (with_reducible repeat (first | apply Kd.R_alloc | apply Kd.R_drewN | apply Kd.R_drew)); exact HO_9.out) (Kd.R_base ho34) hb); have n2_ := Aside0.mk (Kd.R_elder' (by (with_reducible repeat (first | apply Kd.R_alloc | apply Kd.R_drewN | apply Kd.R_drew)); exact HO347.out) (Kd.R_base ho34) hb); have n3_ := Aside0.mk (Kd.R_lower (Kd.R_new' (Kd.R_new' (Kd.R_new' ho34 (Kd.R_lt (by (with_reducible repeat (first | apply Kd.R_alloc | apply Kd.R_drewN | apply Kd.R_drew)); exact HO_8.out))) (Kd.R_lt (by (with_reducible repeat (first | apply Kd.R_alloc | apply Kd.R_drewN | apply Kd.R_drew)); exact HO_9.out))) (Kd.R_lt (by (with_reducible repeat (first | apply Kd.R_alloc | apply Kd.R_drewN | apply Kd.R_drew)); exact HO347.out))) (below_size (by repeat (first | (with_reducible first | exact HB.out | apply below_alloc | apply pw_below_drewN | apply below_drew1) | exact HB.out)))); have n4_ := Aside0.mk (below_step (by repeat (first | (with_reducible first | exact HB.out | apply below_alloc | apply pw_below_drewN | apply below_drew1) | exact HB.out)) hb); clear HO_8; clear HO_9; clear HO347; clear HB; have HO_8 := n0_; have HO_9 := n1_; have HO347 := n2_; have HO350 := n3_; have HB := n4_; clear n0_ n1_ n2_ n3_ n4_; clear hb ho34) | ((with_reducible refine gate_builtin (b := .append) (xs := #[.tmp 103, .tmp 104]) rfl ?_); (try (refine gate_guard (by rfl) ?_; dsimp only)); at_builtin; refine Kd.R_append_rows (Kd.int .i64) (w0 := w) w.heap.size rfl (.tmp 103) (.tmp 104) 22 3 (.int .i64 0) 8 rfl Try.underlying22 info3 rfl (by decide) (by omega) v349 y348 t328 _ _ _ (fun k_ => some k_ ≠ (.slice Ao31 t328.length co31 : Value).ownBlock ∧ some k_ ≠ (.slice Ao32 t329.length co32 : Value).ownBlock ∧ some k_ ≠ (v346 : Value).ownBlock) (fun _ => False) rfl rfl ?aO ?aR (fun _ _ h => h) (fun _ h => h.elim) ?aF ?aB ?aS ?aL ?_; (case aR => repeat (first | exact (Kd.R_reads' HO_8.out).2.2 | (with_reducible refine Kd.C_alloc ?_ _) | (with_reducible refine Kd.C_drewN ?_ _) | (with_reducible refine Kd.C_drew ?_))); (case aB => exact (by repeat (first | (with_reducible first | exact HB.out | apply below_alloc | apply pw_below_drewN | apply below_drew1) | exact HB.out))); (case aF => exact (fun k_ hk => ⟨Kd.fresh' (Kd.R_lt (by (with_reducible repeat (first | apply Kd.R_alloc | apply Kd.R_drewN | apply Kd.R_drew)); exact HO_8.out)) k_ hk, Kd.fresh' (Kd.R_lt (by (with_reducible repeat (first | apply Kd.R_alloc | apply Kd.R_drewN | apply Kd.R_drew)); exact HO_9.out)) k_ hk, Kd.fresh' (Kd.R_lt (by (with_reducible repeat (first | apply Kd.R_alloc | apply Kd.R_drewN | apply Kd.R_drew)); exact HO347.out)) k_ hk⟩)); (case aO => exact (by (with_reducible repeat (first | apply Kd.R_alloc | apply Kd.R_drewN | apply Kd.R_drew)); exact Kd.R_mono HO350.out (fun _ hk => ⟨hk.1.1.2, ⟨hk.1.2, hk.2⟩⟩))); (case aS => exact (below_size (by repeat (first | (with_reducible first | exact HB.out | apply below_alloc | apply pw_below_drewN | apply below_drew1) | exact HB.out)))); (case aL => have := LMc28.out; omega); intro v352 w35 ho hb hg hat; rw [← Ny351.out] at ho; have n0_ := Aside0.mk (Kd.R_after (ok := (fun k_ => some k_ ≠ (.slice Ao32 t329.length co32 : Value).ownBlock ∧ some k_ ≠ (v346 : Value).ownBlock)) (by (with_reducible repeat (first | apply Kd.R_alloc | apply Kd.R_drewN | apply Kd.R_drew)); exact HO_8.out) hg hat); have n1_ := Aside0.mk (Kd.R_after (ok := (fun k_ => some k_ ≠ (.slice Ao31 t328.length co31 : Value).ownBlock ∧ some k_ ≠ (v346 : Value).ownBlock)) (by (with_reducible repeat (first | apply Kd.R_alloc | apply Kd.R_drewN | apply Kd.R_drew)); exact HO_9.out) hg hat); have n2_ := Aside0.mk (Kd.R_after (ok := (fun k_ => some k_ ≠ (.slice Ao31 t328.length co31 : Value).ownBlock ∧ some k_ ≠ (.slice Ao32 t329.length co32 : Value).ownBlock)) (by (with_reducible repeat (first | apply Kd.R_alloc | apply Kd.R_drewN | apply Kd.R_drew)); exact Kd.R_mono HO347.out (fun _ hk => ⟨⟨hk.1.1.2, hk.1.2⟩, hk.2⟩)) hg hat); have n3_ := Aside0.mk (hb); have n4_ := Aside0.mk (ho); clear HO_8; clear HO_9; clear HO347; clear HB; clear HO350; have HO_8 := n0_; have HO_9 := n1_; have HO347 := n2_; have HB := n3_; have HO353 := n4_; clear n0_ n1_ n2_ n3_ n4_; clear ho hb hg hat) | ((with_reducible refine gate_builtin (b := .append) (xs := #[.tmp 105, .tmp 106]) rfl ?_); (try (refine gate_guard (by rfl) ?_; dsimp only)); at_builtin; refine Kd.R_append_rows (Kd.int .i64) (w0 := w) w.heap.size rfl (.tmp 105) (.tmp 106) 22 3 (.int .i64 0) 8 rfl Try.underlying22 info3 rfl (by decide) (by omega) v352 y351 t329 _ _ _ (fun k_ => some k_ ≠ (.slice Ao31 t328.length co31 : Value).ownBlock ∧ some k_ ≠ (.slice Ao32 t329.length co32 : Value).ownBlock ∧ some k_ ≠ (v346 : Value).ownBlock) (fun _ => False) rfl rfl ?aO ?aR (fun _ _ h => h) (fun _ h => h.elim) ?aF ?aB ?aS ?aL ?_; (case aR => repeat (first | exact (Kd.R_reads' HO_9.out).2.2 | (with_reducible refine Kd.C_alloc ?_ _) | (with_reducible refine Kd.C_drewN ?_ _) | (with_reducible refine Kd.C_drew ?_))); (case aB => exact (by repeat (first | (with_reducible first | exact HB.out | apply below_alloc | apply pw_below_drewN | apply below_drew1) | exact HB.out))); (case aF => exact (fun k_ hk => ⟨Kd.fresh' (Kd.R_lt (by (with_reducible repeat (first | apply Kd.R_alloc | apply Kd.R_drewN | apply Kd.R_drew)); exact HO_8.out)) k_ hk, Kd.fresh' (Kd.R_lt (by (with_reducible repeat (first | apply Kd.R_alloc | apply Kd.R_drewN | apply Kd.R_drew)); exact HO_9.out)) k_ hk, Kd.fresh' (Kd.R_lt (by (with_reducible repeat (first | apply Kd.R_alloc | apply Kd.R_drewN | apply Kd.R_drew)); exact HO347.out)) k_ hk⟩)); (case aO => exact (by (with_reducible repeat (first | apply Kd.R_alloc | apply Kd.R_drewN | apply Kd.R_drew)); exact HO353.out)); (case aS => exact (below_size (by repeat (first | (with_reducible first | exact HB.out | apply below_alloc | apply pw_below_drewN | apply below_drew1) | exact HB.out)))); (case aL => have := LMc29.out; omega); intro v355 w36 ho hb hg hat; rw [← Ny354.out] at ho; have n0_ := Aside0.mk (Kd.R_after (ok := (fun k_ => some k_ ≠ (.slice Ao32 t329.length co32 : Value).ownBlock ∧ some k_ ≠ (v346 : Value).ownBlock)) (by (with_reducible repeat (first | apply Kd.R_alloc | apply Kd.R_drewN | apply Kd.R_drew)); exact HO_8.out) hg hat); have n1_ := Aside0.mk (Kd.R_after (ok := (fun k_ => some k_ ≠ (.slice Ao31 t328.length co31 : Value).ownBlock ∧ some k_ ≠ (v346 : Value).ownBlock)) (by (with_reducible repeat (first | apply Kd.R_alloc | apply Kd.R_drewN | apply Kd.R_drew)); exact HO_9.out) hg hat); have n2_ := Aside0.mk (Kd.R_after (ok := (fun k_ => some k_ ≠ (.slice Ao31 t328.length co31 : Value).ownBlock ∧ some k_ ≠ (.slice Ao32 t329.length co32 : Value).ownBlock)) (by (with_reducible repeat (first | apply Kd.R_alloc | apply Kd.R_drewN | apply Kd.R_drew)); exact HO347.out) hg hat); have n3_ := Aside0.mk (hb); have n4_ := Aside0.mk (ho); clear HO_8; clear HO_9; clear HO347; clear HB; clear HO353; have HO_8 := n0_; have HO_9 := n1_; have HO347 := n2_; have HB := n3_; have HO356 := n4_; clear n0_ n1_ n2_ n3_ n4_; clear ho hb hg hat; obtain ⟨Ao37, co37, eo37⟩ := Kd.R_slice HO347.out; subst eo37; obtain ⟨Ao38, co38, eo38⟩ := Kd.R_slice HO356.out; subst eo38) | (go_at_call 32; (with_reducible refine (laws_qSame.calls kj7 _ _ t344 _ _ y354 t357 _ ?side1 ?side2 ?side3 ?side4 A30.out).mono ?_); (case side1 => repeat (first | exact (Kd.R_reads' HO347.out).2.2 | (with_reducible refine Kd.C_alloc ?_ _) | (with_reducible refine Kd.C_drewN ?_ _) | (with_reducible refine Kd.C_drew ?_))); (case side2 => exact (Kd.R_reads' HO347.out).2.1); (case side3 => repeat (first | exact (Kd.R_reads' HO356.out).2.2 | (with_reducible refine Kd.C_alloc ?_ _) | (with_reducible refine Kd.C_drewN ?_ _) | (with_reducible refine Kd.C_drew ?_))); (case side4 => exact (Kd.R_reads' HO356.out).2.1); rintro e w' ⟨rfl, ⟨nd, rfl⟩⟩; (try first | exact ⟨rfl, _, World.drewN_drewN _ _ _⟩ | exact ⟨rfl, _, Eq.trans (World.drewN_drewN _ _ _) (congrArg (World.drewN _) (Nat.add_assoc _ _ _))⟩)))
                          repeat (go_quiet (first | ((with_reducible refine gate_dst (N := 103) rfl ?_); (try (refine gate_guard (by rfl) ?_; dsimp only)); refine Kd.R_lit (Kd.int .i64) _ 3 ?hg (N := 103) ?hd (xs := ([] : List Int)) (inner := []) (ok := fun _ => True) (okp := fun _ => True) ?hr ?hp (fun _ hk => hk) trivial (Below.refl _ _) (Nat.le_refl _) (by simp) ?_; (case hd => rfl); (case hg => rfl); (case hr => first | (go_simp; done) | (go_simp; rfl)); (case hp => exact (Reps.none _ _)); intro v349 w33 ho34 hb hg_ hnew_; clear hg_ hnew_; (first | rw [← Ny348.out] at ho34 | (simp only [Int.reduceToNat] at ho34; rw [← Ny348.out] at ho34)); have n0_ := Aside0.mk (Kd.R_elder' (by (with_reducible repeat (first | apply Kd.R_alloc | apply Kd.R_drewN | apply Kd.R_drew)); exact HO_8.out) (Kd.R_base ho34) hb); have n1_ := Aside0.mk (Kd.R_elder' (by (with_reducible repeat (first | apply Kd.R_alloc | apply Kd.R_drewN | apply Kd.R_drew)); exact HO_9.out) (Kd.R_base ho34) hb); have n2_ := Aside0.mk (Kd.R_elder' (by (with_reducible repeat (first | apply Kd.R_alloc | apply Kd.R_drewN | apply Kd.R_drew)); exact HO347.out) (Kd.R_base ho34) hb); have n3_ := Aside0.mk (Kd.R_lower (Kd.R_new' (Kd.R_new' (Kd.R_new' ho34 (Kd.R_lt (by (with_reducible repeat (first | apply Kd.R_alloc | apply Kd.R_drewN | apply Kd.R_drew)); exact HO_8.out))) (Kd.R_lt (by (with_reducible repeat (first | apply Kd.R_alloc | apply Kd.R_drewN | apply Kd.R_drew)); exact HO_9.out))) (Kd.R_lt (by (with_reducible repeat (first | apply Kd.R_alloc | apply Kd.R_drewN | apply Kd.R_drew)); exact HO347.out))) (below_size (by repeat (first | (with_reducible first | exact HB.out | apply below_alloc | apply pw_below_drewN | apply below_drew1) | exact HB.out)))); have n4_ := Aside0.mk (below_step (by repeat (first | (with_reducible first | exact HB.out | apply below_alloc | apply pw_below_drewN | apply below_drew1) | exact HB.out)) hb); clear HO_8; clear HO_9; clear HO347; clear HB; have HO_8 := n0_; have HO_9 := n1_; have HO347 := n2_; have HO350 := n3_; have HB := n4_; clear n0_ n1_ n2_ n3_ n4_; clear hb ho34) | ((with_reducible refine gate_builtin (b := .append) (xs := #[.tmp 103, .tmp 104]) rfl ?_); (try (refine gate_guard (by rfl) ?_; dsimp only)); at_builtin; refine Kd.R_append_rows (Kd.int .i64) (w0 := w) w.heap.size rfl (.tmp 103) (.tmp 104) 22 3 (.int .i64 0) 8 rfl Try.underlying22 info3 rfl (by decide) (by omega) v349 y348 t328 _ _ _ (fun k_ => some k_ ≠ (.slice Ao31 t328.length co31 : Value).ownBlock ∧ some k_ ≠ (.slice Ao32 t329.length co32 : Value).ownBlock ∧ some k_ ≠ (v346 : Value).ownBlock) (fun _ => False) rfl rfl ?aO ?aR (fun _ _ h => h) (fun _ h => h.elim) ?aF ?aB ?aS ?aL ?_; (case aR => repeat (first | exact (Kd.R_reads' HO_8.out).2.2 | (with_reducible refine Kd.C_alloc ?_ _) | (with_reducible refine Kd.C_drewN ?_ _) | (with_reducible refine Kd.C_drew ?_))); (case aB => exact (by repeat (first | (with_reducible first | exact HB.out | apply below_alloc | apply pw_below_drewN | apply below_drew1) | exact HB.out))); (case aF => exact (fun k_ hk => ⟨Kd.fresh' (Kd.R_lt (by (with_reducible repeat (first | apply Kd.R_alloc | apply Kd.R_drewN | apply Kd.R_drew)); exact HO_8.out)) k_ hk, Kd.fresh' (Kd.R_lt (by (with_reducible repeat (first | apply Kd.R_alloc | apply Kd.R_drewN | apply Kd.R_drew)); exact HO_9.out)) k_ hk, Kd.fresh' (Kd.R_lt (by (with_reducible repeat (first | apply Kd.R_alloc | apply Kd.R_drewN | apply Kd.R_drew)); exact HO347.out)) k_ hk⟩)); (case aO => exact (by (with_reducible repeat (first | apply Kd.R_alloc | apply Kd.R_drewN | apply Kd.R_drew)); exact Kd.R_mono HO350.out (fun _ hk => ⟨hk.1.1.2, ⟨hk.1.2, hk.2⟩⟩))); (case aS => exact (below_size (by repeat (first | (with_reducible first | exact HB.out | apply below_alloc | apply pw_below_drewN | apply below_drew1) | exact HB.out)))); (case aL => have := LMc28.out; omega); intro v352 w35 ho hb hg hat; rw [← Ny351.out] at ho; have n0_ := Aside0.mk (Kd.R_after (ok := (fun k_ => some k_ ≠ (.slice Ao32 t329.length co32 : Value).ownBlock ∧ some k_ ≠ (v346 : Value).ownBlock)) (by (with_reducible repeat (first | apply Kd.R_alloc | apply Kd.R_drewN | apply Kd.R_drew)); exact HO_8.out) hg hat); have n1_ := Aside0.mk (Kd.R_after (ok := (fun k_ => some k_ ≠ (.slice Ao31 t328.length co31 : Value).ownBlock ∧ some k_ ≠ (v346 : Value).ownBlock)) (by (with_reducible repeat (first | apply Kd.R_alloc | apply Kd.R_drewN | apply Kd.R_drew)); exact HO_9.out) hg hat); have n2_ := Aside0.mk (Kd.R_after (ok := (fun k_ => some k_ ≠ (.slice Ao31 t328.length co31 : Value).ownBlock ∧ some k_ ≠ (.slice Ao32 t329.length co32 : Value).ownBlock)) (by (with_reducible repeat (first | apply Kd.R_alloc | apply Kd.R_drewN | apply Kd.R_drew)); exact Kd.R_mono HO347.out (fun _ hk => ⟨⟨hk.1.1.2, hk.1.2⟩, hk.2⟩)) hg hat); have n3_ := Aside0.mk (hb); have n4_ := Aside0.mk (ho); clear HO_8; clear HO_9; clear HO347; clear HB; clear HO350; have HO_8 := n0_; have HO_9 := n1_; have HO347 := n2_; have HB := n3_; have HO353 := n4_; clear n0_ n1_ n2_ n3_ n4_; clear ho hb hg hat) | ((with_reducible refine gate_builtin (b := .append) (xs := #[.tmp 105, .tmp 106]) rfl ?_); (try (refine gate_guard (by rfl) ?_; dsimp only)); at_builtin; refine Kd.R_append_rows (Kd.int .i64) (w0 := w) w.heap.size rfl (.tmp 105) (.tmp 106) 22 3 (.int .i64 0) 8 rfl Try.underlying22 info3 rfl (by decide) (by omega) v352 y351 t329 _ _ _ (fun k_ => some k_ ≠ (.slice Ao31 t328.length co31 : Value).ownBlock ∧ some k_ ≠ (.slice Ao32 t329.length co32 : Value).ownBlock ∧ some k_ ≠ (v346 : Value).ownBlock) (fun _ => False) rfl rfl ?aO ?aR (fun _ _ h => h) (fun _ h => h.elim) ?aF ?aB ?aS ?aL ?_; (case aR => repeat (first | exact (Kd.R_reads' HO_9.out).2.2 | (with_reducible refine Kd.C_alloc ?_ _) | (with_reducible refine Kd.C_drewN ?_ _) | (with_reducible refine Kd.C_drew ?_))); (case aB => exact (by repeat (first | (with_reducible first | exact HB.out | apply below_alloc | apply pw_below_drewN | apply below_drew1) | exact HB.out))); (case aF => exact (fun k_ hk => ⟨Kd.fresh' (Kd.R_lt (by (with_reducible repeat (first | apply Kd.R_alloc | apply Kd.R_drewN | apply Kd.R_drew)); exact HO_8.out)) k_ hk, Kd.fresh' (Kd.R_lt (by (with_reducible repeat (first | apply Kd.R_alloc | apply Kd.R_drewN | apply Kd.R_drew)); exact HO_9.out)) k_ hk, Kd.fresh' (Kd.R_lt (by (with_reducible repeat (first | apply Kd.R_alloc | apply Kd.R_drewN | apply Kd.R_drew)); exact HO347.out)) k_ hk⟩)); (case aO => exact (by (with_reducible repeat (first | apply Kd.R_alloc | apply Kd.R_drewN | apply Kd.R_drew)); exact HO353.out)); (case aS => exact (below_size (by repeat (first | (with_reducible first | exact HB.out | apply below_alloc | apply pw_below_drewN | apply below_drew1) | exact HB.out)))); (case aL => have := LMc29.out; omega); intro v355 w36 ho hb hg hat; rw [← Ny354.out] at ho; have n0_ := Aside0.mk (Kd.R_after (ok := (fun k_ => some k_ ≠ (.slice Ao32 t329.length co32 : Value).ownBlock ∧ some k_ ≠ (v346 : Value).ownBlock)) (by (with_reducible repeat (first | apply Kd.R_alloc | apply Kd.R_drewN | apply Kd.R_drew)); exact HO_8.out) hg hat); have n1_ := Aside0.mk (Kd.R_after (ok := (fun k_ => some k_ ≠ (.slice Ao31 t328.length co31 : Value).ownBlock ∧ some k_ ≠ (v346 : Value).ownBlock)) (by (with_reducible repeat (first | apply Kd.R_alloc | apply Kd.R_drewN | apply Kd.R_drew)); exact HO_9.out) hg hat); have n2_ := Aside0.mk (Kd.R_after (ok := (fun k_ => some k_ ≠ (.slice Ao31 t328.length co31 : Value).ownBlock ∧ some k_ ≠ (.slice Ao32 t329.length co32 : Value).ownBlock)) (by (with_reducible repeat (first | apply Kd.R_alloc | apply Kd.R_drewN | apply Kd.R_drew)); exact HO347.out) hg hat); have n3_ := Aside0.mk (hb); have n4_ := Aside0.mk (ho); clear HO_8; clear HO_9; clear HO347; clear HB; clear HO353; have HO_8 := n0_; have HO_9 := n1_; have HO347 := n2_; have HB := n3_; have HO356 := n4_; clear n0_ n1_ n2_ n3_ n4_; clear ho hb hg hat; obtain ⟨Ao37, co37, eo37⟩ := Kd.R_slice HO347.out; subst eo37; obtain ⟨Ao38, co38, eo38⟩ := Kd.R_slice HO356.out; subst eo38) | (go_at_call 32; (with_reducible refine (laws_qSame.calls kj7 _ _ t344 _ _ y354 t357 _ ?side1 ?side2 ?side3 ?side4 A30.out).mono ?_); (case side1 => repeat (first | exact (Kd.R_reads' HO347.out).2.2 | (with_reducible refine Kd.C_alloc ?_ _) | (with_reducible refine Kd.C_drewN ?_ _) | (with_reducible refine Kd.C_drew ?_))); (case side2 => exact (Kd.R_reads' HO347.out).2.1); (case side3 => repeat (first | exact (Kd.R_reads' HO356.out).2.2 | (with_reducible refine Kd.C_alloc ?_ _) | (with_reducible refine Kd.C_drewN ?_ _) | (with_reducible refine Kd.C_drew ?_))); (case side4 => exact (Kd.R_reads' HO356.out).2.1); rintro e w' ⟨rfl, ⟨nd, rfl⟩⟩; (try first | exact ⟨rfl, _, World.drewN_drewN _ _ _⟩ | exact ⟨rfl, _, Eq.trans (World.drewN_drewN _ _ _) (congrArg (World.drewN _) (Nat.add_assoc _ _ _))⟩))); try go_wp2_with (first | ((with_reducible refine gate_dst (N := 103) rfl ?_); (try (refine gate_guard (by rfl) ?_; dsimp only)); refine Kd.R_lit (Kd.int .i64) _ 3 ?hg (N := 103) ?hd (xs := ([] : List Int)) (inner := []) (ok := fun _ => True) (okp := fun _ => True) ?hr ?hp (fun _ hk => hk) trivial (Below.refl _ _) (Nat.le_refl _) (by simp) ?_; (case hd => rfl); (case hg => rfl); (case hr => first | (go_simp; done) | (go_simp; rfl)); (case hp => exact (Reps.none _ _)); intro v349 w33 ho34 hb hg_ hnew_; clear hg_ hnew_; (first | rw [← Ny348.out] at ho34 | (simp only [Int.reduceToNat] at ho34; rw [← Ny348.out] at ho34)); have n0_ := Aside0.mk (Kd.R_elder' (by (with_reducible repeat (first | apply Kd.R_alloc | apply Kd.R_drewN | apply Kd.R_drew)); exact HO_8.out) (Kd.R_base ho34) hb); have n1_ := Aside0.mk (Kd.R_elder' (by (with_reducible repeat (first | apply Kd.R_alloc | apply Kd.R_drewN | apply Kd.R_drew)); exact HO_9.out) (Kd.R_base ho34) hb); have n2_ := Aside0.mk (Kd.R_elder' (by (with_reducible repeat (first | apply Kd.R_alloc | apply Kd.R_drewN | apply Kd.R_drew)); exact HO347.out) (Kd.R_base ho34) hb); have n3_ := Aside0.mk (Kd.R_lower (Kd.R_new' (Kd.R_new' (Kd.R_new' ho34 (Kd.R_lt (by (with_reducible repeat (first | apply Kd.R_alloc | apply Kd.R_drewN | apply Kd.R_drew)); exact HO_8.out))) (Kd.R_lt (by (with_reducible repeat (first | apply Kd.R_alloc | apply Kd.R_drewN | apply Kd.R_drew)); exact HO_9.out))) (Kd.R_lt (by (with_reducible repeat (first | apply Kd.R_alloc | apply Kd.R_drewN | apply Kd.R_drew)); exact HO347.out))) (below_size (by repeat (first | (with_reducible first | exact HB.out | apply below_alloc | apply pw_below_drewN | apply below_drew1) | exact HB.out)))); have n4_ := Aside0.mk (below_step (by repeat (first | (with_reducible first | exact HB.out | apply below_alloc | apply pw_below_drewN | apply below_drew1) | exact HB.out)) hb); clear HO_8; clear HO_9; clear HO347; clear HB; have HO_8 := n0_; have HO_9 := n1_; have HO347 := n2_; have HO350 := n3_; have HB := n4_; clear n0_ n1_ n2_ n3_ n4_; clear hb ho34) | ((with_reducible refine gate_builtin (b := .append) (xs := #[.tmp 103, .tmp 104]) rfl ?_); (try (refine gate_guard (by rfl) ?_; dsimp only)); at_builtin; refine Kd.R_append_rows (Kd.int .i64) (w0 := w) w.heap.size rfl (.tmp 103) (.tmp 104) 22 3 (.int .i64 0) 8 rfl Try.underlying22 info3 rfl (by decide) (by omega) v349 y348 t328 _ _ _ (fun k_ => some k_ ≠ (.slice Ao31 t328.length co31 : Value).ownBlock ∧ some k_ ≠ (.slice Ao32 t329.length co32 : Value).ownBlock ∧ some k_ ≠ (v346 : Value).ownBlock) (fun _ => False) rfl rfl ?aO ?aR (fun _ _ h => h) (fun _ h => h.elim) ?aF ?aB ?aS ?aL ?_; (case aR => repeat (first | exact (Kd.R_reads' HO_8.out).2.2 | (with_reducible refine Kd.C_alloc ?_ _) | (with_reducible refine Kd.C_drewN ?_ _) | (with_reducible refine Kd.C_drew ?_))); (case aB => exact (by repeat (first | (with_reducible first | exact HB.out | apply below_alloc | apply pw_below_drewN | apply below_drew1) | exact HB.out))); (case aF => exact (fun k_ hk => ⟨Kd.fresh' (Kd.R_lt (by (with_reducible repeat (first | apply Kd.R_alloc | apply Kd.R_drewN | apply Kd.R_drew)); exact HO_8.out)) k_ hk, Kd.fresh' (Kd.R_lt (by (with_reducible repeat (first | apply Kd.R_alloc | apply Kd.R_drewN | apply Kd.R_drew)); exact HO_9.out)) k_ hk, Kd.fresh' (Kd.R_lt (by (with_reducible repeat (first | apply Kd.R_alloc | apply Kd.R_drewN | apply Kd.R_drew)); exact HO347.out)) k_ hk⟩)); (case aO => exact (by (with_reducible repeat (first | apply Kd.R_alloc | apply Kd.R_drewN | apply Kd.R_drew)); exact Kd.R_mono HO350.out (fun _ hk => ⟨hk.1.1.2, ⟨hk.1.2, hk.2⟩⟩))); (case aS => exact (below_size (by repeat (first | (with_reducible first | exact HB.out | apply below_alloc | apply pw_below_drewN | apply below_drew1) | exact HB.out)))); (case aL => have := LMc28.out; omega); intro v352 w35 ho hb hg hat; rw [← Ny351.out] at ho; have n0_ := Aside0.mk (Kd.R_after (ok := (fun k_ => some k_ ≠ (.slice Ao32 t329.length co32 : Value).ownBlock ∧ some k_ ≠ (v346 : Value).ownBlock)) (by (with_reducible repeat (first | apply Kd.R_alloc | apply Kd.R_drewN | apply Kd.R_drew)); exact HO_8.out) hg hat); have n1_ := Aside0.mk (Kd.R_after (ok := (fun k_ => some k_ ≠ (.slice Ao31 t328.length co31 : Value).ownBlock ∧ some k_ ≠ (v346 : Value).ownBlock)) (by (with_reducible repeat (first | apply Kd.R_alloc | apply Kd.R_drewN | apply Kd.R_drew)); exact HO_9.out) hg hat); have n2_ := Aside0.mk (Kd.R_after (ok := (fun k_ => some k_ ≠ (.slice Ao31 t328.length co31 : Value).ownBlock ∧ some k_ ≠ (.slice Ao32 t329.length co32 : Value).ownBlock)) (by (with_reducible repeat (first | apply Kd.R_alloc | apply Kd.R_drewN | apply Kd.R_drew)); exact Kd.R_mono HO347.out (fun _ hk => ⟨⟨hk.1.1.2, hk.1.2⟩, hk.2⟩)) hg hat); have n3_ := Aside0.mk (hb); have n4_ := Aside0.mk (ho); clear HO_8; clear HO_9; clear HO347; clear HB; clear HO350; have HO_8 := n0_; have HO_9 := n1_; have HO347 := n2_; have HB := n3_; have HO353 := n4_; clear n0_ n1_ n2_ n3_ n4_; clear ho hb hg hat) | ((with_reducible refine gate_builtin (b := .append) (xs := #[.tmp 105, .tmp 106]) rfl ?_); (try (refine gate_guard (by rfl) ?_; dsimp only)); at_builtin; refine Kd.R_append_rows (Kd.int .i64) (w0 := w) w.heap.size rfl (.tmp 105) (.tmp 106) 22 3 (.int .i64 0) 8 rfl Try.underlying22 info3 rfl (by decide) (by omega) v352 y351 t329 _ _ _ (fun k_ => some k_ ≠ (.slice Ao31 t328.length co31 : Value).ownBlock ∧ some k_ ≠ (.slice Ao32 t329.length co32 : Value).ownBlock ∧ some k_ ≠ (v346 : Value).ownBlock) (fun _ => False) rfl rfl ?aO ?aR (fun _ _ h => h) (fun _ h => h.elim) ?aF ?aB ?aS ?aL ?_; (case aR => repeat (first | exact (Kd.R_reads' HO_9.out).2.2 | (with_reducible refine Kd.C_alloc ?_ _) | (with_reducible refine Kd.C_drewN ?_ _) | (with_reducible refine Kd.C_drew ?_))); (case aB => exact (by repeat (first | (with_reducible first | exact HB.out | apply below_alloc | apply pw_below_drewN | apply below_drew1) | exact HB.out))); (case aF => exact (fun k_ hk => ⟨Kd.fresh' (Kd.R_lt (by (with_reducible repeat (first | apply Kd.R_alloc | apply Kd.R_drewN | apply Kd.R_drew)); exact HO_8.out)) k_ hk, Kd.fresh' (Kd.R_lt (by (with_reducible repeat (first | apply Kd.R_alloc | apply Kd.R_drewN | apply Kd.R_drew)); exact HO_9.out)) k_ hk, Kd.fresh' (Kd.R_lt (by (with_reducible repeat (first | apply Kd.R_alloc | apply Kd.R_drewN | apply Kd.R_drew)); exact HO347.out)) k_ hk⟩)); (case aO => exact (by (with_reducible repeat (first | apply Kd.R_alloc | apply Kd.R_drewN | apply Kd.R_drew)); exact HO353.out)); (case aS => exact (below_size (by repeat (first | (with_reducible first | exact HB.out | apply below_alloc | apply pw_below_drewN | apply below_drew1) | exact HB.out)))); (case aL => have := LMc29.out; omega); intro v355 w36 ho hb hg hat; rw [← Ny354.out] at ho; have n0_ := Aside0.mk (Kd.R_after (ok := (fun k_ => some k_ ≠ (.slice Ao32 t329.length co32 : Value).ownBlock ∧ some k_ ≠ (v346 : Value).ownBlock)) (by (with_reducible repeat (first | apply Kd.R_alloc | apply Kd.R_drewN | apply Kd.R_drew)); exact HO_8.out) hg hat); have n1_ := Aside0.mk (Kd.R_after (ok := (fun k_ => some k_ ≠ (.slice Ao31 t328.length co31 : Value).ownBlock ∧ some k_ ≠ (v346 : Value).ownBlock)) (by (with_reducible repeat (first | apply Kd.R_alloc | apply Kd.R_drewN | apply Kd.R_drew)); exact HO_9.out) hg hat); have n2_ := Aside0.mk (Kd.R_after (ok := (fun k_ => some k_ ≠ (.slice Ao31 t328.length co31 : Value).ownBlock ∧ some k_ ≠ (.slice Ao32 t329.length co32 : Value).ownBlock)) (by (with_reducible repeat (first | apply Kd.R_alloc | apply Kd.R_drewN | apply Kd.R_drew)); exact HO347.out) hg hat); have n3_ := Aside0.mk (hb); have n4_ := Aside0.mk (ho); clear HO_8; clear HO_9; clear HO347; clear HB; clear HO353; have HO_8 := n0_; have HO_9 := n1_; have HO347 := n2_; have HB := n3_; have HO356 := n4_; clear n0_ n1_ n2_ n3_ n4_; clear ho hb hg hat; obtain ⟨Ao37, co37, eo37⟩ := Kd.R_slice HO347.out; subst eo37; obtain ⟨Ao38, co38, eo38⟩ := Kd.R_slice HO356.out; subst eo38) | (go_at_call 32; (with_reducible refine (laws_qSame.calls kj7 _ _ t344 _ _ y354 t357 _ ?side1 ?side2 ?side3 ?side4 A30.out).mono ?_); (case side1 => repeat (first | exact (Kd.R_reads' HO347.out).2.2 | (with_reducible refine Kd.C_alloc ?_ _) | (with_reducible refine Kd.C_drewN ?_ _) | (with_reducible refine Kd.C_drew ?_))); (case side2 => exact (Kd.R_reads' HO347.out).2.1); (case side3 => repeat (first | exact (Kd.R_reads' HO356.out).2.2 | (with_reducible refine Kd.C_alloc ?_ _) | (with_reducible refine Kd.C_drewN ?_ _) | (with_reducible refine Kd.C_drew ?_))); (case side4 => exact (Kd.R_reads' HO356.out).2.1); rintro e w' ⟨rfl, ⟨nd, rfl⟩⟩; (try first | exact ⟨rfl, _, World.drewN_drewN _ _ _⟩ | exact ⟨rfl, _, Eq.trans (World.drewN_drewN _ _ _) (congrArg (World.drewN _) (Nat.add_assoc _ _ _))⟩))))
                          go_meet
                          case rel => exact ⟨_, (!t357), (by first | rfl | (simp; done) | (simp [*]; done)), H', ⟨by have := HJ7.out; first | omega | exact Nat.le_refl _⟩, ⟨by (with_reducible repeat (first | apply Kd.R_alloc | apply Kd.R_drewN | apply Kd.R_drew)); exact Kd.R_mono HO_8.out (fun _ hk => hk.1.1)⟩, ⟨by (with_reducible repeat (first | apply Kd.R_alloc | apply Kd.R_drewN | apply Kd.R_drew)); exact Kd.R_mono HO_9.out (fun _ hk => hk.1.1)⟩, ⟨by repeat (first | (with_reducible first | exact HB.out | apply below_alloc | apply pw_below_drewN | apply below_drew1) | exact HB.out)⟩⟩
                      · rw [if_neg c29] at H
                        exact absurd H (by simp)
                    · rw [if_neg c28] at H
                      exact absurd H (by simp)
                  · rw [if_neg c27] at H
                    have c27b0 : ((t328.length : Int) == (t329.length : Int)) = false := beq_eq_false_iff_ne.mpr c27
                    have c27b1 : ((t328.length : Int) != (t329.length : Int)) = true := bne_iff_ne.mpr c27
                    have c27b2 : (t328.length == t329.length) = false := by first | simpa using c27 | (simp at c27 ⊢; omega)
                    (first | rw [c27b0] | (simp only [i64_w, i32_w]; rw [c27b0]) | skip)
                    exact (laws_FnCyclicNumbers.j1_no HR_.out _ _ _ _ _ H).elim
                · replace c26 := Bool.eq_false_iff.mpr c26
                  subst c26
                  have H1 : (laws_FnCyclicNumbers.j1 kj7 l1 t327 t328 t329 true) = some r := by rw [if_neg (show ¬ (false = true) by decide)] at H; exact H
                  clear H
                  have H := H1
                  clear H1
                  exact (laws_FnCyclicNumbers.j1_no HR_.out _ _ _ _ _ H).elim
              case rest =>
                clear HC24
                try clear c1
                try clear c2
                try clear p2
                try clear c4
                try clear c12
                try clear c12b0
                try clear c12b1
                try clear c12b2
                try clear c14
                try clear c20
                try clear c22
                try clear c26
                try clear c27
                try clear c27b0
                try clear c27b1
                try clear c27b2
                try clear c28
                try clear c29
                try clear p2
                obtain ⟨kq, x110_23, rfl, HA, HJ23, HO_8, HO_9, HB⟩ := hcut
                cases kq with
                | zero => exact absurd HA.out (by simp [laws_FnCyclicNumbers.j1])
                | succ kj23 =>
                  have H := HA.out
                  clear HA
                  simp only [laws_FnCyclicNumbers.j1] at H
                  by_cases c39 : x110_23 = true
                  · subst c39
                    have H1 : (some false) = some r := by rw [if_pos rfl] at H; exact H
                    clear H
                    have H := H1
                    clear H1
                    exact absurd (Option.some.inj H) (by rw [HR_.out]; decide)
                  · replace c39 := Bool.eq_false_iff.mpr c39
                    subst c39
                    have H1 : (laws_FnCyclicNumbers.l0 kj23 l1 t327 t328 t329 (t328.length : Int) 0) = some r := by rw [if_neg (show ¬ (false = true) by decide)] at H; exact H
                    clear H
                    have H := H1
                    clear H1
                    have H' := Aside0.mk H
                    clear H
                    obtain ⟨Ao40, co40, eo40⟩ := Kd.R_slice HO_8.out
                    subst eo40
                    go_wp2
                    repeat (go_quiet (fail); try go_wp2)
                    go_loopg [113] kj23 (fun kq v113 w' => ∃ (x113_3 : Int), v113 = .int .i64 x113_3 ∧ Aside0 (laws_FnCyclicNumbers.l0 kq l1 t327 t328 t329 (t328.length : Int) x113_3 = some r) ∧ Aside0 (kq ≤ kj23) ∧ Aside0 (Kd.R (Kd.int .i64) 3 w' w.heap.size (fun k_ => some k_ ≠ (v333 : Value).ownBlock) (.slice Ao40 t328.length co40) t328) ∧ Aside0 (Kd.R (Kd.int .i64) 3 w' w.heap.size (fun k_ => some k_ ≠ ((.slice Ao40 t328.length co40) : Value).ownBlock) v333 t329) ∧ Aside0 (Below w.heap.size w w'))
                    case atStart => exact ⟨(0), (by first | rfl | (simp; done) | (simp [*]; done)), H', ⟨Nat.le_refl _⟩, ⟨by (with_reducible repeat (first | apply Kd.R_alloc | apply Kd.R_drewN | apply Kd.R_drew)); exact HO_8.out⟩, ⟨by (with_reducible repeat (first | apply Kd.R_alloc | apply Kd.R_drewN | apply Kd.R_drew)); exact HO_9.out⟩, ⟨by repeat (first | (with_reducible first | exact HB.out | apply below_alloc | apply pw_below_drewN | apply below_drew1) | exact HB.out)⟩⟩
                    case round =>
                      clear H'
                      try clear c1
                      try clear c2
                      try clear p2
                      try clear c3
                      try clear c4
                      try clear c12
                      try clear c12b0
                      try clear c12b1
                      try clear c12b2
                      try clear c14
                      try clear c20
                      try clear c22
                      try clear c26
                      try clear c27
                      try clear c27b0
                      try clear c27b1
                      try clear c27b2
                      try clear c28
                      try clear c29
                      try clear c39
                      try clear p2
                      obtain ⟨x113_3, rfl, HA, HK3, HO_8, HO_9, HB⟩ := hrel
                      cases gk with
                      | zero => exact absurd HA.out (by simp [laws_FnCyclicNumbers.l0])
                      | succ k3 =>
                        have H := HA.out
                        clear HA
                        simp only [laws_FnCyclicNumbers.l0] at H
                        by_cases c41 : x113_3 < (t328.length : Int)
                        · rw [if_pos c41] at H
                          have c41b0 : decide (x113_3 < (t328.length : Int)) = true := decide_eq_true c41
                          clear c41
                          by_cases c42 : 0 ≤ x113_3
                          · rw [if_pos c42] at H
                            have c42b0 : decide (0 ≤ x113_3) = true := decide_eq_true c42
                            clear c42
                            by_cases c43 : x113_3 < (t328.length : Int)
                            · rw [if_pos c43] at H
                              have c43b0 : decide (x113_3 < (t328.length : Int)) = true := decide_eq_true c43
                              clear c43
                              by_cases c44 : x113_3 < (t329.length : Int)
                              · rw [if_pos c44] at H
                                have c44b0 : decide (x113_3 < (t329.length : Int)) = true := decide_eq_true c44
                                clear c44
                                by_cases c45 : (wrap64 ((rd t328 x113_3) + (rd t329 x113_3))) = (wrap64 (t327 - 1))
                                · rw [if_pos c45] at H
                                  have c45b0 : ((wrap64 ((rd t328 x113_3) + (rd t329 x113_3))) == (wrap64 (t327 - 1))) = true := beq_iff_eq.mpr c45
                                  have c45b1 : ((wrap64 ((rd t328 x113_3) + (rd t329 x113_3))) != (wrap64 (t327 - 1))) = false := bne_eq_false_iff_eq.mpr c45
                                  clear c45
                                  as_aux_lemma =>
                                    have H' := Aside0.mk H
                                    clear H
                                    have p358 : 0 ≤ (x113_3 : Int) := of_decide_eq_true (by first | (with_reducible assumption) | assumption)
                                    have q358 : x113_3 < (t328.length : Int) := of_decide_eq_true (by first | (with_reducible assumption) | assumption)
                                    obtain ⟨ad358, e358, hx358_0⟩ := Kd.at_int (Kd.R_reads' HO_8.out).2.2 x113_3 p358 q358
                                    cases e358
                                    replace p358 := eq_true p358
                                    replace q358 := eq_true q358
                                    obtain ⟨Ao46, co46, eo46⟩ := Kd.R_slice HO_9.out
                                    subst eo46
                                    have p359 : 0 ≤ (x113_3 : Int) := of_decide_eq_true (by first | (with_reducible assumption) | assumption)
                                    have q359 : x113_3 < (t329.length : Int) := of_decide_eq_true (by first | (with_reducible assumption) | assumption)
                                    obtain ⟨ad359, e359, hx359_0⟩ := Kd.at_int (Kd.R_reads' HO_9.out).2.2 x113_3 p359 q359
                                    cases e359
                                    replace p359 := eq_true p359
                                    replace q359 := eq_true q359
                                    go_wp2
                                    repeat (go_quiet (fail); try go_wp2)
                                    go_roundg k3
                                    case measure => have := HJ7.out; have := HJ23.out; have := HK3.out; omega
                                    case rel => exact ⟨(wrap64 (x113_3 + 1)), (by first | rfl | (simp; done) | (simp [*]; done)), H', ⟨by have := HJ7.out; have := HJ23.out; have := HK3.out; omega⟩, ⟨by (with_reducible repeat (first | apply Kd.R_alloc | apply Kd.R_drewN | apply Kd.R_drew)); exact HO_8.out⟩, ⟨by (with_reducible repeat (first | apply Kd.R_alloc | apply Kd.R_drewN | apply Kd.R_drew)); exact HO_9.out⟩, ⟨by repeat (first | (with_reducible first | exact HB.out | apply below_alloc | apply pw_below_drewN | apply below_drew1) | exact HB.out)⟩⟩
                                · rw [if_neg c45] at H
                                  have c45b0 : ((wrap64 ((rd t328 x113_3) + (rd t329 x113_3))) == (wrap64 (t327 - 1))) = false := beq_eq_false_iff_ne.mpr c45
                                  have c45b1 : ((wrap64 ((rd t328 x113_3) + (rd t329 x113_3))) != (wrap64 (t327 - 1))) = true := bne_iff_ne.mpr c45
                                  exact absurd (Option.some.inj H) (by rw [HR_.out]; decide)
                              · rw [if_neg c44] at H
                                exact absurd H (by simp)
                            · rw [if_neg c43] at H
                              exact absurd H (by simp)
                          · rw [if_neg c42] at H
                            exact absurd H (by simp)
                        · rw [if_neg c41] at H
                          have c41b0 : decide (x113_3 < (t328.length : Int)) = false := decide_eq_false c41
                          clear c41
                          as_aux_lemma =>
                            have H' := Aside0.mk H
                            clear H
                            go_wp2
                            repeat (go_quiet (fail); try go_wp2)
                            go_meet
                            case rel => exact ⟨_, H', ⟨by have := HJ7.out; have := HJ23.out; have := HK3.out; first | omega | exact Nat.le_refl _⟩, ⟨by repeat (first | (with_reducible first | exact HB.out | apply below_alloc | apply pw_below_drewN | apply below_drew1) | exact HB.out)⟩⟩
            · replace c22 := Bool.eq_false_iff.mpr c22
              subst c22
              have H1 : (laws_FnCyclicNumbers.j3 kj7 l1) = some r := by rw [if_neg (show ¬ (false = true) by decide)] at H; exact H
              clear H
              have H := H1
              clear H1
              as_aux_lemma =>
                have H' := Aside0.mk H
                clear H
                go_wp2
                repeat (go_quiet (fail); try go_wp2)
                go_meet
                case rel => exact ⟨_, H', ⟨by have := HJ7.out; first | omega | exact Nat.le_refl _⟩, ⟨by repeat (first | (with_reducible first | exact HB.out | apply below_alloc | apply pw_below_drewN | apply below_drew1) | exact HB.out)⟩⟩
          case rest =>
            clear HC21
            try clear c1
            try clear c2
            try clear p2
            try clear c3
            try clear p3
            try clear q3
            try clear hx3
            try clear c4
            try clear p6
            try clear c12
            try clear c12b0
            try clear c12b1
            try clear c12b2
            try clear c14
            try clear c20
            try clear c22
            try clear c26
            try clear c27
            try clear c27b0
            try clear c27b1
            try clear c27b2
            try clear c28
            try clear c29
            try clear p35
            try clear q35
            try clear hx35
            try clear c39
            try clear c41
            try clear c41b0
            try clear c42
            try clear c42b0
            try clear c43
            try clear c43b0
            try clear c44
            try clear c44b0
            try clear c45
            try clear c45b0
            try clear c45b1
            try clear hx358_0
            try clear hx359_0
            try clear p2
            try clear p358
            try clear p359
            try clear q358
            try clear q359
            obtain ⟨kq, HA, HJ20, HB⟩ := hcut
            cases kq with
            | zero => exact absurd HA.out (by simp [laws_FnCyclicNumbers.j3])
            | succ kj20 =>
              have H := HA.out
              clear HA
              simp only [laws_FnCyclicNumbers.j3] at H
              replace H := Option.bind_eq_some_iff.mp H
              obtain ⟨⟨t360, t361⟩, A470, H⟩ := H
              replace H : ((impl_TurnsOf.f kj20 t360 t361).bind fun bt362 => ((spec_TurnsOf.f kj20 t360 t361).bind fun bt366 => ((impl_CyclicOf.f kj20 t360 t361).bind fun bt370 => ((spec_CyclicOf.f kj20 t360 t361).bind fun bt374 => (if (bt362.2 != bt366.2) = true then (laws_FnCyclicNumbers.j4 kj20 l1 t360 t361 bt362.1 bt362.2 bt370.1 true) else ((laws_qSame.f kj20 bt362.1 bt366.1).bind fun t378 => (if t378 = true then (if (bt370.2 != bt374.2) = true then (laws_FnCyclicNumbers.j4 kj20 l1 t360 t361 bt362.1 bt362.2 bt370.1 true) else ((laws_qSame.f kj20 bt370.1 bt374.1).bind fun t379 => (if t379 = true then (laws_FnCyclicNumbers.j4 kj20 l1 t360 t361 bt362.1 bt362.2 bt370.1 (bt370.2 != bt362.2)) else (laws_FnCyclicNumbers.j4 kj20 l1 t360 t361 bt362.1 bt362.2 bt370.1 true)))) else (laws_FnCyclicNumbers.j4 kj20 l1 t360 t361 bt362.1 bt362.2 bt370.1 true)))))))) = some r := H
              have A47 := Aside0.mk A470
              clear A470
              replace H := Option.bind_eq_some_iff.mp H
              obtain ⟨⟨t362, t363⟩, A480, H⟩ := H
              replace H : ((spec_TurnsOf.f kj20 t360 t361).bind fun bt366 => ((impl_CyclicOf.f kj20 t360 t361).bind fun bt370 => ((spec_CyclicOf.f kj20 t360 t361).bind fun bt374 => (if (t363 != bt366.2) = true then (laws_FnCyclicNumbers.j4 kj20 l1 t360 t361 t362 t363 bt370.1 true) else ((laws_qSame.f kj20 t362 bt366.1).bind fun t378 => (if t378 = true then (if (bt370.2 != bt374.2) = true then (laws_FnCyclicNumbers.j4 kj20 l1 t360 t361 t362 t363 bt370.1 true) else ((laws_qSame.f kj20 bt370.1 bt374.1).bind fun t379 => (if t379 = true then (laws_FnCyclicNumbers.j4 kj20 l1 t360 t361 t362 t363 bt370.1 (bt370.2 != t363)) else (laws_FnCyclicNumbers.j4 kj20 l1 t360 t361 t362 t363 bt370.1 true)))) else (laws_FnCyclicNumbers.j4 kj20 l1 t360 t361 t362 t363 bt370.1 true))))))) = some r := H
              have A48 := Aside0.mk A480
              clear A480
              replace H := Option.bind_eq_some_iff.mp H
              obtain ⟨⟨t366, t367⟩, A490, H⟩ := H
              replace H : ((impl_CyclicOf.f kj20 t360 t361).bind fun bt370 => ((spec_CyclicOf.f kj20 t360 t361).bind fun bt374 => (if (t363 != t367) = true then (laws_FnCyclicNumbers.j4 kj20 l1 t360 t361 t362 t363 bt370.1 true) else ((laws_qSame.f kj20 t362 t366).bind fun t378 => (if t378 = true then (if (bt370.2 != bt374.2) = true then (laws_FnCyclicNumbers.j4 kj20 l1 t360 t361 t362 t363 bt370.1 true) else ((laws_qSame.f kj20 bt370.1 bt374.1).bind fun t379 => (if t379 = true then (laws_FnCyclicNumbers.j4 kj20 l1 t360 t361 t362 t363 bt370.1 (bt370.2 != t363)) else (laws_FnCyclicNumbers.j4 kj20 l1 t360 t361 t362 t363 bt370.1 true)))) else (laws_FnCyclicNumbers.j4 kj20 l1 t360 t361 t362 t363 bt370.1 true)))))) = some r := H
              have A49 := Aside0.mk A490
              clear A490
              replace H := Option.bind_eq_some_iff.mp H
              obtain ⟨⟨t370, t371⟩, A500, H⟩ := H
              replace H : ((spec_CyclicOf.f kj20 t360 t361).bind fun bt374 => (if (t363 != t367) = true then (laws_FnCyclicNumbers.j4 kj20 l1 t360 t361 t362 t363 t370 true) else ((laws_qSame.f kj20 t362 t366).bind fun t378 => (if t378 = true then (if (t371 != bt374.2) = true then (laws_FnCyclicNumbers.j4 kj20 l1 t360 t361 t362 t363 t370 true) else ((laws_qSame.f kj20 t370 bt374.1).bind fun t379 => (if t379 = true then (laws_FnCyclicNumbers.j4 kj20 l1 t360 t361 t362 t363 t370 (t371 != t363)) else (laws_FnCyclicNumbers.j4 kj20 l1 t360 t361 t362 t363 t370 true)))) else (laws_FnCyclicNumbers.j4 kj20 l1 t360 t361 t362 t363 t370 true))))) = some r := H
              have A50 := Aside0.mk A500
              clear A500
              replace H := Option.bind_eq_some_iff.mp H
              obtain ⟨⟨t374, t375⟩, A510, H⟩ := H
              replace H : (if (t363 != t367) = true then (laws_FnCyclicNumbers.j4 kj20 l1 t360 t361 t362 t363 t370 true) else ((laws_qSame.f kj20 t362 t366).bind fun t378 => (if t378 = true then (if (t371 != t375) = true then (laws_FnCyclicNumbers.j4 kj20 l1 t360 t361 t362 t363 t370 true) else ((laws_qSame.f kj20 t370 t374).bind fun t379 => (if t379 = true then (laws_FnCyclicNumbers.j4 kj20 l1 t360 t361 t362 t363 t370 (t371 != t363)) else (laws_FnCyclicNumbers.j4 kj20 l1 t360 t361 t362 t363 t370 true)))) else (laws_FnCyclicNumbers.j4 kj20 l1 t360 t361 t362 t363 t370 true)))) = some r := H
              have A51 := Aside0.mk A510
              clear A510
              have HC52 := Aside0.mk H
              clear H
              go_upto_region 23 with (first | (go_at_call 102; (with_reducible refine (spec_DrawTurnsOf.calls _ _ l1 t360 t361 _ ?side1 ?side2 A47.out).mono ?_); (case side1 => repeat (first | exact (Kd.C_below HR1.out HB.out) | (with_reducible refine Kd.C_alloc ?_ _) | (with_reducible refine Kd.C_drewN ?_ _) | (with_reducible refine Kd.C_drew ?_))); (case side2 => exact HC1.out); rintro e w53 ⟨rfl, hb⟩; have n0_ := Aside0.mk (below_step (by repeat (first | (with_reducible first | exact HB.out | apply below_alloc | apply pw_below_drewN | apply below_drew1) | exact HB.out)) hb); clear HB; have HB := n0_; clear n0_; (try clear hb); (try clear hb2); (try clear hk); (try clear hi)) | (go_at_call 103; (with_reducible refine (impl_TurnsOf.calls kj20 t360 t361 t362 t363 _ A48.out).mono ?_); rintro e w54 ⟨v364, rfl, ho0, hb⟩; have n0_ := Aside0.mk (Kd.R_lower ho0 (below_size (by repeat (first | (with_reducible first | exact HB.out | apply below_alloc | apply pw_below_drewN | apply below_drew1) | exact HB.out)))); have n1_ := Aside0.mk (below_step (by repeat (first | (with_reducible first | exact HB.out | apply below_alloc | apply pw_below_drewN | apply below_drew1) | exact HB.out)) hb); clear HB; have HO365 := n0_; have HB := n1_; clear n0_ n1_; (try clear hb); (try clear hb2); (try clear hk); (try clear hi); (try clear ho0)) | (go_at_call 104; (with_reducible refine (spec_TurnsOf.calls kj20 t360 t361 t366 t367 _ A49.out).mono ?_); rintro e w55 ⟨v368, rfl, ho0, hb⟩; have n0_ := Aside0.mk (Kd.R_elder' (by (with_reducible repeat (first | apply Kd.R_alloc | apply Kd.R_drewN | apply Kd.R_drew)); exact HO365.out) (Kd.R_base ho0) hb); have n1_ := Aside0.mk (Kd.R_lower (Kd.R_new' ho0 (Kd.R_lt (by (with_reducible repeat (first | apply Kd.R_alloc | apply Kd.R_drewN | apply Kd.R_drew)); exact HO365.out))) (below_size (by repeat (first | (with_reducible first | exact HB.out | apply below_alloc | apply pw_below_drewN | apply below_drew1) | exact HB.out)))); have n2_ := Aside0.mk (below_step (by repeat (first | (with_reducible first | exact HB.out | apply below_alloc | apply pw_below_drewN | apply below_drew1) | exact HB.out)) hb); clear HO365; clear HB; have HO365 := n0_; have HO369 := n1_; have HB := n2_; clear n0_ n1_ n2_; (try clear hb); (try clear hb2); (try clear hk); (try clear hi); (try clear ho0)) | (go_at_call 105; (with_reducible refine (impl_CyclicOf.calls kj20 t360 t361 t370 t371 _ A50.out).mono ?_); rintro e w56 ⟨v372, rfl, ho0, hb⟩; have n0_ := Aside0.mk (Kd.R_elder' (by (with_reducible repeat (first | apply Kd.R_alloc | apply Kd.R_drewN | apply Kd.R_drew)); exact HO365.out) (Kd.R_base ho0) hb); have n1_ := Aside0.mk (Kd.R_elder' (by (with_reducible repeat (first | apply Kd.R_alloc | apply Kd.R_drewN | apply Kd.R_drew)); exact HO369.out) (Kd.R_base ho0) hb); have n2_ := Aside0.mk (Kd.R_lower (Kd.R_new' (Kd.R_new' ho0 (Kd.R_lt (by (with_reducible repeat (first | apply Kd.R_alloc | apply Kd.R_drewN | apply Kd.R_drew)); exact HO365.out))) (Kd.R_lt (by (with_reducible repeat (first | apply Kd.R_alloc | apply Kd.R_drewN | apply Kd.R_drew)); exact HO369.out))) (below_size (by repeat (first | (with_reducible first | exact HB.out | apply below_alloc | apply pw_below_drewN | apply below_drew1) | exact HB.out)))); have n3_ := Aside0.mk (below_step (by repeat (first | (with_reducible first | exact HB.out | apply below_alloc | apply pw_below_drewN | apply below_drew1) | exact HB.out)) hb); clear HO365; clear HO369; clear HB; have HO365 := n0_; have HO369 := n1_; have HO373 := n2_; have HB := n3_; clear n0_ n1_ n2_ n3_; (try clear hb); (try clear hb2); (try clear hk); (try clear hi); (try clear ho0)) | (go_at_call 106; (with_reducible refine (spec_CyclicOf.calls kj20 t360 t361 t374 t375 _ A51.out).mono ?_); rintro e w57 ⟨v376, rfl, ho0, hb⟩; have n0_ := Aside0.mk (Kd.R_elder' (by (with_reducible repeat (first | apply Kd.R_alloc | apply Kd.R_drewN | apply Kd.R_drew)); exact HO365.out) (Kd.Q_base ho0) hb); have n1_ := Aside0.mk (Kd.R_elder' (by (with_reducible repeat (first | apply Kd.R_alloc | apply Kd.R_drewN | apply Kd.R_drew)); exact HO369.out) (Kd.Q_base ho0) hb); have n2_ := Aside0.mk (Kd.R_elder' (by (with_reducible repeat (first | apply Kd.R_alloc | apply Kd.R_drewN | apply Kd.R_drew)); exact HO373.out) (Kd.Q_base ho0) hb); have n3_ := Aside0.mk (Kd.Q_lower (Kd.Q_new' (Kd.Q_new' (Kd.Q_new' ho0 (Kd.R_lt (by (with_reducible repeat (first | apply Kd.R_alloc | apply Kd.R_drewN | apply Kd.R_drew)); exact HO365.out))) (Kd.R_lt (by (with_reducible repeat (first | apply Kd.R_alloc | apply Kd.R_drewN | apply Kd.R_drew)); exact HO369.out))) (Kd.R_lt (by (with_reducible repeat (first | apply Kd.R_alloc | apply Kd.R_drewN | apply Kd.R_drew)); exact HO373.out))) (below_size (by repeat (first | (with_reducible first | exact HB.out | apply below_alloc | apply pw_below_drewN | apply below_drew1) | exact HB.out)))); have n4_ := Aside0.mk (below_step (by repeat (first | (with_reducible first | exact HB.out | apply below_alloc | apply pw_below_drewN | apply below_drew1) | exact HB.out)) hb); clear HO365; clear HO369; clear HO373; clear HB; have HO365 := n0_; have HO369 := n1_; have HO373 := n2_; have HO377 := n3_; have HB := n4_; clear n0_ n1_ n2_ n3_ n4_; (try clear hb); (try clear hb2); (try clear hk); (try clear hi); (try clear ho0)))
              repeat (go_quiet (first | (go_at_call 102; (with_reducible refine (spec_DrawTurnsOf.calls _ _ l1 t360 t361 _ ?side1 ?side2 A47.out).mono ?_); (case side1 => repeat (first | exact (Kd.C_below HR1.out HB.out) | (with_reducible refine Kd.C_alloc ?_ _) | (with_reducible refine Kd.C_drewN ?_ _) | (with_reducible refine Kd.C_drew ?_))); (case side2 => exact HC1.out); rintro e w53 ⟨rfl, hb⟩; have n0_ := Aside0.mk (below_step (by repeat (first | (with_reducible first | exact HB.out | apply below_alloc | apply pw_below_drewN | apply below_drew1) | exact HB.out)) hb); clear HB; have HB := n0_; clear n0_; (try clear hb); (try clear hb2); (try clear hk); (try clear hi)) | (go_at_call 103; (with_reducible refine (impl_TurnsOf.calls kj20 t360 t361 t362 t363 _ A48.out).mono ?_); rintro e w54 ⟨v364, rfl, ho0, hb⟩; have n0_ := Aside0.mk (Kd.R_lower ho0 (below_size (by repeat (first | (with_reducible first | exact HB.out | apply below_alloc | apply pw_below_drewN | apply below_drew1) | exact HB.out)))); have n1_ := Aside0.mk (below_step (by repeat (first | (with_reducible first | exact HB.out | apply below_alloc | apply pw_below_drewN | apply below_drew1) | exact HB.out)) hb); clear HB; have HO365 := n0_; have HB := n1_; clear n0_ n1_; (try clear hb); (try clear hb2); (try clear hk); (try clear hi); (try clear ho0)) | (go_at_call 104; (with_reducible refine (spec_TurnsOf.calls kj20 t360 t361 t366 t367 _ A49.out).mono ?_); rintro e w55 ⟨v368, rfl, ho0, hb⟩; have n0_ := Aside0.mk (Kd.R_elder' (by (with_reducible repeat (first | apply Kd.R_alloc | apply Kd.R_drewN | apply Kd.R_drew)); exact HO365.out) (Kd.R_base ho0) hb); have n1_ := Aside0.mk (Kd.R_lower (Kd.R_new' ho0 (Kd.R_lt (by (with_reducible repeat (first | apply Kd.R_alloc | apply Kd.R_drewN | apply Kd.R_drew)); exact HO365.out))) (below_size (by repeat (first | (with_reducible first | exact HB.out | apply below_alloc | apply pw_below_drewN | apply below_drew1) | exact HB.out)))); have n2_ := Aside0.mk (below_step (by repeat (first | (with_reducible first | exact HB.out | apply below_alloc | apply pw_below_drewN | apply below_drew1) | exact HB.out)) hb); clear HO365; clear HB; have HO365 := n0_; have HO369 := n1_; have HB := n2_; clear n0_ n1_ n2_; (try clear hb); (try clear hb2); (try clear hk); (try clear hi); (try clear ho0)) | (go_at_call 105; (with_reducible refine (impl_CyclicOf.calls kj20 t360 t361 t370 t371 _ A50.out).mono ?_); rintro e w56 ⟨v372, rfl, ho0, hb⟩; have n0_ := Aside0.mk (Kd.R_elder' (by (with_reducible repeat (first | apply Kd.R_alloc | apply Kd.R_drewN | apply Kd.R_drew)); exact HO365.out) (Kd.R_base ho0) hb); have n1_ := Aside0.mk (Kd.R_elder' (by (with_reducible repeat (first | apply Kd.R_alloc | apply Kd.R_drewN | apply Kd.R_drew)); exact HO369.out) (Kd.R_base ho0) hb); have n2_ := Aside0.mk (Kd.R_lower (Kd.R_new' (Kd.R_new' ho0 (Kd.R_lt (by (with_reducible repeat (first | apply Kd.R_alloc | apply Kd.R_drewN | apply Kd.R_drew)); exact HO365.out))) (Kd.R_lt (by (with_reducible repeat (first | apply Kd.R_alloc | apply Kd.R_drewN | apply Kd.R_drew)); exact HO369.out))) (below_size (by repeat (first | (with_reducible first | exact HB.out | apply below_alloc | apply pw_below_drewN | apply below_drew1) | exact HB.out)))); have n3_ := Aside0.mk (below_step (by repeat (first | (with_reducible first | exact HB.out | apply below_alloc | apply pw_below_drewN | apply below_drew1) | exact HB.out)) hb); clear HO365; clear HO369; clear HB; have HO365 := n0_; have HO369 := n1_; have HO373 := n2_; have HB := n3_; clear n0_ n1_ n2_ n3_; (try clear hb); (try clear hb2); (try clear hk); (try clear hi); (try clear ho0)) | (go_at_call 106; (with_reducible refine (spec_CyclicOf.calls kj20 t360 t361 t374 t375 _ A51.out).mono ?_); rintro e w57 ⟨v376, rfl, ho0, hb⟩; have n0_ := Aside0.mk (Kd.R_elder' (by (with_reducible repeat (first | apply Kd.R_alloc | apply Kd.R_drewN | apply Kd.R_drew)); exact HO365.out) (Kd.Q_base ho0) hb); have n1_ := Aside0.mk (Kd.R_elder' (by (with_reducible repeat (first | apply Kd.R_alloc | apply Kd.R_drewN | apply Kd.R_drew)); exact HO369.out) (Kd.Q_base ho0) hb); have n2_ := Aside0.mk (Kd.R_elder' (by (with_reducible repeat (first | apply Kd.R_alloc | apply Kd.R_drewN | apply Kd.R_drew)); exact HO373.out) (Kd.Q_base ho0) hb); have n3_ := Aside0.mk (Kd.Q_lower (Kd.Q_new' (Kd.Q_new' (Kd.Q_new' ho0 (Kd.R_lt (by (with_reducible repeat (first | apply Kd.R_alloc | apply Kd.R_drewN | apply Kd.R_drew)); exact HO365.out))) (Kd.R_lt (by (with_reducible repeat (first | apply Kd.R_alloc | apply Kd.R_drewN | apply Kd.R_drew)); exact HO369.out))) (Kd.R_lt (by (with_reducible repeat (first | apply Kd.R_alloc | apply Kd.R_drewN | apply Kd.R_drew)); exact HO373.out))) (below_size (by repeat (first | (with_reducible first | exact HB.out | apply below_alloc | apply pw_below_drewN | apply below_drew1) | exact HB.out)))); have n4_ := Aside0.mk (below_step (by repeat (first | (with_reducible first | exact HB.out | apply below_alloc | apply pw_below_drewN | apply below_drew1) | exact HB.out)) hb); clear HO365; clear HO369; clear HO373; clear HB; have HO365 := n0_; have HO369 := n1_; have HO373 := n2_; have HO377 := n3_; have HB := n4_; clear n0_ n1_ n2_ n3_ n4_; (try clear hb); (try clear hb2); (try clear hk); (try clear hi); (try clear ho0))); go_upto_region 23 with (first | (go_at_call 102; (with_reducible refine (spec_DrawTurnsOf.calls _ _ l1 t360 t361 _ ?side1 ?side2 A47.out).mono ?_); (case side1 => repeat (first | exact (Kd.C_below HR1.out HB.out) | (with_reducible refine Kd.C_alloc ?_ _) | (with_reducible refine Kd.C_drewN ?_ _) | (with_reducible refine Kd.C_drew ?_))); (case side2 => exact HC1.out); rintro e w53 ⟨rfl, hb⟩; have n0_ := Aside0.mk (below_step (by repeat (first | (with_reducible first | exact HB.out | apply below_alloc | apply pw_below_drewN | apply below_drew1) | exact HB.out)) hb); clear HB; have HB := n0_; clear n0_; (try clear hb); (try clear hb2); (try clear hk); (try clear hi)) | (go_at_call 103; (with_reducible refine (impl_TurnsOf.calls kj20 t360 t361 t362 t363 _ A48.out).mono ?_); rintro e w54 ⟨v364, rfl, ho0, hb⟩; have n0_ := Aside0.mk (Kd.R_lower ho0 (below_size (by repeat (first | (with_reducible first | exact HB.out | apply below_alloc | apply pw_below_drewN | apply below_drew1) | exact HB.out)))); have n1_ := Aside0.mk (below_step (by repeat (first | (with_reducible first | exact HB.out | apply below_alloc | apply pw_below_drewN | apply below_drew1) | exact HB.out)) hb); clear HB; have HO365 := n0_; have HB := n1_; clear n0_ n1_; (try clear hb); (try clear hb2); (try clear hk); (try clear hi); (try clear ho0)) | (go_at_call 104; (with_reducible refine (spec_TurnsOf.calls kj20 t360 t361 t366 t367 _ A49.out).mono ?_); rintro e w55 ⟨v368, rfl, ho0, hb⟩; have n0_ := Aside0.mk (Kd.R_elder' (by (with_reducible repeat (first | apply Kd.R_alloc | apply Kd.R_drewN | apply Kd.R_drew)); exact HO365.out) (Kd.R_base ho0) hb); have n1_ := Aside0.mk (Kd.R_lower (Kd.R_new' ho0 (Kd.R_lt (by (with_reducible repeat (first | apply Kd.R_alloc | apply Kd.R_drewN | apply Kd.R_drew)); exact HO365.out))) (below_size (by repeat (first | (with_reducible first | exact HB.out | apply below_alloc | apply pw_below_drewN | apply below_drew1) | exact HB.out)))); have n2_ := Aside0.mk (below_step (by repeat (first | (with_reducible first | exact HB.out | apply below_alloc | apply pw_below_drewN | apply below_drew1) | exact HB.out)) hb); clear HO365; clear HB; have HO365 := n0_; have HO369 := n1_; have HB := n2_; clear n0_ n1_ n2_; (try clear hb); (try clear hb2); (try clear hk); (try clear hi); (try clear ho0)) | (go_at_call 105; (with_reducible refine (impl_CyclicOf.calls kj20 t360 t361 t370 t371 _ A50.out).mono ?_); rintro e w56 ⟨v372, rfl, ho0, hb⟩; have n0_ := Aside0.mk (Kd.R_elder' (by (with_reducible repeat (first | apply Kd.R_alloc | apply Kd.R_drewN | apply Kd.R_drew)); exact HO365.out) (Kd.R_base ho0) hb); have n1_ := Aside0.mk (Kd.R_elder' (by (with_reducible repeat (first | apply Kd.R_alloc | apply Kd.R_drewN | apply Kd.R_drew)); exact HO369.out) (Kd.R_base ho0) hb); have n2_ := Aside0.mk (Kd.R_lower (Kd.R_new' (Kd.R_new' ho0 (Kd.R_lt (by (with_reducible repeat (first | apply Kd.R_alloc | apply Kd.R_drewN | apply Kd.R_drew)); exact HO365.out))) (Kd.R_lt (by (with_reducible repeat (first | apply Kd.R_alloc | apply Kd.R_drewN | apply Kd.R_drew)); exact HO369.out))) (below_size (by repeat (first | (with_reducible first | exact HB.out | apply below_alloc | apply pw_below_drewN | apply below_drew1) | exact HB.out)))); have n3_ := Aside0.mk (below_step (by repeat (first | (with_reducible first | exact HB.out | apply below_alloc | apply pw_below_drewN | apply below_drew1) | exact HB.out)) hb); clear HO365; clear HO369; clear HB; have HO365 := n0_; have HO369 := n1_; have HO373 := n2_; have HB := n3_; clear n0_ n1_ n2_ n3_; (try clear hb); (try clear hb2); (try clear hk); (try clear hi); (try clear ho0)) | (go_at_call 106; (with_reducible refine (spec_CyclicOf.calls kj20 t360 t361 t374 t375 _ A51.out).mono ?_); rintro e w57 ⟨v376, rfl, ho0, hb⟩; have n0_ := Aside0.mk (Kd.R_elder' (by (with_reducible repeat (first | apply Kd.R_alloc | apply Kd.R_drewN | apply Kd.R_drew)); exact HO365.out) (Kd.Q_base ho0) hb); have n1_ := Aside0.mk (Kd.R_elder' (by (with_reducible repeat (first | apply Kd.R_alloc | apply Kd.R_drewN | apply Kd.R_drew)); exact HO369.out) (Kd.Q_base ho0) hb); have n2_ := Aside0.mk (Kd.R_elder' (by (with_reducible repeat (first | apply Kd.R_alloc | apply Kd.R_drewN | apply Kd.R_drew)); exact HO373.out) (Kd.Q_base ho0) hb); have n3_ := Aside0.mk (Kd.Q_lower (Kd.Q_new' (Kd.Q_new' (Kd.Q_new' ho0 (Kd.R_lt (by (with_reducible repeat (first | apply Kd.R_alloc | apply Kd.R_drewN | apply Kd.R_drew)); exact HO365.out))) (Kd.R_lt (by (with_reducible repeat (first | apply Kd.R_alloc | apply Kd.R_drewN | apply Kd.R_drew)); exact HO369.out))) (Kd.R_lt (by (with_reducible repeat (first | apply Kd.R_alloc | apply Kd.R_drewN | apply Kd.R_drew)); exact HO373.out))) (below_size (by repeat (first | (with_reducible first | exact HB.out | apply below_alloc | apply pw_below_drewN | apply below_drew1) | exact HB.out)))); have n4_ := Aside0.mk (below_step (by repeat (first | (with_reducible first | exact HB.out | apply below_alloc | apply pw_below_drewN | apply below_drew1) | exact HB.out)) hb); clear HO365; clear HO369; clear HO373; clear HB; have HO365 := n0_; have HO369 := n1_; have HO373 := n2_; have HO377 := n3_; have HB := n4_; clear n0_ n1_ n2_ n3_ n4_; (try clear hb); (try clear hb2); (try clear hk); (try clear hi); (try clear ho0))))
              (try simp only [Act.put, List.setIfInBounds_toArray, List.set_cons_zero, List.set_cons_succ])
              go_cut [182] (fun v182 wc => ∃ (kq : Nat) (x182_51 : Bool), v182 = .bool x182_51 ∧ Aside0 (laws_FnCyclicNumbers.j4 kq l1 t360 t361 t362 t363 t370 x182_51 = some r) ∧ Aside0 (kq ≤ kj20) ∧ Aside0 (Kd.R (Kd.int .i64) 3 wc w.heap.size (fun k_ => some k_ ≠ (v372 : Value).ownBlock) v364 t362) ∧ Aside0 (Kd.R (Kd.int .i64) 3 wc w.heap.size (fun k_ => some k_ ≠ (v364 : Value).ownBlock) v372 t370) ∧ Aside0 (Below w.heap.size w wc))
              case first =>
                have H := HC52.out
                clear HC52
                by_cases c58 : (t363 != t367) = true
                · rw [if_pos c58] at H
                  have c58b0 : (t363 != t367) = true := c58
                  (try (have c58b1 : decide (t363 = t367) = false := by simpa using c58))
                  (try (have c58b2 : (t363 == t367) = false := by simpa using c58))
                  (try (have c58b3 : ¬ (t363 = t367) := by simpa using c58))
                  clear c58
                  (first | rw [c58b0] | (simp only [i64_w, i32_w]; rw [c58b0]) | skip)
                  exact (laws_FnCyclicNumbers.j4_no HR_.out _ _ _ _ _ _ _ H).elim
                · rw [if_neg c58] at H
                  have c58b0 : (t363 != t367) = false := by simpa using c58
                  (try (have c58b1 : decide (t363 = t367) = true := by simpa using c58))
                  (try (have c58b2 : (t363 == t367) = true := by simpa using c58))
                  clear c58
                  (first | rw [c58b0] | (simp only [i64_w, i32_w]; rw [c58b0]) | skip)
                  replace H := Option.bind_eq_some_iff.mp H
                  obtain ⟨t378, A590, H⟩ := H
                  replace H : (if t378 = true then (if (t371 != t375) = true then (laws_FnCyclicNumbers.j4 kj20 l1 t360 t361 t362 t363 t370 true) else ((laws_qSame.f kj20 t370 t374).bind fun t379 => (if t379 = true then (laws_FnCyclicNumbers.j4 kj20 l1 t360 t361 t362 t363 t370 (t371 != t363)) else (laws_FnCyclicNumbers.j4 kj20 l1 t360 t361 t362 t363 t370 true)))) else (laws_FnCyclicNumbers.j4 kj20 l1 t360 t361 t362 t363 t370 true)) = some r := H
                  have A59 := Aside0.mk A590
                  clear A590
                  by_cases c60 : t378 = true
                  · subst c60
                    have H1 : (if (t371 != t375) = true then (laws_FnCyclicNumbers.j4 kj20 l1 t360 t361 t362 t363 t370 true) else ((laws_qSame.f kj20 t370 t374).bind fun t379 => (if t379 = true then (laws_FnCyclicNumbers.j4 kj20 l1 t360 t361 t362 t363 t370 (t371 != t363)) else (laws_FnCyclicNumbers.j4 kj20 l1 t360 t361 t362 t363 t370 true)))) = some r := by rw [if_pos rfl] at H; exact H
                    clear H
                    have H := H1
                    clear H1
                    by_cases c61 : (t371 != t375) = true
                    · rw [if_pos c61] at H
                      have c61b0 : (t371 != t375) = true := c61
                      (try (have c61b1 : decide (t371 = t375) = false := by simpa using c61))
                      (try (have c61b2 : (t371 == t375) = false := by simpa using c61))
                      (try (have c61b3 : ¬ (t371 = t375) := by simpa using c61))
                      clear c61
                      exact (laws_FnCyclicNumbers.j4_no HR_.out _ _ _ _ _ _ _ H).elim
                    · rw [if_neg c61] at H
                      have c61b0 : (t371 != t375) = false := by simpa using c61
                      (try (have c61b1 : decide (t371 = t375) = true := by simpa using c61))
                      (try (have c61b2 : (t371 == t375) = true := by simpa using c61))
                      clear c61
                      replace H := Option.bind_eq_some_iff.mp H
                      obtain ⟨t379, A620, H⟩ := H
                      replace H : (if t379 = true then (laws_FnCyclicNumbers.j4 kj20 l1 t360 t361 t362 t363 t370 (t371 != t363)) else (laws_FnCyclicNumbers.j4 kj20 l1 t360 t361 t362 t363 t370 true)) = some r := H
                      have A62 := Aside0.mk A620
                      clear A620
                      by_cases c63 : t379 = true
                      · subst c63
                        have H1 : (laws_FnCyclicNumbers.j4 kj20 l1 t360 t361 t362 t363 t370 (t371 != t363)) = some r := by rw [if_pos rfl] at H; exact H
                        clear H
                        have H := H1
                        clear H1
                        as_aux_lemma =>
                          have H' := Aside0.mk H
                          clear H
                          obtain ⟨Ao64, co64, eo64⟩ := Kd.R_slice HO365.out
                          subst eo64
                          obtain ⟨Ao65, co65, eo65⟩ := Kd.R_slice HO369.out
                          subst eo65
                          go_wp2_with (first | (go_at_call 32; (with_reducible refine (laws_qSame.calls kj20 _ _ t362 _ _ t366 true _ ?side1 ?side2 ?side3 ?side4 A59.out).mono ?_); (case side1 => repeat (first | exact (Kd.R_reads' HO365.out).2.2 | (with_reducible refine Kd.C_alloc ?_ _) | (with_reducible refine Kd.C_drewN ?_ _) | (with_reducible refine Kd.C_drew ?_))); (case side2 => exact (Kd.R_reads' HO365.out).2.1); (case side3 => repeat (first | exact (Kd.R_reads' HO369.out).2.2 | (with_reducible refine Kd.C_alloc ?_ _) | (with_reducible refine Kd.C_drewN ?_ _) | (with_reducible refine Kd.C_drew ?_))); (case side4 => exact (Kd.R_reads' HO369.out).2.1); rintro e w' ⟨rfl, ⟨nd, rfl⟩⟩; (try first | exact ⟨rfl, _, World.drewN_drewN _ _ _⟩ | exact ⟨rfl, _, Eq.trans (World.drewN_drewN _ _ _) (congrArg (World.drewN _) (Nat.add_assoc _ _ _))⟩); obtain ⟨Ao66, co66, eo66⟩ := Kd.R_slice HO373.out; subst eo66; obtain ⟨Ao67, co67, eo67, _⟩ := Kd.Q_slice HO377.out; subst eo67) | (go_at_call 32; (with_reducible refine (laws_qSame.calls kj20 _ _ t370 _ _ t374 true _ ?side1 ?side2 ?side3 ?side4 A62.out).mono ?_); (case side1 => repeat (first | exact (Kd.R_reads' HO373.out).2.2 | (with_reducible refine Kd.C_alloc ?_ _) | (with_reducible refine Kd.C_drewN ?_ _) | (with_reducible refine Kd.C_drew ?_))); (case side2 => exact (Kd.R_reads' HO373.out).2.1); (case side3 => repeat (first | exact (Kd.Q_reads' HO377.out).2.2 | (with_reducible refine Kd.C_alloc ?_ _) | (with_reducible refine Kd.C_drewN ?_ _) | (with_reducible refine Kd.C_drew ?_))); (case side4 => exact (Kd.Q_reads' HO377.out).2.1); rintro e w' ⟨rfl, ⟨nd, rfl⟩⟩; (try first | exact ⟨rfl, _, World.drewN_drewN _ _ _⟩ | exact ⟨rfl, _, Eq.trans (World.drewN_drewN _ _ _) (congrArg (World.drewN _) (Nat.add_assoc _ _ _))⟩)))
                          repeat (go_quiet (first | (go_at_call 32; (with_reducible refine (laws_qSame.calls kj20 _ _ t362 _ _ t366 true _ ?side1 ?side2 ?side3 ?side4 A59.out).mono ?_); (case side1 => repeat (first | exact (Kd.R_reads' HO365.out).2.2 | (with_reducible refine Kd.C_alloc ?_ _) | (with_reducible refine Kd.C_drewN ?_ _) | (with_reducible refine Kd.C_drew ?_))); (case side2 => exact (Kd.R_reads' HO365.out).2.1); (case side3 => repeat (first | exact (Kd.R_reads' HO369.out).2.2 | (with_reducible refine Kd.C_alloc ?_ _) | (with_reducible refine Kd.C_drewN ?_ _) | (with_reducible refine Kd.C_drew ?_))); (case side4 => exact (Kd.R_reads' HO369.out).2.1); rintro e w' ⟨rfl, ⟨nd, rfl⟩⟩; (try first | exact ⟨rfl, _, World.drewN_drewN _ _ _⟩ | exact ⟨rfl, _, Eq.trans (World.drewN_drewN _ _ _) (congrArg (World.drewN _) (Nat.add_assoc _ _ _))⟩); obtain ⟨Ao66, co66, eo66⟩ := Kd.R_slice HO373.out; subst eo66; obtain ⟨Ao67, co67, eo67, _⟩ := Kd.Q_slice HO377.out; subst eo67) | (go_at_call 32; (with_reducible refine (laws_qSame.calls kj20 _ _ t370 _ _ t374 true _ ?side1 ?side2 ?side3 ?side4 A62.out).mono ?_); (case side1 => repeat (first | exact (Kd.R_reads' HO373.out).2.2 | (with_reducible refine Kd.C_alloc ?_ _) | (with_reducible refine Kd.C_drewN ?_ _) | (with_reducible refine Kd.C_drew ?_))); (case side2 => exact (Kd.R_reads' HO373.out).2.1); (case side3 => repeat (first | exact (Kd.Q_reads' HO377.out).2.2 | (with_reducible refine Kd.C_alloc ?_ _) | (with_reducible refine Kd.C_drewN ?_ _) | (with_reducible refine Kd.C_drew ?_))); (case side4 => exact (Kd.Q_reads' HO377.out).2.1); rintro e w' ⟨rfl, ⟨nd, rfl⟩⟩; (try first | exact ⟨rfl, _, World.drewN_drewN _ _ _⟩ | exact ⟨rfl, _, Eq.trans (World.drewN_drewN _ _ _) (congrArg (World.drewN _) (Nat.add_assoc _ _ _))⟩))); try go_wp2_with (first | (go_at_call 32; (with_reducible refine (laws_qSame.calls kj20 _ _ t362 _ _ t366 true _ ?side1 ?side2 ?side3 ?side4 A59.out).mono ?_); (case side1 => repeat (first | exact (Kd.R_reads' HO365.out).2.2 | (with_reducible refine Kd.C_alloc ?_ _) | (with_reducible refine Kd.C_drewN ?_ _) | (with_reducible refine Kd.C_drew ?_))); (case side2 => exact (Kd.R_reads' HO365.out).2.1); (case side3 => repeat (first | exact (Kd.R_reads' HO369.out).2.2 | (with_reducible refine Kd.C_alloc ?_ _) | (with_reducible refine Kd.C_drewN ?_ _) | (with_reducible refine Kd.C_drew ?_))); (case side4 => exact (Kd.R_reads' HO369.out).2.1); rintro e w' ⟨rfl, ⟨nd, rfl⟩⟩; (try first | exact ⟨rfl, _, World.drewN_drewN _ _ _⟩ | exact ⟨rfl, _, Eq.trans (World.drewN_drewN _ _ _) (congrArg (World.drewN _) (Nat.add_assoc _ _ _))⟩); obtain ⟨Ao66, co66, eo66⟩ := Kd.R_slice HO373.out; subst eo66; obtain ⟨Ao67, co67, eo67, _⟩ := Kd.Q_slice HO377.out; subst eo67) | (go_at_call 32; (with_reducible refine (laws_qSame.calls kj20 _ _ t370 _ _ t374 true _ ?side1 ?side2 ?side3 ?side4 A62.out).mono ?_); (case side1 => repeat (first | exact (Kd.R_reads' HO373.out).2.2 | (with_reducible refine Kd.C_alloc ?_ _) | (with_reducible refine Kd.C_drewN ?_ _) | (with_reducible refine Kd.C_drew ?_))); (case side2 => exact (Kd.R_reads' HO373.out).2.1); (case side3 => repeat (first | exact (Kd.Q_reads' HO377.out).2.2 | (with_reducible refine Kd.C_alloc ?_ _) | (with_reducible refine Kd.C_drewN ?_ _) | (with_reducible refine Kd.C_drew ?_))); (case side4 => exact (Kd.Q_reads' HO377.out).2.1); rintro e w' ⟨rfl, ⟨nd, rfl⟩⟩; (try first | exact ⟨rfl, _, World.drewN_drewN _ _ _⟩ | exact ⟨rfl, _, Eq.trans (World.drewN_drewN _ _ _) (congrArg (World.drewN _) (Nat.add_assoc _ _ _))⟩))))
                          go_meet
                          case rel => exact ⟨_, ((t371 != t363)), (by first | rfl | (simp; done) | (simp [*]; done)), H', ⟨by have := HJ7.out; have := HJ20.out; first | omega | exact Nat.le_refl _⟩, ⟨by (with_reducible repeat (first | apply Kd.R_alloc | apply Kd.R_drewN | apply Kd.R_drew)); exact Kd.R_mono HO365.out (fun _ hk => hk.1.2)⟩, ⟨by (with_reducible repeat (first | apply Kd.R_alloc | apply Kd.R_drewN | apply Kd.R_drew)); exact Kd.R_mono HO373.out (fun _ hk => hk.1.1.2)⟩, ⟨by repeat (first | (with_reducible first | exact HB.out | apply below_alloc | apply pw_below_drewN | apply below_drew1) | exact HB.out)⟩⟩
                      · replace c63 := Bool.eq_false_iff.mpr c63
                        subst c63
                        have H1 : (laws_FnCyclicNumbers.j4 kj20 l1 t360 t361 t362 t363 t370 true) = some r := by rw [if_neg (show ¬ (false = true) by decide)] at H; exact H
                        clear H
                        have H := H1
                        clear H1
                        exact (laws_FnCyclicNumbers.j4_no HR_.out _ _ _ _ _ _ _ H).elim
                  · replace c60 := Bool.eq_false_iff.mpr c60
                    subst c60
                    have H1 : (laws_FnCyclicNumbers.j4 kj20 l1 t360 t361 t362 t363 t370 true) = some r := by rw [if_neg (show ¬ (false = true) by decide)] at H; exact H
                    clear H
                    have H := H1
                    clear H1
                    exact (laws_FnCyclicNumbers.j4_no HR_.out _ _ _ _ _ _ _ H).elim
              case rest =>
                clear HC52
                try clear c1
                try clear c2
                try clear p2
                try clear c3
                try clear p3
                try clear q3
                try clear hx3
                try clear c4
                try clear c5
                try clear c6
                try clear p6
                try clear c12
                try clear c12b0
                try clear c12b1
                try clear c12b2
                try clear c14
                try clear c20
                try clear c22
                try clear c26
                try clear c27
                try clear c27b0
                try clear c27b1
                try clear c27b2
                try clear c28
                try clear c29
                try clear p35
                try clear q35
                try clear hx35
                try clear c39
                try clear c41
                try clear c41b0
                try clear c42
                try clear c42b0
                try clear c43
                try clear c43b0
                try clear c44
                try clear c44b0
                try clear c45
                try clear c45b0
                try clear c45b1
                try clear c58
                try clear c58b0
                try clear c58b1
                try clear c58b2
                try clear c60
                try clear c61
                try clear c61b0
                try clear c61b1
                try clear c61b2
                try clear c63
                try clear p64
                try clear hx358_0
                try clear hx359_0
                try clear p2
                try clear p3
                try clear p35
                try clear p358
                try clear p359
                try clear p6
                try clear q3
                try clear q35
                try clear q358
                try clear q359
                obtain ⟨kq, x182_51, rfl, HA, HJ51, HO_19, HO_23, HB⟩ := hcut
                cases kq with
                | zero => exact absurd HA.out (by simp [laws_FnCyclicNumbers.j4])
                | succ kj51 =>
                  have H := HA.out
                  clear HA
                  simp only [laws_FnCyclicNumbers.j4] at H
                  by_cases c68 : x182_51 = true
                  · subst c68
                    have H1 : (some false) = some r := by rw [if_pos rfl] at H; exact H
                    clear H
                    have H := H1
                    clear H1
                    exact absurd (Option.some.inj H) (by rw [HR_.out]; decide)
                  · replace c68 := Bool.eq_false_iff.mpr c68
                    subst c68
                    have H1 : (if t363 = true then (laws_FnCyclicNumbers.l1 kj51 l1 t360 t361 t370 t362 (t362.length : Int) 0) else (laws_FnCyclicNumbers.j8 kj51 l1)) = some r := by rw [if_neg (show ¬ (false = true) by decide)] at H; exact H
                    clear H
                    have H := H1
                    clear H1
                    have HC69 := Aside0.mk H
                    clear H
                    go_upto_if 183 with (fail)
                    repeat (go_quiet (fail); go_upto_if 183 with (fail))
                    go_cut [] (fun wc => ∃ (kq : Nat), Aside0 (laws_FnCyclicNumbers.j8 kq l1 = some r) ∧ Aside0 (kq ≤ kj51) ∧ Aside0 (Below w.heap.size w wc))
                    case first =>
                      have H := HC69.out
                      clear HC69
                      by_cases c70 : t363 = true
                      · subst c70
                        have H1 : (laws_FnCyclicNumbers.l1 kj51 l1 t360 t361 t370 t362 (t362.length : Int) 0) = some r := by rw [if_pos rfl] at H; exact H
                        clear H
                        have H := H1
                        clear H1
                        have H' := Aside0.mk H
                        clear H
                        obtain ⟨Ao71, co71, eo71⟩ := Kd.R_slice HO_19.out
                        subst eo71
                        go_wp2
                        repeat (go_quiet (fail); try go_wp2)
                        go_loopg [186] kj51 (fun kq v186 w' => ∃ (x186_4 : Int), v186 = .int .i64 x186_4 ∧ Aside0 (laws_FnCyclicNumbers.l1 kq l1 t360 t361 t370 t362 (t362.length : Int) x186_4 = some r) ∧ Aside0 (kq ≤ kj51) ∧ Aside0 (Kd.R (Kd.int .i64) 3 w' w.heap.size (fun k_ => some k_ ≠ ((.slice Ao71 t362.length co71) : Value).ownBlock) v372 t370) ∧ Aside0 (Kd.R (Kd.int .i64) 3 w' w.heap.size (fun k_ => some k_ ≠ (v372 : Value).ownBlock) (.slice Ao71 t362.length co71) t362) ∧ Aside0 (Below w.heap.size w w'))
                        case atStart => exact ⟨(0), (by first | rfl | (simp; done) | (simp [*]; done)), H', ⟨Nat.le_refl _⟩, ⟨by (with_reducible repeat (first | apply Kd.R_alloc | apply Kd.R_drewN | apply Kd.R_drew)); exact HO_23.out⟩, ⟨by (with_reducible repeat (first | apply Kd.R_alloc | apply Kd.R_drewN | apply Kd.R_drew)); exact HO_19.out⟩, ⟨by repeat (first | (with_reducible first | exact HB.out | apply below_alloc | apply pw_below_drewN | apply below_drew1) | exact HB.out)⟩⟩
                        case round =>
                          clear H'
                          try clear c1
                          try clear c2
                          try clear p2
                          try clear c3
                          try clear p3
                          try clear q3
                          try clear hx3
                          try clear c4
                          try clear c5
                          try clear c6
                          try clear p6
                          try clear c7
                          try clear c12
                          try clear c12b0
                          try clear c12b1
                          try clear c12b2
                          try clear c14
                          try clear c20
                          try clear c22
                          try clear c26
                          try clear c27
                          try clear c27b0
                          try clear c27b1
                          try clear c27b2
                          try clear c28
                          try clear c29
                          try clear p35
                          try clear q35
                          try clear hx35
                          try clear c39
                          try clear c41
                          try clear c41b0
                          try clear c42
                          try clear c42b0
                          try clear c43
                          try clear c43b0
                          try clear c44
                          try clear c44b0
                          try clear c45
                          try clear c45b0
                          try clear c45b1
                          try clear c58
                          try clear c58b0
                          try clear c58b1
                          try clear c58b2
                          try clear c60
                          try clear c61
                          try clear c61b0
                          try clear c61b1
                          try clear c61b2
                          try clear c63
                          try clear p64
                          try clear c68
                          try clear c70
                          try clear hx358_0
                          try clear hx359_0
                          try clear p2
                          try clear p3
                          try clear p35
                          try clear p358
                          try clear p359
                          try clear p6
                          try clear p64
                          try clear q3
                          try clear q35
                          try clear q358
                          try clear q359
                          obtain ⟨x186_4, rfl, HA, HK4, HO_23, HO_184, HB⟩ := hrel
                          cases gk with
                          | zero => exact absurd HA.out (by simp [laws_FnCyclicNumbers.l1])
                          | succ k4 =>
                            have H := HA.out
                            clear HA
                            simp only [laws_FnCyclicNumbers.l1] at H
                            by_cases c72 : x186_4 < (t362.length : Int)
                            · rw [if_pos c72] at H
                              have c72b0 : decide (x186_4 < (t362.length : Int)) = true := decide_eq_true c72
                              clear c72
                              (first | rw [c72b0] | (simp only [i64_w, i32_w]; rw [c72b0]) | skip)
                              by_cases c73 : 0 ≤ x186_4
                              · rw [if_pos c73] at H
                                have c73b0 : decide (0 ≤ x186_4) = true := decide_eq_true c73
                                clear c73
                                by_cases c74 : x186_4 < (t362.length : Int)
                                · rw [if_pos c74] at H
                                  have c74b0 : decide (x186_4 < (t362.length : Int)) = true := decide_eq_true c74
                                  clear c74
                                  replace H := Option.bind_eq_some_iff.mp H
                                  obtain ⟨⟨t381, t382⟩, A750, H⟩ := H
                                  replace H : (if t382 = true then (laws_FnCyclicNumbers.j6 k4 l1 t360 t361 t370 (rd t362 x186_4) t381 t362 (t362.length : Int) x186_4 ((t381.length : Int) != (wrap64 (t360 - 1)))) else (laws_FnCyclicNumbers.j6 k4 l1 t360 t361 t370 (rd t362 x186_4) t381 t362 (t362.length : Int) x186_4 true)) = some r := H
                                  have A75 := Aside0.mk A750
                                  clear A750
                                  have HC76 := Aside0.mk H
                                  clear H
                                  have p380 : 0 ≤ (x186_4 : Int) := of_decide_eq_true (by first | (with_reducible assumption) | assumption)
                                  have q380 : x186_4 < (t362.length : Int) := of_decide_eq_true (by first | (with_reducible assumption) | assumption)
                                  obtain ⟨ad380, e380, hx380_0⟩ := Kd.at_int (Kd.R_reads' HO_184.out).2.2 x186_4 p380 q380
                                  cases e380
                                  replace p380 := eq_true p380
                                  replace q380 := eq_true q380
                                  go_upto_region 30 with (first | (go_at_call 66; (with_reducible refine (impl_RepetendOf.calls k4 (wrap64 (x186_4 + 1)) t360 t361 t381 t382 _ A75.out).mono ?_); rintro e w77 ⟨v383, rfl, ho0, hb⟩; have n0_ := Aside0.mk (Kd.R_elder' (by (with_reducible repeat (first | apply Kd.R_alloc | apply Kd.R_drewN | apply Kd.R_drew)); exact HO_23.out) (Kd.R_base ho0) hb); have n1_ := Aside0.mk (Kd.R_elder' (by (with_reducible repeat (first | apply Kd.R_alloc | apply Kd.R_drewN | apply Kd.R_drew)); exact HO_184.out) (Kd.R_base ho0) hb); have n2_ := Aside0.mk (Kd.R_lower (Kd.R_new' (Kd.R_new' ho0 (Kd.R_lt (by (with_reducible repeat (first | apply Kd.R_alloc | apply Kd.R_drewN | apply Kd.R_drew)); exact HO_23.out))) (Kd.R_lt (by (with_reducible repeat (first | apply Kd.R_alloc | apply Kd.R_drewN | apply Kd.R_drew)); exact HO_184.out))) (below_size (by repeat (first | (with_reducible first | exact HB.out | apply below_alloc | apply pw_below_drewN | apply below_drew1) | exact HB.out)))); have n3_ := Aside0.mk (below_step (by repeat (first | (with_reducible first | exact HB.out | apply below_alloc | apply pw_below_drewN | apply below_drew1) | exact HB.out)) hb); clear HO_23; clear HO_184; clear HB; have HO_23 := n0_; have HO_184 := n1_; have HO384 := n2_; have HB := n3_; clear n0_ n1_ n2_ n3_; (try clear hb); (try clear hb2); (try clear hk); (try clear hi); (try clear ho0)))
                                  repeat (go_quiet (first | (go_at_call 66; (with_reducible refine (impl_RepetendOf.calls k4 (wrap64 (x186_4 + 1)) t360 t361 t381 t382 _ A75.out).mono ?_); rintro e w77 ⟨v383, rfl, ho0, hb⟩; have n0_ := Aside0.mk (Kd.R_elder' (by (with_reducible repeat (first | apply Kd.R_alloc | apply Kd.R_drewN | apply Kd.R_drew)); exact HO_23.out) (Kd.R_base ho0) hb); have n1_ := Aside0.mk (Kd.R_elder' (by (with_reducible repeat (first | apply Kd.R_alloc | apply Kd.R_drewN | apply Kd.R_drew)); exact HO_184.out) (Kd.R_base ho0) hb); have n2_ := Aside0.mk (Kd.R_lower (Kd.R_new' (Kd.R_new' ho0 (Kd.R_lt (by (with_reducible repeat (first | apply Kd.R_alloc | apply Kd.R_drewN | apply Kd.R_drew)); exact HO_23.out))) (Kd.R_lt (by (with_reducible repeat (first | apply Kd.R_alloc | apply Kd.R_drewN | apply Kd.R_drew)); exact HO_184.out))) (below_size (by repeat (first | (with_reducible first | exact HB.out | apply below_alloc | apply pw_below_drewN | apply below_drew1) | exact HB.out)))); have n3_ := Aside0.mk (below_step (by repeat (first | (with_reducible first | exact HB.out | apply below_alloc | apply pw_below_drewN | apply below_drew1) | exact HB.out)) hb); clear HO_23; clear HO_184; clear HB; have HO_23 := n0_; have HO_184 := n1_; have HO384 := n2_; have HB := n3_; clear n0_ n1_ n2_ n3_; (try clear hb); (try clear hb2); (try clear hk); (try clear hi); (try clear ho0))); go_upto_region 30 with (first | (go_at_call 66; (with_reducible refine (impl_RepetendOf.calls k4 (wrap64 (x186_4 + 1)) t360 t361 t381 t382 _ A75.out).mono ?_); rintro e w77 ⟨v383, rfl, ho0, hb⟩; have n0_ := Aside0.mk (Kd.R_elder' (by (with_reducible repeat (first | apply Kd.R_alloc | apply Kd.R_drewN | apply Kd.R_drew)); exact HO_23.out) (Kd.R_base ho0) hb); have n1_ := Aside0.mk (Kd.R_elder' (by (with_reducible repeat (first | apply Kd.R_alloc | apply Kd.R_drewN | apply Kd.R_drew)); exact HO_184.out) (Kd.R_base ho0) hb); have n2_ := Aside0.mk (Kd.R_lower (Kd.R_new' (Kd.R_new' ho0 (Kd.R_lt (by (with_reducible repeat (first | apply Kd.R_alloc | apply Kd.R_drewN | apply Kd.R_drew)); exact HO_23.out))) (Kd.R_lt (by (with_reducible repeat (first | apply Kd.R_alloc | apply Kd.R_drewN | apply Kd.R_drew)); exact HO_184.out))) (below_size (by repeat (first | (with_reducible first | exact HB.out | apply below_alloc | apply pw_below_drewN | apply below_drew1) | exact HB.out)))); have n3_ := Aside0.mk (below_step (by repeat (first | (with_reducible first | exact HB.out | apply below_alloc | apply pw_below_drewN | apply below_drew1) | exact HB.out)) hb); clear HO_23; clear HO_184; clear HB; have HO_23 := n0_; have HO_184 := n1_; have HO384 := n2_; have HB := n3_; clear n0_ n1_ n2_ n3_; (try clear hb); (try clear hb2); (try clear hk); (try clear hi); (try clear ho0))))
                                  (try simp only [Act.put, List.setIfInBounds_toArray, List.set_cons_zero, List.set_cons_succ])
                                  go_cut [207] (fun v207 wc => ∃ (kq : Nat) (x207_75 : Bool), v207 = .bool x207_75 ∧ Aside0 (laws_FnCyclicNumbers.j6 kq l1 t360 t361 t370 (rd t362 x186_4) t381 t362 (t362.length : Int) x186_4 x207_75 = some r) ∧ Aside0 (kq ≤ k4) ∧ Aside0 (Kd.R (Kd.int .i64) 3 wc w.heap.size (fun k_ => some k_ ≠ (v383 : Value).ownBlock ∧ some k_ ≠ ((.slice (some ad380) t362.length co71) : Value).ownBlock) v372 t370) ∧ Aside0 (Kd.R (Kd.int .i64) 3 wc w.heap.size (fun k_ => some k_ ≠ (v372 : Value).ownBlock ∧ some k_ ≠ ((.slice (some ad380) t362.length co71) : Value).ownBlock) v383 t381) ∧ Aside0 (Kd.R (Kd.int .i64) 3 wc w.heap.size (fun k_ => some k_ ≠ (v372 : Value).ownBlock ∧ some k_ ≠ (v383 : Value).ownBlock) (.slice (some ad380) t362.length co71) t362) ∧ Aside0 (Below w.heap.size w wc))
                                  case first =>
                                    have H := HC76.out
                                    clear HC76
                                    by_cases c78 : t382 = true
                                    · subst c78
                                      have H1 : (laws_FnCyclicNumbers.j6 k4 l1 t360 t361 t370 (rd t362 x186_4) t381 t362 (t362.length : Int) x186_4 ((t381.length : Int) != (wrap64 (t360 - 1)))) = some r := by rw [if_pos rfl] at H; exact H
                                      clear H
                                      have H := H1
                                      clear H1
                                      as_aux_lemma =>
                                        have H' := Aside0.mk H
                                        clear H
                                        obtain ⟨Ao79, co79, eo79⟩ := Kd.R_slice HO384.out
                                        subst eo79
                                        go_wp2
                                        repeat (go_quiet (fail); try go_wp2)
                                        go_meet
                                        case rel => exact ⟨_, (((t381.length : Int) != (wrap64 (t360 - 1)))), (by first | rfl | (simp; done) | (simp [*]; done)), H', ⟨by have := HJ7.out; have := HJ20.out; have := HJ51.out; have := HK4.out; first | omega | exact Nat.le_refl _⟩, ⟨by (with_reducible repeat (first | apply Kd.R_alloc | apply Kd.R_drewN | apply Kd.R_drew)); exact Kd.R_mono HO_23.out (fun _ hk => ⟨hk.2, hk.1⟩)⟩, ⟨by (with_reducible repeat (first | apply Kd.R_alloc | apply Kd.R_drewN | apply Kd.R_drew)); exact Kd.R_mono HO384.out (fun _ hk => ⟨hk.1.2, hk.2⟩)⟩, ⟨by (with_reducible repeat (first | apply Kd.R_alloc | apply Kd.R_drewN | apply Kd.R_drew)); exact HO_184.out⟩, ⟨by repeat (first | (with_reducible first | exact HB.out | apply below_alloc | apply pw_below_drewN | apply below_drew1) | exact HB.out)⟩⟩
                                    · replace c78 := Bool.eq_false_iff.mpr c78
                                      subst c78
                                      have H1 : (laws_FnCyclicNumbers.j6 k4 l1 t360 t361 t370 (rd t362 x186_4) t381 t362 (t362.length : Int) x186_4 true) = some r := by rw [if_neg (show ¬ (false = true) by decide)] at H; exact H
                                      clear H
                                      have H := H1
                                      clear H1
                                      exact (laws_FnCyclicNumbers.j6_no HR_.out _ _ _ _ _ _ _ _ _ _ H).elim
                                  case rest =>
                                    clear HC76
                                    try clear c1
                                    try clear c2
                                    try clear p2
                                    try clear c3
                                    try clear p3
                                    try clear q3
                                    try clear hx3
                                    try clear c4
                                    try clear c5
                                    try clear c6
                                    try clear p6
                                    try clear c7
                                    try clear c12
                                    try clear c12b0
                                    try clear c12b1
                                    try clear c12b2
                                    try clear c14
                                    try clear c20
                                    try clear c22
                                    try clear c26
                                    try clear c27
                                    try clear c27b0
                                    try clear c27b1
                                    try clear c27b2
                                    try clear c28
                                    try clear c29
                                    try clear p35
                                    try clear q35
                                    try clear hx35
                                    try clear p38
                                    try clear q38
                                    try clear hx38
                                    try clear c39
                                    try clear c41
                                    try clear c41b0
                                    try clear c42
                                    try clear c42b0
                                    try clear c43
                                    try clear c43b0
                                    try clear c44
                                    try clear c44b0
                                    try clear c45
                                    try clear c45b0
                                    try clear c45b1
                                    try clear c58
                                    try clear c58b0
                                    try clear c58b1
                                    try clear c58b2
                                    try clear c60
                                    try clear c61
                                    try clear c61b0
                                    try clear c61b1
                                    try clear c61b2
                                    try clear c63
                                    try clear p64
                                    try clear c68
                                    try clear c70
                                    try clear c72
                                    try clear c72b0
                                    try clear c73
                                    try clear c73b0
                                    try clear c74
                                    try clear c74b0
                                    try clear c78
                                    try clear hx358_0
                                    try clear hx359_0
                                    try clear hx380_0
                                    try clear p2
                                    try clear p3
                                    try clear p35
                                    try clear p358
                                    try clear p359
                                    try clear p380
                                    try clear p6
                                    try clear p64
                                    try clear q3
                                    try clear q35
                                    try clear q358
                                    try clear q359
                                    try clear q380
                                    obtain ⟨kq, x207_75, rfl, HA, HJ75, HO_23, HO_29, HO_184, HB⟩ := hcut
                                    cases kq with
                                    | zero => exact absurd HA.out (by simp [laws_FnCyclicNumbers.j6])
                                    | succ kj75 =>
                                      have H := HA.out
                                      clear HA
                                      simp only [laws_FnCyclicNumbers.j6] at H
                                      by_cases c80 : x207_75 = true
                                      · subst c80
                                        have H1 : (some false) = some r := by rw [if_pos rfl] at H; exact H
                                        clear H
                                        have H := H1
                                        clear H1
                                        exact absurd (Option.some.inj H) (by rw [HR_.out]; decide)
                                      · replace c80 := Bool.eq_false_iff.mpr c80
                                        subst c80
                                        have H1 : (laws_FnCyclicNumbers.l2 kj75 l1 t360 t361 t370 (rd t362 x186_4) t381 t362 (t362.length : Int) x186_4 (t381.length : Int) 0) = some r := by rw [if_neg (show ¬ (false = true) by decide)] at H; exact H
                                        clear H
                                        have H := H1
                                        clear H1
                                        have H' := Aside0.mk H
                                        clear H
                                        obtain ⟨Ao81, co81, eo81⟩ := Kd.R_slice HO_29.out
                                        subst eo81
                                        go_wp2
                                        repeat (go_quiet (fail); try go_wp2)
                                        go_loopg [210] kj75 (fun kq v210 w' => ∃ (x210_6 : Int), v210 = .int .i64 x210_6 ∧ Aside0 (laws_FnCyclicNumbers.l2 kq l1 t360 t361 t370 (rd t362 x186_4) t381 t362 (t362.length : Int) x186_4 (t381.length : Int) x210_6 = some r) ∧ Aside0 (kq ≤ kj75) ∧ Aside0 (Kd.R (Kd.int .i64) 3 w' w.heap.size (fun k_ => some k_ ≠ ((.slice Ao81 t381.length co81) : Value).ownBlock ∧ some k_ ≠ ((.slice (some ad380) t362.length co71) : Value).ownBlock) v372 t370) ∧ Aside0 (Kd.R (Kd.int .i64) 3 w' w.heap.size (fun k_ => some k_ ≠ (v372 : Value).ownBlock ∧ some k_ ≠ ((.slice (some ad380) t362.length co71) : Value).ownBlock) (.slice Ao81 t381.length co81) t381) ∧ Aside0 (Kd.R (Kd.int .i64) 3 w' w.heap.size (fun k_ => some k_ ≠ (v372 : Value).ownBlock ∧ some k_ ≠ ((.slice Ao81 t381.length co81) : Value).ownBlock) (.slice (some ad380) t362.length co71) t362) ∧ Aside0 (Below w.heap.size w w'))
                                        case atStart => exact ⟨(0), (by first | rfl | (simp; done) | (simp [*]; done)), H', ⟨Nat.le_refl _⟩, ⟨by (with_reducible repeat (first | apply Kd.R_alloc | apply Kd.R_drewN | apply Kd.R_drew)); exact HO_23.out⟩, ⟨by (with_reducible repeat (first | apply Kd.R_alloc | apply Kd.R_drewN | apply Kd.R_drew)); exact HO_29.out⟩, ⟨by (with_reducible repeat (first | apply Kd.R_alloc | apply Kd.R_drewN | apply Kd.R_drew)); exact HO_184.out⟩, ⟨by repeat (first | (with_reducible first | exact HB.out | apply below_alloc | apply pw_below_drewN | apply below_drew1) | exact HB.out)⟩⟩
                                        case round =>
                                          clear H'
                                          try clear c1
                                          try clear c2
                                          try clear p2
                                          try clear c3
                                          try clear p3
                                          try clear q3
                                          try clear hx3
                                          try clear c4
                                          try clear c5
                                          try clear c6
                                          try clear p6
                                          try clear c7
                                          try clear c8
                                          try clear c12
                                          try clear c12b0
                                          try clear c12b1
                                          try clear c12b2
                                          try clear c14
                                          try clear c20
                                          try clear c22
                                          try clear c26
                                          try clear c27
                                          try clear c27b0
                                          try clear c27b1
                                          try clear c27b2
                                          try clear c28
                                          try clear c29
                                          try clear p35
                                          try clear q35
                                          try clear hx35
                                          try clear p38
                                          try clear q38
                                          try clear hx38
                                          try clear c39
                                          try clear c41
                                          try clear c41b0
                                          try clear c42
                                          try clear c42b0
                                          try clear c43
                                          try clear c43b0
                                          try clear c44
                                          try clear c44b0
                                          try clear c45
                                          try clear c45b0
                                          try clear c45b1
                                          try clear c58
                                          try clear c58b0
                                          try clear c58b1
                                          try clear c58b2
                                          try clear c60
                                          try clear c61
                                          try clear c61b0
                                          try clear c61b1
                                          try clear c61b2
                                          try clear c63
                                          try clear p64
                                          try clear c68
                                          try clear c70
                                          try clear c72
                                          try clear c72b0
                                          try clear c73
                                          try clear c73b0
                                          try clear c74
                                          try clear c74b0
                                          try clear c78
                                          try clear c80
                                          try clear hx358_0
                                          try clear hx359_0
                                          try clear hx380_0
                                          try clear p2
                                          try clear p3
                                          try clear p35
                                          try clear p358
                                          try clear p359
                                          try clear p38
                                          try clear p380
                                          try clear p6
                                          try clear p64
                                          try clear q3
                                          try clear q35
                                          try clear q358
                                          try clear q359
                                          try clear q38
                                          try clear q380
                                          obtain ⟨x210_6, rfl, HA, HK6, HO_23, HO_29, HO_184, HB⟩ := hrel
                                          cases gk with
                                          | zero => exact absurd HA.out (by simp [laws_FnCyclicNumbers.l2])
                                          | succ k6 =>
                                            have H := HA.out
                                            clear HA
                                            simp only [laws_FnCyclicNumbers.l2] at H
                                            by_cases c82 : x210_6 < (t381.length : Int)
                                            · rw [if_pos c82] at H
                                              have c82b0 : decide (x210_6 < (t381.length : Int)) = true := decide_eq_true c82
                                              clear c82
                                              by_cases c83 : 0 ≤ x210_6
                                              · rw [if_pos c83] at H
                                                have c83b0 : decide (0 ≤ x210_6) = true := decide_eq_true c83
                                                clear c83
                                                by_cases c84 : x210_6 < (t381.length : Int)
                                                · rw [if_pos c84] at H
                                                  have c84b0 : decide (x210_6 < (t381.length : Int)) = true := decide_eq_true c84
                                                  clear c84
                                                  by_cases c85 : (t370.length : Int) = 0
                                                  · rw [if_pos c85] at H
                                                    exact absurd H (by simp)
                                                  · rw [if_neg c85] at H
                                                    have c85b0 : ((t370.length : Int) == 0) = false := beq_eq_false_iff_ne.mpr c85
                                                    have c85b1 : ((t370.length : Int) != 0) = true := bne_iff_ne.mpr c85
                                                    have c85b2 : ¬ (t370 = []) := fun h_ => c85 (by rw [h_]; rfl)
                                                    obtain ⟨ji86, hji86⟩ : ∃ j_ : Int, (Int.tmod (wrap64 (x210_6 + (rd t362 x186_4))) (t370.length : Int)) = j_ := ⟨_, rfl⟩
                                                    replace H : (if 0 ≤ (ji86) then (if (ji86) < (t370.length : Int) then (if (rd t381 x210_6) = (rd t370 (ji86)) then (laws_FnCyclicNumbers.l2 k6 l1 t360 t361 t370 (rd t362 x186_4) t381 t362 (t362.length : Int) x186_4 (t381.length : Int) (wrap64 (x210_6 + 1))) else (some false)) else (none)) else (none)) = some r := by first | (rw [hji86] at H; exact H) | (simp only [hji86] at H ⊢; exact H)
                                                    by_cases c87 : 0 ≤ (ji86)
                                                    · rw [if_pos c87] at H
                                                      have c87b0 : decide (0 ≤ (ji86)) = true := decide_eq_true c87
                                                      clear c87
                                                      by_cases c88 : (ji86) < (t370.length : Int)
                                                      · rw [if_pos c88] at H
                                                        have c88b0 : decide ((ji86) < (t370.length : Int)) = true := decide_eq_true c88
                                                        clear c88
                                                        by_cases c89 : (rd t381 x210_6) = (rd t370 (ji86))
                                                        · rw [if_pos c89] at H
                                                          have c89b0 : ((rd t381 x210_6) == (rd t370 (ji86))) = true := beq_iff_eq.mpr c89
                                                          have c89b1 : ((rd t381 x210_6) != (rd t370 (ji86))) = false := bne_eq_false_iff_eq.mpr c89
                                                          clear c89
                                                          as_aux_lemma =>
                                                            have H' := Aside0.mk H
                                                            clear H
                                                            have p385 : 0 ≤ (x210_6 : Int) := of_decide_eq_true (by first | (with_reducible assumption) | assumption)
                                                            have q385 : x210_6 < (t381.length : Int) := of_decide_eq_true (by first | (with_reducible assumption) | assumption)
                                                            obtain ⟨ad385, e385, hx385_0⟩ := Kd.at_int (Kd.R_reads' HO_29.out).2.2 x210_6 p385 q385
                                                            cases e385
                                                            replace p385 := eq_true p385
                                                            replace q385 := eq_true q385
                                                            obtain ⟨Ao90, co90, eo90⟩ := Kd.R_slice HO_23.out
                                                            subst eo90
                                                            have p386 : 0 ≤ ((ji86) : Int) := of_decide_eq_true (by first | (with_reducible assumption) | assumption)
                                                            have q386 : (ji86) < (t370.length : Int) := of_decide_eq_true (by first | (with_reducible assumption) | assumption)
                                                            obtain ⟨ad386, e386, hx386_0⟩ := Kd.at_int (Kd.R_reads' HO_23.out).2.2 (ji86) p386 q386
                                                            cases e386
                                                            replace p386 := eq_true p386
                                                            replace q386 := eq_true q386
                                                            go_wp2
                                                            repeat (go_quiet (fail); try go_wp2)
                                                            go_roundg k6
                                                            case measure => have := HJ7.out; have := HJ20.out; have := HJ51.out; have := HK4.out; have := HJ75.out; have := HK6.out; omega
                                                            case rel => exact ⟨(wrap64 (x210_6 + 1)), (by first | rfl | (simp; done) | (simp [*]; done)), H', ⟨by have := HJ7.out; have := HJ20.out; have := HJ51.out; have := HK4.out; have := HJ75.out; have := HK6.out; omega⟩, ⟨by (with_reducible repeat (first | apply Kd.R_alloc | apply Kd.R_drewN | apply Kd.R_drew)); exact HO_23.out⟩, ⟨by (with_reducible repeat (first | apply Kd.R_alloc | apply Kd.R_drewN | apply Kd.R_drew)); exact HO_29.out⟩, ⟨by (with_reducible repeat (first | apply Kd.R_alloc | apply Kd.R_drewN | apply Kd.R_drew)); exact HO_184.out⟩, ⟨by repeat (first | (with_reducible first | exact HB.out | apply below_alloc | apply pw_below_drewN | apply below_drew1) | exact HB.out)⟩⟩
                                                        · rw [if_neg c89] at H
                                                          have c89b0 : ((rd t381 x210_6) == (rd t370 (ji86))) = false := beq_eq_false_iff_ne.mpr c89
                                                          have c89b1 : ((rd t381 x210_6) != (rd t370 (ji86))) = true := bne_iff_ne.mpr c89
                                                          exact absurd (Option.some.inj H) (by rw [HR_.out]; decide)
                                                      · rw [if_neg c88] at H
                                                        exact absurd H (by simp)
                                                    · rw [if_neg c87] at H
                                                      exact absurd H (by simp)
                                                · rw [if_neg c84] at H
                                                  exact absurd H (by simp)
                                              · rw [if_neg c83] at H
                                                exact absurd H (by simp)
                                            · rw [if_neg c82] at H
                                              have c82b0 : decide (x210_6 < (t381.length : Int)) = false := decide_eq_false c82
                                              clear c82
                                              as_aux_lemma =>
                                                have H' := Aside0.mk H
                                                clear H
                                                go_wp2
                                                repeat (go_quiet (fail); try go_wp2)
                                                go_roundg k6
                                                case measure => have := HJ7.out; have := HJ20.out; have := HJ51.out; have := HK4.out; have := HJ75.out; have := HK6.out; omega
                                                case rel => exact ⟨(wrap64 (x186_4 + 1)), (by first | rfl | (simp; done) | (simp [*]; done)), H', ⟨by have := HJ7.out; have := HJ20.out; have := HJ51.out; have := HK4.out; have := HJ75.out; have := HK6.out; omega⟩, ⟨by (with_reducible repeat (first | apply Kd.R_alloc | apply Kd.R_drewN | apply Kd.R_drew)); exact Kd.R_mono HO_23.out (fun _ hk => hk.2)⟩, ⟨by (with_reducible repeat (first | apply Kd.R_alloc | apply Kd.R_drewN | apply Kd.R_drew)); exact Kd.R_mono HO_184.out (fun _ hk => hk.1)⟩, ⟨by repeat (first | (with_reducible first | exact HB.out | apply below_alloc | apply pw_below_drewN | apply below_drew1) | exact HB.out)⟩⟩
                                · rw [if_neg c74] at H
                                  exact absurd H (by simp)
                              · rw [if_neg c73] at H
                                exact absurd H (by simp)
                            · rw [if_neg c72] at H
                              have c72b0 : decide (x186_4 < (t362.length : Int)) = false := decide_eq_false c72
                              clear c72
                              (first | rw [c72b0] | (simp only [i64_w, i32_w]; rw [c72b0]) | skip)
                              as_aux_lemma =>
                                have H' := Aside0.mk H
                                clear H
                                go_wp2
                                repeat (go_quiet (fail); try go_wp2)
                                go_meet
                                case rel => exact ⟨_, H', ⟨by have := HJ7.out; have := HJ20.out; have := HJ51.out; have := HK4.out; first | omega | exact Nat.le_refl _⟩, ⟨by repeat (first | (with_reducible first | exact HB.out | apply below_alloc | apply pw_below_drewN | apply below_drew1) | exact HB.out)⟩⟩
                      · replace c70 := Bool.eq_false_iff.mpr c70
                        subst c70
                        have H1 : (laws_FnCyclicNumbers.j8 kj51 l1) = some r := by rw [if_neg (show ¬ (false = true) by decide)] at H; exact H
                        clear H
                        have H := H1
                        clear H1
                        as_aux_lemma =>
                          have H' := Aside0.mk H
                          clear H
                          go_wp2
                          repeat (go_quiet (fail); try go_wp2)
                          go_meet
                          case rel => exact ⟨_, H', ⟨by have := HJ7.out; have := HJ20.out; have := HJ51.out; first | omega | exact Nat.le_refl _⟩, ⟨by repeat (first | (with_reducible first | exact HB.out | apply below_alloc | apply pw_below_drewN | apply below_drew1) | exact HB.out)⟩⟩
                    case rest =>
                      clear HC69
                      try clear c1
                      try clear c2
                      try clear p2
                      try clear c3
                      try clear p3
                      try clear q3
                      try clear hx3
                      try clear c4
                      try clear c5
                      try clear c6
                      try clear p6
                      try clear c7
                      try clear c8
                      try clear c12
                      try clear c12b0
                      try clear c12b1
                      try clear c12b2
                      try clear c14
                      try clear c20
                      try clear c22
                      try clear c26
                      try clear c27
                      try clear c27b0
                      try clear c27b1
                      try clear c27b2
                      try clear c28
                      try clear c29
                      try clear p35
                      try clear q35
                      try clear hx35
                      try clear p38
                      try clear q38
                      try clear hx38
                      try clear c39
                      try clear c41
                      try clear c41b0
                      try clear c42
                      try clear c42b0
                      try clear c43
                      try clear c43b0
                      try clear c44
                      try clear c44b0
                      try clear c45
                      try clear c45b0
                      try clear c45b1
                      try clear c58
                      try clear c58b0
                      try clear c58b1
                      try clear c58b2
                      try clear c60
                      try clear c61
                      try clear c61b0
                      try clear c61b1
                      try clear c61b2
                      try clear c63
                      try clear p64
                      try clear c68
                      try clear c70
                      try clear c72
                      try clear c72b0
                      try clear c73
                      try clear c73b0
                      try clear c74
                      try clear c74b0
                      try clear c78
                      try clear c80
                      try clear c82
                      try clear c82b0
                      try clear c83
                      try clear c83b0
                      try clear c84
                      try clear c84b0
                      try clear c85
                      try clear c85b0
                      try clear c85b1
                      try clear c85b2
                      try clear c87
                      try clear c87b0
                      try clear c88
                      try clear c88b0
                      try clear c89
                      try clear c89b0
                      try clear c89b1
                      try clear hx358_0
                      try clear hx359_0
                      try clear hx380_0
                      try clear hx385_0
                      try clear hx386_0
                      try clear p2
                      try clear p3
                      try clear p35
                      try clear p358
                      try clear p359
                      try clear p38
                      try clear p380
                      try clear p385
                      try clear p386
                      try clear p6
                      try clear p64
                      try clear q3
                      try clear q35
                      try clear q358
                      try clear q359
                      try clear q38
                      try clear q380
                      try clear q385
                      try clear q386
                      obtain ⟨kq, HA, HJ68, HB⟩ := hcut
                      cases kq with
                      | zero => exact absurd HA.out (by simp [laws_FnCyclicNumbers.j8])
                      | succ kj68 =>
                        have H := HA.out
                        clear HA
                        simp only [laws_FnCyclicNumbers.j8] at H
                        replace H := Option.bind_eq_some_iff.mp H
                        obtain ⟨⟨t387, t388⟩, A910, H⟩ := H
                        replace H : ((impl_FullPrimes.f kj68 t387 t388).bind fun bt389 => ((spec_FullPrimes.f kj68 t387 t388).bind fun bt393 => (if (bt389.2 != bt393.2) = true then (laws_FnCyclicNumbers.j9 kj68 t387 bt389.1 true) else ((laws_qSame.f kj68 bt389.1 bt393.1).bind fun t397 => (laws_FnCyclicNumbers.j9 kj68 t387 bt389.1 (!t397)))))) = some r := H
                        have A91 := Aside0.mk A910
                        clear A910
                        replace H := Option.bind_eq_some_iff.mp H
                        obtain ⟨⟨t389, t390⟩, A920, H⟩ := H
                        replace H : ((spec_FullPrimes.f kj68 t387 t388).bind fun bt393 => (if (t390 != bt393.2) = true then (laws_FnCyclicNumbers.j9 kj68 t387 t389 true) else ((laws_qSame.f kj68 t389 bt393.1).bind fun t397 => (laws_FnCyclicNumbers.j9 kj68 t387 t389 (!t397))))) = some r := H
                        have A92 := Aside0.mk A920
                        clear A920
                        replace H := Option.bind_eq_some_iff.mp H
                        obtain ⟨⟨t393, t394⟩, A930, H⟩ := H
                        replace H : (if (t390 != t394) = true then (laws_FnCyclicNumbers.j9 kj68 t387 t389 true) else ((laws_qSame.f kj68 t389 t393).bind fun t397 => (laws_FnCyclicNumbers.j9 kj68 t387 t389 (!t397)))) = some r := H
                        have A93 := Aside0.mk A930
                        clear A930
                        have HC94 := Aside0.mk H
                        clear H
                        go_upto_region 42 with (first | (go_at_call 107; (with_reducible refine (spec_DrawFullPrimes.calls _ _ l1 t387 t388 _ ?side1 ?side2 A91.out).mono ?_); (case side1 => repeat (first | exact (Kd.C_below HR1.out HB.out) | (with_reducible refine Kd.C_alloc ?_ _) | (with_reducible refine Kd.C_drewN ?_ _) | (with_reducible refine Kd.C_drew ?_))); (case side2 => exact HC1.out); rintro e w95 ⟨rfl, hb⟩; have n0_ := Aside0.mk (below_step (by repeat (first | (with_reducible first | exact HB.out | apply below_alloc | apply pw_below_drewN | apply below_drew1) | exact HB.out)) hb); clear HB; have HB := n0_; clear n0_; (try clear hb); (try clear hb2); (try clear hk); (try clear hi)) | (go_at_call 108; (with_reducible refine (impl_FullPrimes.calls kj68 t387 t388 t389 t390 _ A92.out).mono ?_); rintro e w96 ⟨v391, rfl, ho0, hb⟩; have n0_ := Aside0.mk (Kd.R_lower ho0 (below_size (by repeat (first | (with_reducible first | exact HB.out | apply below_alloc | apply pw_below_drewN | apply below_drew1) | exact HB.out)))); have n1_ := Aside0.mk (below_step (by repeat (first | (with_reducible first | exact HB.out | apply below_alloc | apply pw_below_drewN | apply below_drew1) | exact HB.out)) hb); clear HB; have HO392 := n0_; have HB := n1_; clear n0_ n1_; (try clear hb); (try clear hb2); (try clear hk); (try clear hi); (try clear ho0)) | (go_at_call 109; (with_reducible refine (spec_FullPrimes.calls kj68 t387 t388 t393 t394 _ A93.out).mono ?_); rintro e w97 ⟨v395, rfl, ho0, hb⟩; have n0_ := Aside0.mk (Kd.R_elder' (by (with_reducible repeat (first | apply Kd.R_alloc | apply Kd.R_drewN | apply Kd.R_drew)); exact HO392.out) (Kd.R_base ho0) hb); have n1_ := Aside0.mk (Kd.R_lower (Kd.R_new' ho0 (Kd.R_lt (by (with_reducible repeat (first | apply Kd.R_alloc | apply Kd.R_drewN | apply Kd.R_drew)); exact HO392.out))) (below_size (by repeat (first | (with_reducible first | exact HB.out | apply below_alloc | apply pw_below_drewN | apply below_drew1) | exact HB.out)))); have n2_ := Aside0.mk (below_step (by repeat (first | (with_reducible first | exact HB.out | apply below_alloc | apply pw_below_drewN | apply below_drew1) | exact HB.out)) hb); clear HO392; clear HB; have HO392 := n0_; have HO396 := n1_; have HB := n2_; clear n0_ n1_ n2_; (try clear hb); (try clear hb2); (try clear hk); (try clear hi); (try clear ho0)))
                        repeat (go_quiet (first | (go_at_call 107; (with_reducible refine (spec_DrawFullPrimes.calls _ _ l1 t387 t388 _ ?side1 ?side2 A91.out).mono ?_); (case side1 => repeat (first | exact (Kd.C_below HR1.out HB.out) | (with_reducible refine Kd.C_alloc ?_ _) | (with_reducible refine Kd.C_drewN ?_ _) | (with_reducible refine Kd.C_drew ?_))); (case side2 => exact HC1.out); rintro e w95 ⟨rfl, hb⟩; have n0_ := Aside0.mk (below_step (by repeat (first | (with_reducible first | exact HB.out | apply below_alloc | apply pw_below_drewN | apply below_drew1) | exact HB.out)) hb); clear HB; have HB := n0_; clear n0_; (try clear hb); (try clear hb2); (try clear hk); (try clear hi)) | (go_at_call 108; (with_reducible refine (impl_FullPrimes.calls kj68 t387 t388 t389 t390 _ A92.out).mono ?_); rintro e w96 ⟨v391, rfl, ho0, hb⟩; have n0_ := Aside0.mk (Kd.R_lower ho0 (below_size (by repeat (first | (with_reducible first | exact HB.out | apply below_alloc | apply pw_below_drewN | apply below_drew1) | exact HB.out)))); have n1_ := Aside0.mk (below_step (by repeat (first | (with_reducible first | exact HB.out | apply below_alloc | apply pw_below_drewN | apply below_drew1) | exact HB.out)) hb); clear HB; have HO392 := n0_; have HB := n1_; clear n0_ n1_; (try clear hb); (try clear hb2); (try clear hk); (try clear hi); (try clear ho0)) | (go_at_call 109; (with_reducible refine (spec_FullPrimes.calls kj68 t387 t388 t393 t394 _ A93.out).mono ?_); rintro e w97 ⟨v395, rfl, ho0, hb⟩; have n0_ := Aside0.mk (Kd.R_elder' (by (with_reducible repeat (first | apply Kd.R_alloc | apply Kd.R_drewN | apply Kd.R_drew)); exact HO392.out) (Kd.R_base ho0) hb); have n1_ := Aside0.mk (Kd.R_lower (Kd.R_new' ho0 (Kd.R_lt (by (with_reducible repeat (first | apply Kd.R_alloc | apply Kd.R_drewN | apply Kd.R_drew)); exact HO392.out))) (below_size (by repeat (first | (with_reducible first | exact HB.out | apply below_alloc | apply pw_below_drewN | apply below_drew1) | exact HB.out)))); have n2_ := Aside0.mk (below_step (by repeat (first | (with_reducible first | exact HB.out | apply below_alloc | apply pw_below_drewN | apply below_drew1) | exact HB.out)) hb); clear HO392; clear HB; have HO392 := n0_; have HO396 := n1_; have HB := n2_; clear n0_ n1_ n2_; (try clear hb); (try clear hb2); (try clear hk); (try clear hi); (try clear ho0))); go_upto_region 42 with (first | (go_at_call 107; (with_reducible refine (spec_DrawFullPrimes.calls _ _ l1 t387 t388 _ ?side1 ?side2 A91.out).mono ?_); (case side1 => repeat (first | exact (Kd.C_below HR1.out HB.out) | (with_reducible refine Kd.C_alloc ?_ _) | (with_reducible refine Kd.C_drewN ?_ _) | (with_reducible refine Kd.C_drew ?_))); (case side2 => exact HC1.out); rintro e w95 ⟨rfl, hb⟩; have n0_ := Aside0.mk (below_step (by repeat (first | (with_reducible first | exact HB.out | apply below_alloc | apply pw_below_drewN | apply below_drew1) | exact HB.out)) hb); clear HB; have HB := n0_; clear n0_; (try clear hb); (try clear hb2); (try clear hk); (try clear hi)) | (go_at_call 108; (with_reducible refine (impl_FullPrimes.calls kj68 t387 t388 t389 t390 _ A92.out).mono ?_); rintro e w96 ⟨v391, rfl, ho0, hb⟩; have n0_ := Aside0.mk (Kd.R_lower ho0 (below_size (by repeat (first | (with_reducible first | exact HB.out | apply below_alloc | apply pw_below_drewN | apply below_drew1) | exact HB.out)))); have n1_ := Aside0.mk (below_step (by repeat (first | (with_reducible first | exact HB.out | apply below_alloc | apply pw_below_drewN | apply below_drew1) | exact HB.out)) hb); clear HB; have HO392 := n0_; have HB := n1_; clear n0_ n1_; (try clear hb); (try clear hb2); (try clear hk); (try clear hi); (try clear ho0)) | (go_at_call 109; (with_reducible refine (spec_FullPrimes.calls kj68 t387 t388 t393 t394 _ A93.out).mono ?_); rintro e w97 ⟨v395, rfl, ho0, hb⟩; have n0_ := Aside0.mk (Kd.R_elder' (by (with_reducible repeat (first | apply Kd.R_alloc | apply Kd.R_drewN | apply Kd.R_drew)); exact HO392.out) (Kd.R_base ho0) hb); have n1_ := Aside0.mk (Kd.R_lower (Kd.R_new' ho0 (Kd.R_lt (by (with_reducible repeat (first | apply Kd.R_alloc | apply Kd.R_drewN | apply Kd.R_drew)); exact HO392.out))) (below_size (by repeat (first | (with_reducible first | exact HB.out | apply below_alloc | apply pw_below_drewN | apply below_drew1) | exact HB.out)))); have n2_ := Aside0.mk (below_step (by repeat (first | (with_reducible first | exact HB.out | apply below_alloc | apply pw_below_drewN | apply below_drew1) | exact HB.out)) hb); clear HO392; clear HB; have HO392 := n0_; have HO396 := n1_; have HB := n2_; clear n0_ n1_ n2_; (try clear hb); (try clear hb2); (try clear hk); (try clear hi); (try clear ho0))))
                        (try simp only [Act.put, List.setIfInBounds_toArray, List.set_cons_zero, List.set_cons_succ])
                        go_cut [254] (fun v254 wc => ∃ (kq : Nat) (x254_93 : Bool), v254 = .bool x254_93 ∧ Aside0 (laws_FnCyclicNumbers.j9 kq t387 t389 x254_93 = some r) ∧ Aside0 (kq ≤ kj68) ∧ Aside0 (Kd.R (Kd.int .i64) 3 wc w.heap.size (fun _ => True) v391 t389) ∧ Aside0 (Below w.heap.size w wc))
                        case first =>
                          have H := HC94.out
                          clear HC94
                          by_cases c98 : (t390 != t394) = true
                          · rw [if_pos c98] at H
                            have c98b0 : (t390 != t394) = true := c98
                            (try (have c98b1 : decide (t390 = t394) = false := by simpa using c98))
                            (try (have c98b2 : (t390 == t394) = false := by simpa using c98))
                            (try (have c98b3 : ¬ (t390 = t394) := by simpa using c98))
                            clear c98
                            (first | rw [c98b0] | (simp only [i64_w, i32_w]; rw [c98b0]) | skip)
                            exact (laws_FnCyclicNumbers.j9_no HR_.out _ _ _ H).elim
                          · rw [if_neg c98] at H
                            have c98b0 : (t390 != t394) = false := by simpa using c98
                            (try (have c98b1 : decide (t390 = t394) = true := by simpa using c98))
                            (try (have c98b2 : (t390 == t394) = true := by simpa using c98))
                            clear c98
                            (first | rw [c98b0] | (simp only [i64_w, i32_w]; rw [c98b0]) | skip)
                            replace H := Option.bind_eq_some_iff.mp H
                            obtain ⟨t397, A990, H⟩ := H
                            replace H : (laws_FnCyclicNumbers.j9 kj68 t387 t389 (!t397)) = some r := H
                            have A99 := Aside0.mk A990
                            clear A990
                            as_aux_lemma =>
                              have H' := Aside0.mk H
                              clear H
                              obtain ⟨Ao100, co100, eo100⟩ := Kd.R_slice HO392.out
                              subst eo100
                              obtain ⟨Ao101, co101, eo101⟩ := Kd.R_slice HO396.out
                              subst eo101
                              go_wp2_with (first | (go_at_call 32; (with_reducible refine (laws_qSame.calls kj68 _ _ t389 _ _ t393 t397 _ ?side1 ?side2 ?side3 ?side4 A99.out).mono ?_); (case side1 => repeat (first | exact (Kd.R_reads' HO392.out).2.2 | (with_reducible refine Kd.C_alloc ?_ _) | (with_reducible refine Kd.C_drewN ?_ _) | (with_reducible refine Kd.C_drew ?_))); (case side2 => exact (Kd.R_reads' HO392.out).2.1); (case side3 => repeat (first | exact (Kd.R_reads' HO396.out).2.2 | (with_reducible refine Kd.C_alloc ?_ _) | (with_reducible refine Kd.C_drewN ?_ _) | (with_reducible refine Kd.C_drew ?_))); (case side4 => exact (Kd.R_reads' HO396.out).2.1); rintro e w' ⟨rfl, ⟨nd, rfl⟩⟩; (try first | exact ⟨rfl, _, World.drewN_drewN _ _ _⟩ | exact ⟨rfl, _, Eq.trans (World.drewN_drewN _ _ _) (congrArg (World.drewN _) (Nat.add_assoc _ _ _))⟩)))
                              repeat (go_quiet (first | (go_at_call 32; (with_reducible refine (laws_qSame.calls kj68 _ _ t389 _ _ t393 t397 _ ?side1 ?side2 ?side3 ?side4 A99.out).mono ?_); (case side1 => repeat (first | exact (Kd.R_reads' HO392.out).2.2 | (with_reducible refine Kd.C_alloc ?_ _) | (with_reducible refine Kd.C_drewN ?_ _) | (with_reducible refine Kd.C_drew ?_))); (case side2 => exact (Kd.R_reads' HO392.out).2.1); (case side3 => repeat (first | exact (Kd.R_reads' HO396.out).2.2 | (with_reducible refine Kd.C_alloc ?_ _) | (with_reducible refine Kd.C_drewN ?_ _) | (with_reducible refine Kd.C_drew ?_))); (case side4 => exact (Kd.R_reads' HO396.out).2.1); rintro e w' ⟨rfl, ⟨nd, rfl⟩⟩; (try first | exact ⟨rfl, _, World.drewN_drewN _ _ _⟩ | exact ⟨rfl, _, Eq.trans (World.drewN_drewN _ _ _) (congrArg (World.drewN _) (Nat.add_assoc _ _ _))⟩))); try go_wp2_with (first | (go_at_call 32; (with_reducible refine (laws_qSame.calls kj68 _ _ t389 _ _ t393 t397 _ ?side1 ?side2 ?side3 ?side4 A99.out).mono ?_); (case side1 => repeat (first | exact (Kd.R_reads' HO392.out).2.2 | (with_reducible refine Kd.C_alloc ?_ _) | (with_reducible refine Kd.C_drewN ?_ _) | (with_reducible refine Kd.C_drew ?_))); (case side2 => exact (Kd.R_reads' HO392.out).2.1); (case side3 => repeat (first | exact (Kd.R_reads' HO396.out).2.2 | (with_reducible refine Kd.C_alloc ?_ _) | (with_reducible refine Kd.C_drewN ?_ _) | (with_reducible refine Kd.C_drew ?_))); (case side4 => exact (Kd.R_reads' HO396.out).2.1); rintro e w' ⟨rfl, ⟨nd, rfl⟩⟩; (try first | exact ⟨rfl, _, World.drewN_drewN _ _ _⟩ | exact ⟨rfl, _, Eq.trans (World.drewN_drewN _ _ _) (congrArg (World.drewN _) (Nat.add_assoc _ _ _))⟩))))
                              go_meet
                              case rel => exact ⟨_, (!t397), (by first | rfl | (simp; done) | (simp [*]; done)), H', ⟨by have := HJ7.out; have := HJ20.out; have := HJ51.out; have := HJ68.out; first | omega | exact Nat.le_refl _⟩, ⟨by (with_reducible repeat (first | apply Kd.R_alloc | apply Kd.R_drewN | apply Kd.R_drew)); exact Kd.R_mono HO392.out (fun _ hk => trivial)⟩, ⟨by repeat (first | (with_reducible first | exact HB.out | apply below_alloc | apply pw_below_drewN | apply below_drew1) | exact HB.out)⟩⟩
                        case rest =>
                          clear HC94
                          try clear c1
                          try clear c2
                          try clear p2
                          try clear c3
                          try clear p3
                          try clear q3
                          try clear hx3
                          try clear c4
                          try clear c5
                          try clear c6
                          try clear p6
                          try clear c7
                          try clear c8
                          try clear c9
                          try clear c12
                          try clear c12b0
                          try clear c12b1
                          try clear c12b2
                          try clear c14
                          try clear c20
                          try clear c22
                          try clear c26
                          try clear c27
                          try clear c27b0
                          try clear c27b1
                          try clear c27b2
                          try clear c28
                          try clear c29
                          try clear p35
                          try clear q35
                          try clear hx35
                          try clear p38
                          try clear q38
                          try clear hx38
                          try clear c39
                          try clear c41
                          try clear c41b0
                          try clear c42
                          try clear c42b0
                          try clear c43
                          try clear c43b0
                          try clear c44
                          try clear c44b0
                          try clear c45
                          try clear c45b0
                          try clear c45b1
                          try clear c58
                          try clear c58b0
                          try clear c58b1
                          try clear c58b2
                          try clear c60
                          try clear c61
                          try clear c61b0
                          try clear c61b1
                          try clear c61b2
                          try clear c63
                          try clear p64
                          try clear c68
                          try clear c70
                          try clear c72
                          try clear c72b0
                          try clear c73
                          try clear c73b0
                          try clear c74
                          try clear c74b0
                          try clear c78
                          try clear c80
                          try clear c82
                          try clear c82b0
                          try clear c83
                          try clear c83b0
                          try clear c84
                          try clear c84b0
                          try clear c85
                          try clear c85b0
                          try clear c85b1
                          try clear c85b2
                          try clear c87
                          try clear c87b0
                          try clear c88
                          try clear c88b0
                          try clear c89
                          try clear c89b0
                          try clear c89b1
                          try clear c98
                          try clear c98b0
                          try clear c98b1
                          try clear c98b2
                          try clear hx358_0
                          try clear hx359_0
                          try clear hx380_0
                          try clear hx385_0
                          try clear hx386_0
                          try clear p2
                          try clear p3
                          try clear p35
                          try clear p358
                          try clear p359
                          try clear p38
                          try clear p380
                          try clear p385
                          try clear p386
                          try clear p6
                          try clear p64
                          try clear q3
                          try clear q35
                          try clear q358
                          try clear q359
                          try clear q38
                          try clear q380
                          try clear q385
                          try clear q386
                          obtain ⟨kq, x254_93, rfl, HA, HJ93, HO_34, HB⟩ := hcut
                          cases kq with
                          | zero => exact absurd HA.out (by simp [laws_FnCyclicNumbers.j9])
                          | succ kj93 =>
                            have H := HA.out
                            clear HA
                            simp only [laws_FnCyclicNumbers.j9] at H
                            by_cases c102 : x254_93 = true
                            · subst c102
                              have H1 : (some false) = some r := by rw [if_pos rfl] at H; exact H
                              clear H
                              have H := H1
                              clear H1
                              exact absurd (Option.some.inj H) (by rw [HR_.out]; decide)
                            · replace c102 := Bool.eq_false_iff.mpr c102
                              subst c102
                              have H1 : (laws_FnCyclicNumbers.l3 kj93 t387 t389 (t389.length : Int) 0) = some r := by rw [if_neg (show ¬ (false = true) by decide)] at H; exact H
                              clear H
                              have H := H1
                              clear H1
                              have H' := Aside0.mk H
                              clear H
                              obtain ⟨Ao103, co103, eo103⟩ := Kd.R_slice HO_34.out
                              subst eo103
                              go_wp2
                              repeat (go_quiet (fail); try go_wp2)
                              go_loopg [257] kj93 (fun kq v257 w' => ∃ (x257_6 : Int), v257 = .int .i64 x257_6 ∧ Aside0 (laws_FnCyclicNumbers.l3 kq t387 t389 (t389.length : Int) x257_6 = some r) ∧ Aside0 (kq ≤ kj93) ∧ Aside0 (Kd.R (Kd.int .i64) 3 w' w.heap.size (fun _ => True) (.slice Ao103 t389.length co103) t389) ∧ Aside0 (Below w.heap.size w w'))
                              case atStart => exact ⟨(0), (by first | rfl | (simp; done) | (simp [*]; done)), H', ⟨Nat.le_refl _⟩, ⟨by (with_reducible repeat (first | apply Kd.R_alloc | apply Kd.R_drewN | apply Kd.R_drew)); exact HO_34.out⟩, ⟨by repeat (first | (with_reducible first | exact HB.out | apply below_alloc | apply pw_below_drewN | apply below_drew1) | exact HB.out)⟩⟩
                              case round =>
                                clear H'
                                try clear c1
                                try clear c2
                                try clear p2
                                try clear c3
                                try clear p3
                                try clear q3
                                try clear hx3
                                try clear c4
                                try clear c5
                                try clear c6
                                try clear p6
                                try clear c7
                                try clear c8
                                try clear c9
                                try clear c10
                                try clear c12
                                try clear c12b0
                                try clear c12b1
                                try clear c12b2
                                try clear c14
                                try clear c20
                                try clear c22
                                try clear c26
                                try clear c27
                                try clear c27b0
                                try clear c27b1
                                try clear c27b2
                                try clear c28
                                try clear c29
                                try clear p35
                                try clear q35
                                try clear hx35
                                try clear p38
                                try clear q38
                                try clear hx38
                                try clear c39
                                try clear c41
                                try clear c41b0
                                try clear c42
                                try clear c42b0
                                try clear c43
                                try clear c43b0
                                try clear c44
                                try clear c44b0
                                try clear c45
                                try clear c45b0
                                try clear c45b1
                                try clear c58
                                try clear c58b0
                                try clear c58b1
                                try clear c58b2
                                try clear c60
                                try clear c61
                                try clear c61b0
                                try clear c61b1
                                try clear c61b2
                                try clear c63
                                try clear p64
                                try clear c68
                                try clear c70
                                try clear c72
                                try clear c72b0
                                try clear c73
                                try clear c73b0
                                try clear c74
                                try clear c74b0
                                try clear c78
                                try clear c80
                                try clear c82
                                try clear c82b0
                                try clear c83
                                try clear c83b0
                                try clear c84
                                try clear c84b0
                                try clear c85
                                try clear c85b0
                                try clear c85b1
                                try clear c85b2
                                try clear c87
                                try clear c87b0
                                try clear c88
                                try clear c88b0
                                try clear c89
                                try clear c89b0
                                try clear c89b1
                                try clear c98
                                try clear c98b0
                                try clear c98b1
                                try clear c98b2
                                try clear c102
                                try clear hx358_0
                                try clear hx359_0
                                try clear hx380_0
                                try clear hx385_0
                                try clear hx386_0
                                try clear p2
                                try clear p3
                                try clear p35
                                try clear p358
                                try clear p359
                                try clear p38
                                try clear p380
                                try clear p385
                                try clear p386
                                try clear p6
                                try clear p64
                                try clear q3
                                try clear q35
                                try clear q358
                                try clear q359
                                try clear q38
                                try clear q380
                                try clear q385
                                try clear q386
                                obtain ⟨x257_6, rfl, HA, HK6, HO_255, HB⟩ := hrel
                                cases gk with
                                | zero => exact absurd HA.out (by simp [laws_FnCyclicNumbers.l3])
                                | succ k6 =>
                                  have H := HA.out
                                  clear HA
                                  simp only [laws_FnCyclicNumbers.l3] at H
                                  by_cases c104 : x257_6 < (t389.length : Int)
                                  · rw [if_pos c104] at H
                                    have c104b0 : decide (x257_6 < (t389.length : Int)) = true := decide_eq_true c104
                                    clear c104
                                    by_cases c105 : 0 ≤ x257_6
                                    · rw [if_pos c105] at H
                                      have c105b0 : decide (0 ≤ x257_6) = true := decide_eq_true c105
                                      clear c105
                                      by_cases c106 : x257_6 < (t389.length : Int)
                                      · rw [if_pos c106] at H
                                        have c106b0 : decide (x257_6 < (t389.length : Int)) = true := decide_eq_true c106
                                        clear c106
                                        replace H := Option.bind_eq_some_iff.mp H
                                        obtain ⟨⟨t399, t400⟩, A1070, H⟩ := H
                                        replace H : ((impl_CyclicOf.f k6 (rd t389 x257_6) t387).bind fun bt401 => (if t400 = true then (if t399 = (wrap64 ((rd t389 x257_6) - 1)) then (if bt401.2 = true then (laws_FnCyclicNumbers.l3 k6 t387 t389 (t389.length : Int) (wrap64 (x257_6 + 1))) else (some false)) else (some false)) else (some false))) = some r := H
                                        have A107 := Aside0.mk A1070
                                        clear A1070
                                        replace H := Option.bind_eq_some_iff.mp H
                                        obtain ⟨⟨t401, t402⟩, A1080, H⟩ := H
                                        replace H : (if t400 = true then (if t399 = (wrap64 ((rd t389 x257_6) - 1)) then (if t402 = true then (laws_FnCyclicNumbers.l3 k6 t387 t389 (t389.length : Int) (wrap64 (x257_6 + 1))) else (some false)) else (some false)) else (some false)) = some r := H
                                        have A108 := Aside0.mk A1080
                                        clear A1080
                                        by_cases c109 : t400 = true
                                        · subst c109
                                          have H1 : (if t399 = (wrap64 ((rd t389 x257_6) - 1)) then (if t402 = true then (laws_FnCyclicNumbers.l3 k6 t387 t389 (t389.length : Int) (wrap64 (x257_6 + 1))) else (some false)) else (some false)) = some r := by rw [if_pos rfl] at H; exact H
                                          clear H
                                          have H := H1
                                          clear H1
                                          by_cases c110 : t399 = (wrap64 ((rd t389 x257_6) - 1))
                                          · rw [if_pos c110] at H
                                            have c110b0 : (t399 == (wrap64 ((rd t389 x257_6) - 1))) = true := beq_iff_eq.mpr c110
                                            have c110b1 : (t399 != (wrap64 ((rd t389 x257_6) - 1))) = false := bne_eq_false_iff_eq.mpr c110
                                            clear c110
                                            by_cases c111 : t402 = true
                                            · subst c111
                                              have H1 : (laws_FnCyclicNumbers.l3 k6 t387 t389 (t389.length : Int) (wrap64 (x257_6 + 1))) = some r := by rw [if_pos rfl] at H; exact H
                                              clear H
                                              have H := H1
                                              clear H1
                                              as_aux_lemma =>
                                                have H' := Aside0.mk H
                                                clear H
                                                have p398 : 0 ≤ (x257_6 : Int) := of_decide_eq_true (by first | (with_reducible assumption) | assumption)
                                                have q398 : x257_6 < (t389.length : Int) := of_decide_eq_true (by first | (with_reducible assumption) | assumption)
                                                obtain ⟨ad398, e398, hx398_0⟩ := Kd.at_int (Kd.R_reads' HO_255.out).2.2 x257_6 p398 q398
                                                cases e398
                                                replace p398 := eq_true p398
                                                replace q398 := eq_true q398
                                                go_wp2_with (first | (go_at_call 68; (with_reducible refine (impl_OrderOf.calls k6 (rd t389 x257_6) t387 t399 true _ A107.out).mono ?_); rintro e w' ⟨rfl, ⟨nd, rfl⟩⟩; (try first | exact ⟨rfl, _, World.drewN_drewN _ _ _⟩ | exact ⟨rfl, _, Eq.trans (World.drewN_drewN _ _ _) (congrArg (World.drewN _) (Nat.add_assoc _ _ _))⟩)) | (go_at_call 105; (with_reducible refine (impl_CyclicOf.calls k6 (rd t389 x257_6) t387 t401 true _ A108.out).mono ?_); rintro e w112 ⟨v403, rfl, ho0, hb⟩; have n0_ := Aside0.mk (Kd.R_elder' (by (with_reducible repeat (first | apply Kd.R_alloc | apply Kd.R_drewN | apply Kd.R_drew)); exact HO_255.out) (Kd.R_base ho0) hb); have n1_ := Aside0.mk (Kd.R_lower (Kd.R_new' ho0 (Kd.R_lt (by (with_reducible repeat (first | apply Kd.R_alloc | apply Kd.R_drewN | apply Kd.R_drew)); exact HO_255.out))) (below_size (by repeat (first | (with_reducible first | exact HB.out | apply below_alloc | apply pw_below_drewN | apply below_drew1) | exact HB.out)))); have n2_ := Aside0.mk (below_step (by repeat (first | (with_reducible first | exact HB.out | apply below_alloc | apply pw_below_drewN | apply below_drew1) | exact HB.out)) hb); clear HO_255; clear HB; have HO_255 := n0_; have HO404 := n1_; have HB := n2_; clear n0_ n1_ n2_; (try clear hb); (try clear hb2); (try clear hk); (try clear hi); (try clear ho0)))
                                                repeat (go_quiet (first | (go_at_call 68; (with_reducible refine (impl_OrderOf.calls k6 (rd t389 x257_6) t387 t399 true _ A107.out).mono ?_); rintro e w' ⟨rfl, ⟨nd, rfl⟩⟩; (try first | exact ⟨rfl, _, World.drewN_drewN _ _ _⟩ | exact ⟨rfl, _, Eq.trans (World.drewN_drewN _ _ _) (congrArg (World.drewN _) (Nat.add_assoc _ _ _))⟩)) | (go_at_call 105; (with_reducible refine (impl_CyclicOf.calls k6 (rd t389 x257_6) t387 t401 true _ A108.out).mono ?_); rintro e w112 ⟨v403, rfl, ho0, hb⟩; have n0_ := Aside0.mk (Kd.R_elder' (by (with_reducible repeat (first | apply Kd.R_alloc | apply Kd.R_drewN | apply Kd.R_drew)); exact HO_255.out) (Kd.R_base ho0) hb); have n1_ := Aside0.mk (Kd.R_lower (Kd.R_new' ho0 (Kd.R_lt (by (with_reducible repeat (first | apply Kd.R_alloc | apply Kd.R_drewN | apply Kd.R_drew)); exact HO_255.out))) (below_size (by repeat (first | (with_reducible first | exact HB.out | apply below_alloc | apply pw_below_drewN | apply below_drew1) | exact HB.out)))); have n2_ := Aside0.mk (below_step (by repeat (first | (with_reducible first | exact HB.out | apply below_alloc | apply pw_below_drewN | apply below_drew1) | exact HB.out)) hb); clear HO_255; clear HB; have HO_255 := n0_; have HO404 := n1_; have HB := n2_; clear n0_ n1_ n2_; (try clear hb); (try clear hb2); (try clear hk); (try clear hi); (try clear ho0))); try go_wp2_with (first | (go_at_call 68; (with_reducible refine (impl_OrderOf.calls k6 (rd t389 x257_6) t387 t399 true _ A107.out).mono ?_); rintro e w' ⟨rfl, ⟨nd, rfl⟩⟩; (try first | exact ⟨rfl, _, World.drewN_drewN _ _ _⟩ | exact ⟨rfl, _, Eq.trans (World.drewN_drewN _ _ _) (congrArg (World.drewN _) (Nat.add_assoc _ _ _))⟩)) | (go_at_call 105; (with_reducible refine (impl_CyclicOf.calls k6 (rd t389 x257_6) t387 t401 true _ A108.out).mono ?_); rintro e w112 ⟨v403, rfl, ho0, hb⟩; have n0_ := Aside0.mk (Kd.R_elder' (by (with_reducible repeat (first | apply Kd.R_alloc | apply Kd.R_drewN | apply Kd.R_drew)); exact HO_255.out) (Kd.R_base ho0) hb); have n1_ := Aside0.mk (Kd.R_lower (Kd.R_new' ho0 (Kd.R_lt (by (with_reducible repeat (first | apply Kd.R_alloc | apply Kd.R_drewN | apply Kd.R_drew)); exact HO_255.out))) (below_size (by repeat (first | (with_reducible first | exact HB.out | apply below_alloc | apply pw_below_drewN | apply below_drew1) | exact HB.out)))); have n2_ := Aside0.mk (below_step (by repeat (first | (with_reducible first | exact HB.out | apply below_alloc | apply pw_below_drewN | apply below_drew1) | exact HB.out)) hb); clear HO_255; clear HB; have HO_255 := n0_; have HO404 := n1_; have HB := n2_; clear n0_ n1_ n2_; (try clear hb); (try clear hb2); (try clear hk); (try clear hi); (try clear ho0))))
                                                go_roundg k6
                                                case measure => have := HJ7.out; have := HJ20.out; have := HJ51.out; have := HJ68.out; have := HJ93.out; have := HK6.out; omega
                                                case rel => exact ⟨(wrap64 (x257_6 + 1)), (by first | rfl | (simp; done) | (simp [*]; done)), H', ⟨by have := HJ7.out; have := HJ20.out; have := HJ51.out; have := HJ68.out; have := HJ93.out; have := HK6.out; omega⟩, ⟨by (with_reducible repeat (first | apply Kd.R_alloc | apply Kd.R_drewN | apply Kd.R_drew)); exact Kd.R_mono HO_255.out (fun _ hk => trivial)⟩, ⟨by repeat (first | (with_reducible first | exact HB.out | apply below_alloc | apply pw_below_drewN | apply below_drew1) | exact HB.out)⟩⟩
                                            · replace c111 := Bool.eq_false_iff.mpr c111
                                              subst c111
                                              have H1 : (some false) = some r := by rw [if_neg (show ¬ (false = true) by decide)] at H; exact H
                                              clear H
                                              have H := H1
                                              clear H1
                                              exact absurd (Option.some.inj H) (by rw [HR_.out]; decide)
                                          · rw [if_neg c110] at H
                                            have c110b0 : (t399 == (wrap64 ((rd t389 x257_6) - 1))) = false := beq_eq_false_iff_ne.mpr c110
                                            have c110b1 : (t399 != (wrap64 ((rd t389 x257_6) - 1))) = true := bne_iff_ne.mpr c110
                                            exact absurd (Option.some.inj H) (by rw [HR_.out]; decide)
                                        · replace c109 := Bool.eq_false_iff.mpr c109
                                          subst c109
                                          have H1 : (some false) = some r := by rw [if_neg (show ¬ (false = true) by decide)] at H; exact H
                                          clear H
                                          have H := H1
                                          clear H1
                                          exact absurd (Option.some.inj H) (by rw [HR_.out]; decide)
                                      · rw [if_neg c106] at H
                                        exact absurd H (by simp)
                                    · rw [if_neg c105] at H
                                      exact absurd H (by simp)
                                  · rw [if_neg c104] at H
                                    have c104b0 : decide (x257_6 < (t389.length : Int)) = false := decide_eq_false c104
                                    clear c104
                                    as_aux_lemma =>
                                      obtain rfl := Option.some.inj H
                                      go_wp2
                                      repeat (go_quiet (fail); try go_wp2)
                                      go_ret
                                      exact ⟨by first | rfl | (simp [errW_none, errW_some] <;> rfl) | (simp [*, errW_none, errW_some] <;> rfl), by repeat (first | (with_reducible first | exact HB.out | apply below_alloc | apply pw_below_drewN | apply below_drew1) | exact HB.out)⟩

/-- THE ONE PURE STATEMENT of laws_FnCyclicNumbers: yours. -/
def laws_FnCyclicNumbers.Pure : Prop := ∀ (l0 : List Int) (l1 : List Int), l0.length ≤ maxLen → l0.length * 1 ≤ 140737488351232 → (∀ x ∈ l0, (Lit.int .u8 x).wf = true) → l1.length ≤ maxLen → l1.length * 1 ≤ 140737488351232 → (∀ x ∈ l1, (Lit.int .u8 x).wf = true) → ∃ k, laws_FnCyclicNumbers.f k l0 l1 = some true
theorem laws_FnCyclicNumbers.walk (P : laws_FnCyclicNumbers.Pure) (a0 : Option Addr) (len0 cap0 : Nat) (z0 : List Int) (a1 : Option Addr) (len1 cap1 : Nat) (z1 : List Int) (w : World) (w0 : (a0 = none ∧ len0 = 0 ∧ cap0 = 0 ∧ z0 = []) ∨ ∃ x, a0 = some x ∧ len0 ≤ cap0 ∧ cap0 ≤ maxLen ∧ z0.length = cap0 ∧ (∀ i, i < z0.length → w.cell? (x.add i) = some (.int .u8 (z0.getD i 0))) ∧ ∀ n ∈ z0, (Lit.int .u8 n).wf = true) (y0 : len0 * 1 ≤ 140737488351232) (w1 : (a1 = none ∧ len1 = 0 ∧ cap1 = 0 ∧ z1 = []) ∨ ∃ x, a1 = some x ∧ len1 ≤ cap1 ∧ cap1 ≤ maxLen ∧ z1.length = cap1 ∧ (∀ i, i < z1.length → w.cell? (x.add i) = some (.int .u8 (z1.getD i 0))) ∧ ∀ n ∈ z1, (Lit.int .u8 n).wf = true) (y1 : len1 * 1 ≤ 140737488351232) :
    Calls Try.prog 12 #[.slice a0 len0 cap0, .slice a1 len1 cap1] w fun e w' => e = .returned (.bool true) ∧ Below w.heap.size w w' := by
  obtain ⟨l0, rfl, hr0, hm0, hw0, hc0⟩ := ReadsInt.ofRowC w0
  obtain ⟨l1, rfl, hr1, hm1, hw1, hc1⟩ := ReadsInt.ofRowC w1
  obtain ⟨k, h⟩ := P l0 l1 hm0 y0 hw0 hm1 y1 hw1
  refine (laws_FnCyclicNumbers.calls k _ _ l0 _ _ l1 true w (Kd.C_of_reads (d := (0 : Int)) (h1 := fun _ => rfl) hr0) hc0 (Kd.C_of_reads (d := (0 : Int)) (h1 := fun _ => rfl) hr1) hc1 h rfl).mono ?_
  rintro e w' ⟨rfl, hd⟩
  exact ⟨rfl, hd⟩

end Go.Proofs.Ytikkpehjleoplaa.PFnCyclicNumbers
