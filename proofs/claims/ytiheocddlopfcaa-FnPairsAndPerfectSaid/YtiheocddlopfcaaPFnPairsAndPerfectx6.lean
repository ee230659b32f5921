-- out of the kit's print, turned by wip/own_print.py
import Derived.Test.YtiheocddlopfcaaPFnPairsAndPerfectx0
import Derived.Test.YtiheocddlopfcaaPFnPairsAndPerfectx1
import Derived.Test.YtiheocddlopfcaaPFnPairsAndPerfectx2
import Derived.Test.YtiheocddlopfcaaPFnPairsAndPerfectx3
import Derived.Test.YtiheocddlopfcaaPFnPairsAndPerfectx4
import Derived.Test.YtiheocddlopfcaaPFnPairsAndPerfectx5
namespace Go.Proofs.Ytiheocddlopfcaa.PFnPairsAndPerfect
open Go.RowKit Go.Proofs.YtiheocddlopfcaaW.PrintWords Go.Proofs.YtiheocddlopfcaaW.PrintLast Go.Proofs.YtiheocddlopfcaaW.PrintMore
attribute [local go_sem] max2_int min2_int max_two min_two max_three min_three max_four min_four   -- for this text's walks alone
set_option linter.unusedVariables false
set_option linter.unusedSimpArgs false

/-! ### laws_FnPairsAndPerfect: function 3 -/
mutual
def laws_FnPairsAndPerfect.j0 : Nat → List Int → List Int → List (List Int) → Bool → Option (Bool)
  | 0, _, _, _, _ => none
  | k + 1, x0, x1, x6, x70 => if x70 = true then (some false) else (laws_FnPairsAndPerfect.l0 k x0 x1 x6 x6 (x6.length : Int) 0)
def laws_FnPairsAndPerfect.l0 : Nat → List Int → List Int → List (List Int) → List (List Int) → Int → Int → Option (Bool)
  | 0, _, _, _, _, _, _ => none
  | k + 1, x0, x1, x6, x71, x72, x73 => if x73 < x72 then (if 0 ≤ x73 then (if x73 < (x71.length : Int) then (if 0 < ((rd_L2 x71 x73).length : Int) then ((impl_PartnerOf.f k (rd (rd_L2 x71 x73) 0)).bind fun bt311 => (if bt311.2 = true then (if 1 < ((rd_L2 x71 x73).length : Int) then (if bt311.1 = (rd (rd_L2 x71 x73) 1) then (if (rd (rd_L2 x71 x73) 1) ≤ (rd (rd_L2 x71 x73) 0) then (some false) else (if x73 > 0 then (if 0 ≤ (wrap64 (x73 - 1)) then (if (wrap64 (x73 - 1)) < (x6.length : Int) then (if 0 < ((rd_L2 x6 (wrap64 (x73 - 1))).length : Int) then (if (rd (rd_L2 x6 (wrap64 (x73 - 1))) 0) ≥ (rd (rd_L2 x71 x73) 0) then (some false) else (laws_FnPairsAndPerfect.l0 k x0 x1 x6 x71 x72 (wrap64 (x73 + 1)))) else (none)) else (none)) else (none)) else (laws_FnPairsAndPerfect.l0 k x0 x1 x6 x71 x72 (wrap64 (x73 + 1))))) else (some false)) else (none)) else (some false))) else (none)) else (none)) else (none)) else ((spec_DrawEvenPerfect.f x1).bind fun t319 => ((impl_EvenPerfect.f k t319).bind fun bt320 => ((spec_EvenPerfect.f k t319).bind fun bt322 => ((spec_DrawThabitPair.f x1).bind fun t324 => ((impl_ThabitPair.f k t324).bind fun bt325 => ((spec_ThabitPair.f k t324).bind fun bt328 => (if (bt320.2 != bt322.2) = true then (laws_FnPairsAndPerfect.j2 k x0 x1 bt320.1 bt320.2 bt325.1 bt325.2.1 bt325.2.2 true) else (if bt320.1 = bt322.1 then (if (bt325.2.2 != bt328.2.2) = true then (laws_FnPairsAndPerfect.j2 k x0 x1 bt320.1 bt320.2 bt325.1 bt325.2.1 bt325.2.2 true) else (if bt325.1 = bt328.1 then (laws_FnPairsAndPerfect.j2 k x0 x1 bt320.1 bt320.2 bt325.1 bt325.2.1 bt325.2.2 (bt325.2.1 != bt328.2.1)) else (laws_FnPairsAndPerfect.j2 k x0 x1 bt320.1 bt320.2 bt325.1 bt325.2.1 bt325.2.2 true))) else (laws_FnPairsAndPerfect.j2 k x0 x1 bt320.1 bt320.2 bt325.1 bt325.2.1 bt325.2.2 true)))))))))
def laws_FnPairsAndPerfect.j2 : Nat → List Int → List Int → Int → Bool → Int → Int → Bool → Bool → Option (Bool)
  | 0, _, _, _, _, _, _, _, _ => none
  | k + 1, x0, x1, x15, x16, x20, x21, x22, x169 => if x169 = true then (some false) else (if x16 = true then ((impl_KindOfNumber.f k x15).bind fun bt331 => (if bt331.2 = true then (if bt331.1 = 0 then (laws_FnPairsAndPerfect.j3 k x0 x1 x20 x21 x22) else (some false)) else (some false))) else (laws_FnPairsAndPerfect.j3 k x0 x1 x20 x21 x22))
def laws_FnPairsAndPerfect.j3 : Nat → List Int → List Int → Int → Int → Bool → Option (Bool)
  | 0, _, _, _, _, _ => none
  | k + 1, x0, x1, x20, x21, x22 => if x22 = true then ((impl_PartnerOf.f k x20).bind fun bt333 => (if bt333.2 = true then (if bt333.1 = x21 then (laws_FnPairsAndPerfect.j4 k x0 x1) else (some false)) else (some false))) else (laws_FnPairsAndPerfect.j4 k x0 x1)
def laws_FnPairsAndPerfect.j4 : Nat → List Int → List Int → Option (Bool)
  | 0, _, _ => none
  | k + 1, x0, x1 => (spec_DrawSourcesOf.f x0).bind fun t335 => ((impl_SourcesOf.f k t335).bind fun bt336 => ((spec_SourcesOf.f k t335).bind fun bt340 => ((spec_DrawNoSources.f x1).bind fun t344 => ((impl_NoSources.f k t344).bind fun bt345 => ((spec_NoSources.f k t344).bind fun bt349 => (if (bt336.2 != bt340.2) = true then (laws_FnPairsAndPerfect.j5 k t335 bt336.1 bt336.2 t344 bt345.1 bt345.2 true) else ((laws_qSame.f k bt336.1 bt340.1).bind fun t353 => (if t353 = true then (if (bt345.2 != bt349.2) = true then (laws_FnPairsAndPerfect.j5 k t335 bt336.1 bt336.2 t344 bt345.1 bt345.2 true) else ((laws_qSame.f k bt345.1 bt349.1).bind fun t354 => (laws_FnPairsAndPerfect.j5 k t335 bt336.1 bt336.2 t344 bt345.1 bt345.2 (!t354)))) else (laws_FnPairsAndPerfect.j5 k t335 bt336.1 bt336.2 t344 bt345.1 bt345.2 true)))))))))
def laws_FnPairsAndPerfect.j5 : Nat → Int → List Int → Bool → Int → List Int → Bool → Bool → Option (Bool)
  | 0, _, _, _, _, _, _, _ => none
  | k + 1, x30, x31, x32, x35, x36, x37, x238 => if x238 = true then (some false) else (laws_FnPairsAndPerfect.l1 k x30 x31 x32 x35 x36 x37 x31 (x31.length : Int) 0)
def laws_FnPairsAndPerfect.l1 : Nat → Int → List Int → Bool → Int → List Int → Bool → List Int → Int → Int → Option (Bool)
  | 0, _, _, _, _, _, _, _, _, _ => none
  | k + 1, x30, x31, x32, x35, x36, x37, x239, x240, x241 => if x241 < x240 then (if 0 ≤ x241 then (if x241 < (x239.length : Int) then ((impl_ProperSum.f k (rd x239 x241)).bind fun bt356 => (if bt356.2 = true then (if bt356.1 = x30 then (if x241 > 0 then (if 0 ≤ (wrap64 (x241 - 1)) then (if (wrap64 (x241 - 1)) < (x31.length : Int) then (if (rd x31 (wrap64 (x241 - 1))) ≥ (rd x239 x241) then (some false) else (laws_FnPairsAndPerfect.l1 k x30 x31 x32 x35 x36 x37 x239 x240 (wrap64 (x241 + 1)))) else (none)) else (none)) else (laws_FnPairsAndPerfect.l1 k x30 x31 x32 x35 x36 x37 x239 x240 (wrap64 (x241 + 1)))) else (some false)) else (some false))) else (none)) else (none)) else (if x37 = true then (if x32 = true then (laws_FnPairsAndPerfect.j7 k x30 x31 x36 (decide (x30 ≤ x35))) else (laws_FnPairsAndPerfect.j7 k x30 x31 x36 false)) else (laws_FnPairsAndPerfect.j7 k x30 x31 x36 false))
def laws_FnPairsAndPerfect.j7 : Nat → Int → List Int → List Int → Bool → Option (Bool)
  | 0, _, _, _, _ => none
  | k + 1, x30, x31, x36, x280 => if x280 = true then (laws_FnPairsAndPerfect.l2 k x30 x31 false x36 (x36.length : Int) 0) else (some true)
def laws_FnPairsAndPerfect.l2 : Nat → Int → List Int → Bool → List Int → Int → Int → Option (Bool)
  | 0, _, _, _, _, _, _ => none
  | k + 1, x30, x31, x44, x281, x282, x283 => if x283 < x282 then (if 0 ≤ x283 then (if x283 < (x281.length : Int) then (if x44 = true then (laws_FnPairsAndPerfect.l2 k x30 x31 true x281 x282 (wrap64 (x283 + 1))) else (laws_FnPairsAndPerfect.l2 k x30 x31 ((rd x281 x283) == x30) x281 x282 (wrap64 (x283 + 1)))) else (none)) else (none)) else (some (x44 == ((x31.length : Int) == 0)))
end
def laws_FnPairsAndPerfect.f (k : Nat) (l0 : List Int) (l1 : List Int) : Option (Bool) := (laws_big.f l0 l1).bind fun t298 => (if t298 = true then (some true) else ((spec_DrawPairsUpTo.f l0).bind fun t299 => ((impl_PairsUpTo.f k t299).bind fun bt300 => ((spec_PairsUpTo.f k t299).bind fun bt304 => (if (bt300.2 != bt304.2) = true then (laws_FnPairsAndPerfect.j0 k l0 l1 bt300.1 true) else ((laws_qSameRows.f k bt300.1 bt304.1).bind fun t308 => (laws_FnPairsAndPerfect.j0 k l0 l1 bt300.1 (!t308))))))))
theorem laws_FnPairsAndPerfect.mono_l : ∀ k, (∀ y0 y1 y2 y3, LeO (laws_FnPairsAndPerfect.j0 k y0 y1 y2 y3) (laws_FnPairsAndPerfect.j0 (k + 1) y0 y1 y2 y3)) ∧ (∀ y0 y1 y2 y3 y4 y5, LeO (laws_FnPairsAndPerfect.l0 k y0 y1 y2 y3 y4 y5) (laws_FnPairsAndPerfect.l0 (k + 1) y0 y1 y2 y3 y4 y5)) ∧ (∀ y0 y1 y2 y3 y4 y5 y6 y7, LeO (laws_FnPairsAndPerfect.j2 k y0 y1 y2 y3 y4 y5 y6 y7) (laws_FnPairsAndPerfect.j2 (k + 1) y0 y1 y2 y3 y4 y5 y6 y7)) ∧ (∀ y0 y1 y2 y3 y4, LeO (laws_FnPairsAndPerfect.j3 k y0 y1 y2 y3 y4) (laws_FnPairsAndPerfect.j3 (k + 1) y0 y1 y2 y3 y4)) ∧ (∀ y0 y1, LeO (laws_FnPairsAndPerfect.j4 k y0 y1) (laws_FnPairsAndPerfect.j4 (k + 1) y0 y1)) ∧ (∀ y0 y1 y2 y3 y4 y5 y6, LeO (laws_FnPairsAndPerfect.j5 k y0 y1 y2 y3 y4 y5 y6) (laws_FnPairsAndPerfect.j5 (k + 1) y0 y1 y2 y3 y4 y5 y6)) ∧ (∀ y0 y1 y2 y3 y4 y5 y6 y7 y8, LeO (laws_FnPairsAndPerfect.l1 k y0 y1 y2 y3 y4 y5 y6 y7 y8) (laws_FnPairsAndPerfect.l1 (k + 1) y0 y1 y2 y3 y4 y5 y6 y7 y8)) ∧ (∀ y0 y1 y2 y3, LeO (laws_FnPairsAndPerfect.j7 k y0 y1 y2 y3) (laws_FnPairsAndPerfect.j7 (k + 1) y0 y1 y2 y3)) ∧ (∀ y0 y1 y2 y3 y4 y5, LeO (laws_FnPairsAndPerfect.l2 k y0 y1 y2 y3 y4 y5) (laws_FnPairsAndPerfect.l2 (k + 1) y0 y1 y2 y3 y4 y5))
  | 0 => ⟨fun _ _ _ _ r h => by simp [laws_FnPairsAndPerfect.j0] at h, fun _ _ _ _ _ _ r h => by simp [laws_FnPairsAndPerfect.l0] at h, fun _ _ _ _ _ _ _ _ r h => by simp [laws_FnPairsAndPerfect.j2] at h, fun _ _ _ _ _ r h => by simp [laws_FnPairsAndPerfect.j3] at h, fun _ _ r h => by simp [laws_FnPairsAndPerfect.j4] at h, fun _ _ _ _ _ _ _ r h => by simp [laws_FnPairsAndPerfect.j5] at h, fun _ _ _ _ _ _ _ _ _ r h => by simp [laws_FnPairsAndPerfect.l1] at h, fun _ _ _ _ r h => by simp [laws_FnPairsAndPerfect.j7] at h, fun _ _ _ _ _ _ r h => by simp [laws_FnPairsAndPerfect.l2] at h⟩
  | k + 1 => by
    obtain ⟨ih0, ih1, ih2, ih3, ih4, ih5, ih6, ih7, ih8⟩ := laws_FnPairsAndPerfect.mono_l k
    refine ⟨?_, ?_, ?_, ?_, ?_, ?_, ?_, ?_, ?_⟩
    · intro y0 y1 y2 y3
      unfold laws_FnPairsAndPerfect.j0
      repeat' first
      | (with_reducible exact ih0 _ _ _ _)
      | (with_reducible exact ih1 _ _ _ _ _ _)
      | (with_reducible exact ih2 _ _ _ _ _ _ _ _)
      | (with_reducible exact ih3 _ _ _ _ _)
      | (with_reducible exact ih4 _ _)
      | (with_reducible exact ih5 _ _ _ _ _ _ _)
      | (with_reducible exact ih6 _ _ _ _ _ _ _ _ _)
      | (with_reducible exact ih7 _ _ _ _)
      | (with_reducible exact ih8 _ _ _ _ _ _)
      | (with_reducible exact impl_EvenPerfect.mono _ _)
      | (with_reducible exact impl_KindOfNumber.mono _ _)
      | (with_reducible exact impl_NoSources.mono _ _)
      | (with_reducible exact impl_PairsUpTo.mono _ _)
      | (with_reducible exact impl_PartnerOf.mono _ _)
      | (with_reducible exact impl_ProperSum.mono _ _)
      | (with_reducible exact impl_SourcesOf.mono _ _)
      | (with_reducible exact impl_ThabitPair.mono _ _)
      | (with_reducible exact laws_qSame.mono _ _ _)
      | (with_reducible exact laws_qSameRows.mono _ _ _)
      | (with_reducible exact spec_EvenPerfect.mono _ _)
      | (with_reducible exact spec_NoSources.mono _ _)
      | (with_reducible exact spec_PairsUpTo.mono _ _)
      | (with_reducible exact spec_SourcesOf.mono _ _)
      | (with_reducible exact spec_ThabitPair.mono _ _)
      | (with_reducible exact LeO.refl _)
      | (with_reducible exact LeO.none _)
      | (with_reducible refine LeO.ite ?_ ?_)
      | (with_reducible refine LeO.bind ?_ (fun _ => ?_))
      | exact ih0 _ _ _ _
      | exact ih1 _ _ _ _ _ _
      | exact ih2 _ _ _ _ _ _ _ _
      | exact ih3 _ _ _ _ _
      | exact ih4 _ _
      | exact ih5 _ _ _ _ _ _ _
      | exact ih6 _ _ _ _ _ _ _ _ _
      | exact ih7 _ _ _ _
      | exact ih8 _ _ _ _ _ _
      | exact impl_EvenPerfect.mono _ _
      | exact impl_KindOfNumber.mono _ _
      | exact impl_NoSources.mono _ _
      | exact impl_PairsUpTo.mono _ _
      | exact impl_PartnerOf.mono _ _
      | exact impl_ProperSum.mono _ _
      | exact impl_SourcesOf.mono _ _
      | exact impl_ThabitPair.mono _ _
      | exact laws_qSame.mono _ _ _
      | exact laws_qSameRows.mono _ _ _
      | exact spec_EvenPerfect.mono _ _
      | exact spec_NoSources.mono _ _
      | exact spec_PairsUpTo.mono _ _
      | exact spec_SourcesOf.mono _ _
      | exact spec_ThabitPair.mono _ _
      | exact LeO.none _
      | refine LeO.ite ?_ ?_
      | refine LeO.bind ?_ (fun _ => ?_)
    · intro y0 y1 y2 y3 y4 y5
      unfold laws_FnPairsAndPerfect.l0
      repeat' first
      | (with_reducible exact ih0 _ _ _ _)
      | (with_reducible exact ih1 _ _ _ _ _ _)
      | (with_reducible exact ih2 _ _ _ _ _ _ _ _)
      | (with_reducible exact ih3 _ _ _ _ _)
      | (with_reducible exact ih4 _ _)
      | (with_reducible exact ih5 _ _ _ _ _ _ _)
      | (with_reducible exact ih6 _ _ _ _ _ _ _ _ _)
      | (with_reducible exact ih7 _ _ _ _)
      | (with_reducible exact ih8 _ _ _ _ _ _)
      | (with_reducible exact impl_EvenPerfect.mono _ _)
      | (with_reducible exact impl_KindOfNumber.mono _ _)
      | (with_reducible exact impl_NoSources.mono _ _)
      | (with_reducible exact impl_PairsUpTo.mono _ _)
      | (with_reducible exact impl_PartnerOf.mono _ _)
      | (with_reducible exact impl_ProperSum.mono _ _)
      | (with_reducible exact impl_SourcesOf.mono _ _)
      | (with_reducible exact impl_ThabitPair.mono _ _)
      | (with_reducible exact laws_qSame.mono _ _ _)
      | (with_reducible exact laws_qSameRows.mono _ _ _)
      | (with_reducible exact spec_EvenPerfect.mono _ _)
      | (with_reducible exact spec_NoSources.mono _ _)
      | (with_reducible exact spec_PairsUpTo.mono _ _)
      | (with_reducible exact spec_SourcesOf.mono _ _)
      | (with_reducible exact spec_ThabitPair.mono _ _)
      | (with_reducible exact LeO.refl _)
      | (with_reducible exact LeO.none _)
      | (with_reducible refine LeO.ite ?_ ?_)
      | (with_reducible refine LeO.bind ?_ (fun _ => ?_))
      | exact ih0 _ _ _ _
      | exact ih1 _ _ _ _ _ _
      | exact ih2 _ _ _ _ _ _ _ _
      | exact ih3 _ _ _ _ _
      | exact ih4 _ _
      | exact ih5 _ _ _ _ _ _ _
      | exact ih6 _ _ _ _ _ _ _ _ _
      | exact ih7 _ _ _ _
      | exact ih8 _ _ _ _ _ _
      | exact impl_EvenPerfect.mono _ _
      | exact impl_KindOfNumber.mono _ _
      | exact impl_NoSources.mono _ _
      | exact impl_PairsUpTo.mono _ _
      | exact impl_PartnerOf.mono _ _
      | exact impl_ProperSum.mono _ _
      | exact impl_SourcesOf.mono _ _
      | exact impl_ThabitPair.mono _ _
      | exact laws_qSame.mono _ _ _
      | exact laws_qSameRows.mono _ _ _
      | exact spec_EvenPerfect.mono _ _
      | exact spec_NoSources.mono _ _
      | exact spec_PairsUpTo.mono _ _
      | exact spec_SourcesOf.mono _ _
      | exact spec_ThabitPair.mono _ _
      | exact LeO.none _
      | refine LeO.ite ?_ ?_
      | refine LeO.bind ?_ (fun _ => ?_)
    · intro y0 y1 y2 y3 y4 y5 y6 y7
      unfold laws_FnPairsAndPerfect.j2
      repeat' first
      | (with_reducible exact ih0 _ _ _ _)
      | (with_reducible exact ih1 _ _ _ _ _ _)
      | (with_reducible exact ih2 _ _ _ _ _ _ _ _)
      | (with_reducible exact ih3 _ _ _ _ _)
      | (with_reducible exact ih4 _ _)
      | (with_reducible exact ih5 _ _ _ _ _ _ _)
      | (with_reducible exact ih6 _ _ _ _ _ _ _ _ _)
      | (with_reducible exact ih7 _ _ _ _)
      | (with_reducible exact ih8 _ _ _ _ _ _)
      | (with_reducible exact impl_EvenPerfect.mono _ _)
      | (with_reducible exact impl_KindOfNumber.mono _ _)
      | (with_reducible exact impl_NoSources.mono _ _)
      | (with_reducible exact impl_PairsUpTo.mono _ _)
      | (with_reducible exact impl_PartnerOf.mono _ _)
      | (with_reducible exact impl_ProperSum.mono _ _)
      | (with_reducible exact impl_SourcesOf.mono _ _)
      | (with_reducible exact impl_ThabitPair.mono _ _)
      | (with_reducible exact laws_qSame.mono _ _ _)
      | (with_reducible exact laws_qSameRows.mono _ _ _)
      | (with_reducible exact spec_EvenPerfect.mono _ _)
      | (with_reducible exact spec_NoSources.mono _ _)
      | (with_reducible exact spec_PairsUpTo.mono _ _)
      | (with_reducible exact spec_SourcesOf.mono _ _)
      | (with_reducible exact spec_ThabitPair.mono _ _)
      | (with_reducible exact LeO.refl _)
      | (with_reducible exact LeO.none _)
      | (with_reducible refine LeO.ite ?_ ?_)
      | (with_reducible refine LeO.bind ?_ (fun _ => ?_))
      | exact ih0 _ _ _ _
      | exact ih1 _ _ _ _ _ _
      | exact ih2 _ _ _ _ _ _ _ _
      | exact ih3 _ _ _ _ _
      | exact ih4 _ _
      | exact ih5 _ _ _ _ _ _ _
      | exact ih6 _ _ _ _ _ _ _ _ _
      | exact ih7 _ _ _ _
      | exact ih8 _ _ _ _ _ _
      | exact impl_EvenPerfect.mono _ _
      | exact impl_KindOfNumber.mono _ _
      | exact impl_NoSources.mono _ _
      | exact impl_PairsUpTo.mono _ _
      | exact impl_PartnerOf.mono _ _
      | exact impl_ProperSum.mono _ _
      | exact impl_SourcesOf.mono _ _
      | exact impl_ThabitPair.mono _ _
      | exact laws_qSame.mono _ _ _
      | exact laws_qSameRows.mono _ _ _
      | exact spec_EvenPerfect.mono _ _
      | exact spec_NoSources.mono _ _
      | exact spec_PairsUpTo.mono _ _
      | exact spec_SourcesOf.mono _ _
      | exact spec_ThabitPair.mono _ _
      | exact LeO.none _
      | refine LeO.ite ?_ ?_
      | refine LeO.bind ?_ (fun _ => ?_)
    · intro y0 y1 y2 y3 y4
      unfold laws_FnPairsAndPerfect.j3
      repeat' first
      | (with_reducible exact ih0 _ _ _ _)
      | (with_reducible exact ih1 _ _ _ _ _ _)
      | (with_reducible exact ih2 _ _ _ _ _ _ _ _)
      | (with_reducible exact ih3 _ _ _ _ _)
      | (with_reducible exact ih4 _ _)
      | (with_reducible exact ih5 _ _ _ _ _ _ _)
      | (with_reducible exact ih6 _ _ _ _ _ _ _ _ _)
      | (with_reducible exact ih7 _ _ _ _)
      | (with_reducible exact ih8 _ _ _ _ _ _)
      | (with_reducible exact impl_EvenPerfect.mono _ _)
      | (with_reducible exact impl_KindOfNumber.mono _ _)
      | (with_reducible exact impl_NoSources.mono _ _)
      | (with_reducible exact impl_PairsUpTo.mono _ _)
      | (with_reducible exact impl_PartnerOf.mono _ _)
      | (with_reducible exact impl_ProperSum.mono _ _)
      | (with_reducible exact impl_SourcesOf.mono _ _)
      | (with_reducible exact impl_ThabitPair.mono _ _)
      | (with_reducible exact laws_qSame.mono _ _ _)
      | (with_reducible exact laws_qSameRows.mono _ _ _)
      | (with_reducible exact spec_EvenPerfect.mono _ _)
      | (with_reducible exact spec_NoSources.mono _ _)
      | (with_reducible exact spec_PairsUpTo.mono _ _)
      | (with_reducible exact spec_SourcesOf.mono _ _)
      | (with_reducible exact spec_ThabitPair.mono _ _)
      | (with_reducible exact LeO.refl _)
      | (with_reducible exact LeO.none _)
      | (with_reducible refine LeO.ite ?_ ?_)
      | (with_reducible refine LeO.bind ?_ (fun _ => ?_))
      | exact ih0 _ _ _ _
      | exact ih1 _ _ _ _ _ _
      | exact ih2 _ _ _ _ _ _ _ _
      | exact ih3 _ _ _ _ _
      | exact ih4 _ _
      | exact ih5 _ _ _ _ _ _ _
      | exact ih6 _ _ _ _ _ _ _ _ _
      | exact ih7 _ _ _ _
      | exact ih8 _ _ _ _ _ _
      | exact impl_EvenPerfect.mono _ _
      | exact impl_KindOfNumber.mono _ _
      | exact impl_NoSources.mono _ _
      | exact impl_PairsUpTo.mono _ _
      | exact impl_PartnerOf.mono _ _
      | exact impl_ProperSum.mono _ _
      | exact impl_SourcesOf.mono _ _
      | exact impl_ThabitPair.mono _ _
      | exact laws_qSame.mono _ _ _
      | exact laws_qSameRows.mono _ _ _
      | exact spec_EvenPerfect.mono _ _
      | exact spec_NoSources.mono _ _
      | exact spec_PairsUpTo.mono _ _
      | exact spec_SourcesOf.mono _ _
      | exact spec_ThabitPair.mono _ _
      | exact LeO.none _
      | refine LeO.ite ?_ ?_
      | refine LeO.bind ?_ (fun _ => ?_)
    · intro y0 y1
      unfold laws_FnPairsAndPerfect.j4
      repeat' first
      | (with_reducible exact ih0 _ _ _ _)
      | (with_reducible exact ih1 _ _ _ _ _ _)
      | (with_reducible exact ih2 _ _ _ _ _ _ _ _)
      | (with_reducible exact ih3 _ _ _ _ _)
      | (with_reducible exact ih4 _ _)
      | (with_reducible exact ih5 _ _ _ _ _ _ _)
      | (with_reducible exact ih6 _ _ _ _ _ _ _ _ _)
      | (with_reducible exact ih7 _ _ _ _)
      | (with_reducible exact ih8 _ _ _ _ _ _)
      | (with_reducible exact impl_EvenPerfect.mono _ _)
      | (with_reducible exact impl_KindOfNumber.mono _ _)
      | (with_reducible exact impl_NoSources.mono _ _)
      | (with_reducible exact impl_PairsUpTo.mono _ _)
      | (with_reducible exact impl_PartnerOf.mono _ _)
      | (with_reducible exact impl_ProperSum.mono _ _)
      | (with_reducible exact impl_SourcesOf.mono _ _)
      | (with_reducible exact impl_ThabitPair.mono _ _)
      | (with_reducible exact laws_qSame.mono _ _ _)
      | (with_reducible exact laws_qSameRows.mono _ _ _)
      | (with_reducible exact spec_EvenPerfect.mono _ _)
      | (with_reducible exact spec_NoSources.mono _ _)
      | (with_reducible exact spec_PairsUpTo.mono _ _)
      | (with_reducible exact spec_SourcesOf.mono _ _)
      | (with_reducible exact spec_ThabitPair.mono _ _)
      | (with_reducible exact LeO.refl _)
      | (with_reducible exact LeO.none _)
      | (with_reducible refine LeO.ite ?_ ?_)
      | (with_reducible refine LeO.bind ?_ (fun _ => ?_))
      | exact ih0 _ _ _ _
      | exact ih1 _ _ _ _ _ _
      | exact ih2 _ _ _ _ _ _ _ _
      | exact ih3 _ _ _ _ _
      | exact ih4 _ _
      | exact ih5 _ _ _ _ _ _ _
      | exact ih6 _ _ _ _ _ _ _ _ _
      | exact ih7 _ _ _ _
      | exact ih8 _ _ _ _ _ _
      | exact impl_EvenPerfect.mono _ _
      | exact impl_KindOfNumber.mono _ _
      | exact impl_NoSources.mono _ _
      | exact impl_PairsUpTo.mono _ _
      | exact impl_PartnerOf.mono _ _
      | exact impl_ProperSum.mono _ _
      | exact impl_SourcesOf.mono _ _
      | exact impl_ThabitPair.mono _ _
      | exact laws_qSame.mono _ _ _
      | exact laws_qSameRows.mono _ _ _
      | exact spec_EvenPerfect.mono _ _
      | exact spec_NoSources.mono _ _
      | exact spec_PairsUpTo.mono _ _
      | exact spec_SourcesOf.mono _ _
      | exact spec_ThabitPair.mono _ _
      | exact LeO.none _
      | refine LeO.ite ?_ ?_
      | refine LeO.bind ?_ (fun _ => ?_)
    · intro y0 y1 y2 y3 y4 y5 y6
      unfold laws_FnPairsAndPerfect.j5
      repeat' first
      | (with_reducible exact ih0 _ _ _ _)
      | (with_reducible exact ih1 _ _ _ _ _ _)
      | (with_reducible exact ih2 _ _ _ _ _ _ _ _)
      | (with_reducible exact ih3 _ _ _ _ _)
      | (with_reducible exact ih4 _ _)
      | (with_reducible exact ih5 _ _ _ _ _ _ _)
      | (with_reducible exact ih6 _ _ _ _ _ _ _ _ _)
      | (with_reducible exact ih7 _ _ _ _)
      | (with_reducible exact ih8 _ _ _ _ _ _)
      | (with_reducible exact impl_EvenPerfect.mono _ _)
      | (with_reducible exact impl_KindOfNumber.mono _ _)
      | (with_reducible exact impl_NoSources.mono _ _)
      | (with_reducible exact impl_PairsUpTo.mono _ _)
      | (with_reducible exact impl_PartnerOf.mono _ _)
      | (with_reducible exact impl_ProperSum.mono _ _)
      | (with_reducible exact impl_SourcesOf.mono _ _)
      | (with_reducible exact impl_ThabitPair.mono _ _)
      | (with_reducible exact laws_qSame.mono _ _ _)
      | (with_reducible exact laws_qSameRows.mono _ _ _)
      | (with_reducible exact spec_EvenPerfect.mono _ _)
      | (with_reducible exact spec_NoSources.mono _ _)
      | (with_reducible exact spec_PairsUpTo.mono _ _)
      | (with_reducible exact spec_SourcesOf.mono _ _)
      | (with_reducible exact spec_ThabitPair.mono _ _)
      | (with_reducible exact LeO.refl _)
      | (with_reducible exact LeO.none _)
      | (with_reducible refine LeO.ite ?_ ?_)
      | (with_reducible refine LeO.bind ?_ (fun _ => ?_))
      | exact ih0 _ _ _ _
      | exact ih1 _ _ _ _ _ _
      | exact ih2 _ _ _ _ _ _ _ _
      | exact ih3 _ _ _ _ _
      | exact ih4 _ _
      | exact ih5 _ _ _ _ _ _ _
      | exact ih6 _ _ _ _ _ _ _ _ _
      | exact ih7 _ _ _ _
      | exact ih8 _ _ _ _ _ _
      | exact impl_EvenPerfect.mono _ _
      | exact impl_KindOfNumber.mono _ _
      | exact impl_NoSources.mono _ _
      | exact impl_PairsUpTo.mono _ _
      | exact impl_PartnerOf.mono _ _
      | exact impl_ProperSum.mono _ _
      | exact impl_SourcesOf.mono _ _
      | exact impl_ThabitPair.mono _ _
      | exact laws_qSame.mono _ _ _
      | exact laws_qSameRows.mono _ _ _
      | exact spec_EvenPerfect.mono _ _
      | exact spec_NoSources.mono _ _
      | exact spec_PairsUpTo.mono _ _
      | exact spec_SourcesOf.mono _ _
      | exact spec_ThabitPair.mono _ _
      | exact LeO.none _
      | refine LeO.ite ?_ ?_
      | refine LeO.bind ?_ (fun _ => ?_)
    · intro y0 y1 y2 y3 y4 y5 y6 y7 y8
      unfold laws_FnPairsAndPerfect.l1
      repeat' first
      | (with_reducible exact ih0 _ _ _ _)
      | (with_reducible exact ih1 _ _ _ _ _ _)
      | (with_reducible exact ih2 _ _ _ _ _ _ _ _)
      | (with_reducible exact ih3 _ _ _ _ _)
      | (with_reducible exact ih4 _ _)
      | (with_reducible exact ih5 _ _ _ _ _ _ _)
      | (with_reducible exact ih6 _ _ _ _ _ _ _ _ _)
      | (with_reducible exact ih7 _ _ _ _)
      | (with_reducible exact ih8 _ _ _ _ _ _)
      | (with_reducible exact impl_EvenPerfect.mono _ _)
      | (with_reducible exact impl_KindOfNumber.mono _ _)
      | (with_reducible exact impl_NoSources.mono _ _)
      | (with_reducible exact impl_PairsUpTo.mono _ _)
      | (with_reducible exact impl_PartnerOf.mono _ _)
      | (with_reducible exact impl_ProperSum.mono _ _)
      | (with_reducible exact impl_SourcesOf.mono _ _)
      | (with_reducible exact impl_ThabitPair.mono _ _)
      | (with_reducible exact laws_qSame.mono _ _ _)
      | (with_reducible exact laws_qSameRows.mono _ _ _)
      | (with_reducible exact spec_EvenPerfect.mono _ _)
      | (with_reducible exact spec_NoSources.mono _ _)
      | (with_reducible exact spec_PairsUpTo.mono _ _)
      | (with_reducible exact spec_SourcesOf.mono _ _)
      | (with_reducible exact spec_ThabitPair.mono _ _)
      | (with_reducible exact LeO.refl _)
      | (with_reducible exact LeO.none _)
      | (with_reducible refine LeO.ite ?_ ?_)
      | (with_reducible refine LeO.bind ?_ (fun _ => ?_))
      | exact ih0 _ _ _ _
      | exact ih1 _ _ _ _ _ _
      | exact ih2 _ _ _ _ _ _ _ _
      | exact ih3 _ _ _ _ _
      | exact ih4 _ _
      | exact ih5 _ _ _ _ _ _ _
      | exact ih6 _ _ _ _ _ _ _ _ _
      | exact ih7 _ _ _ _
      | exact ih8 _ _ _ _ _ _
      | exact impl_EvenPerfect.mono _ _
      | exact impl_KindOfNumber.mono _ _
      | exact impl_NoSources.mono _ _
      | exact impl_PairsUpTo.mono _ _
      | exact impl_PartnerOf.mono _ _
      | exact impl_ProperSum.mono _ _
      | exact impl_SourcesOf.mono _ _
      | exact impl_ThabitPair.mono _ _
      | exact laws_qSame.mono _ _ _
      | exact laws_qSameRows.mono _ _ _
      | exact spec_EvenPerfect.mono _ _
      | exact spec_NoSources.mono _ _
      | exact spec_PairsUpTo.mono _ _
      | exact spec_SourcesOf.mono _ _
      | exact spec_ThabitPair.mono _ _
      | exact LeO.none _
      | refine LeO.ite ?_ ?_
      | refine LeO.bind ?_ (fun _ => ?_)
    · intro y0 y1 y2 y3
      unfold laws_FnPairsAndPerfect.j7
      repeat' first
      | (with_reducible exact ih0 _ _ _ _)
      | (with_reducible exact ih1 _ _ _ _ _ _)
      | (with_reducible exact ih2 _ _ _ _ _ _ _ _)
      | (with_reducible exact ih3 _ _ _ _ _)
      | (with_reducible exact ih4 _ _)
      | (with_reducible exact ih5 _ _ _ _ _ _ _)
      | (with_reducible exact ih6 _ _ _ _ _ _ _ _ _)
      | (with_reducible exact ih7 _ _ _ _)
      | (with_reducible exact ih8 _ _ _ _ _ _)
      | (with_reducible exact impl_EvenPerfect.mono _ _)
      | (with_reducible exact impl_KindOfNumber.mono _ _)
      | (with_reducible exact impl_NoSources.mono _ _)
      | (with_reducible exact impl_PairsUpTo.mono _ _)
      | (with_reducible exact impl_PartnerOf.mono _ _)
      | (with_reducible exact impl_ProperSum.mono _ _)
      | (with_reducible exact impl_SourcesOf.mono _ _)
      | (with_reducible exact impl_ThabitPair.mono _ _)
      | (with_reducible exact laws_qSame.mono _ _ _)
      | (with_reducible exact laws_qSameRows.mono _ _ _)
      | (with_reducible exact spec_EvenPerfect.mono _ _)
      | (with_reducible exact spec_NoSources.mono _ _)
      | (with_reducible exact spec_PairsUpTo.mono _ _)
      | (with_reducible exact spec_SourcesOf.mono _ _)
      | (with_reducible exact spec_ThabitPair.mono _ _)
      | (with_reducible exact LeO.refl _)
      | (with_reducible exact LeO.none _)
      | (with_reducible refine LeO.ite ?_ ?_)
      | (with_reducible refine LeO.bind ?_ (fun _ => ?_))
      | exact ih0 _ _ _ _
      | exact ih1 _ _ _ _ _ _
      | exact ih2 _ _ _ _ _ _ _ _
      | exact ih3 _ _ _ _ _
      | exact ih4 _ _
      | exact ih5 _ _ _ _ _ _ _
      | exact ih6 _ _ _ _ _ _ _ _ _
      | exact ih7 _ _ _ _
      | exact ih8 _ _ _ _ _ _
      | exact impl_EvenPerfect.mono _ _
      | exact impl_KindOfNumber.mono _ _
      | exact impl_NoSources.mono _ _
      | exact impl_PairsUpTo.mono _ _
      | exact impl_PartnerOf.mono _ _
      | exact impl_ProperSum.mono _ _
      | exact impl_SourcesOf.mono _ _
      | exact impl_ThabitPair.mono _ _
      | exact laws_qSame.mono _ _ _
      | exact laws_qSameRows.mono _ _ _
      | exact spec_EvenPerfect.mono _ _
      | exact spec_NoSources.mono _ _
      | exact spec_PairsUpTo.mono _ _
      | exact spec_SourcesOf.mono _ _
      | exact spec_ThabitPair.mono _ _
      | exact LeO.none _
      | refine LeO.ite ?_ ?_
      | refine LeO.bind ?_ (fun _ => ?_)
    · intro y0 y1 y2 y3 y4 y5
      unfold laws_FnPairsAndPerfect.l2
      repeat' first
      | (with_reducible exact ih0 _ _ _ _)
      | (with_reducible exact ih1 _ _ _ _ _ _)
      | (with_reducible exact ih2 _ _ _ _ _ _ _ _)
      | (with_reducible exact ih3 _ _ _ _ _)
      | (with_reducible exact ih4 _ _)
      | (with_reducible exact ih5 _ _ _ _ _ _ _)
      | (with_reducible exact ih6 _ _ _ _ _ _ _ _ _)
      | (with_reducible exact ih7 _ _ _ _)
      | (with_reducible exact ih8 _ _ _ _ _ _)
      | (with_reducible exact impl_EvenPerfect.mono _ _)
      | (with_reducible exact impl_KindOfNumber.mono _ _)
      | (with_reducible exact impl_NoSources.mono _ _)
      | (with_reducible exact impl_PairsUpTo.mono _ _)
      | (with_reducible exact impl_PartnerOf.mono _ _)
      | (with_reducible exact impl_ProperSum.mono _ _)
      | (with_reducible exact impl_SourcesOf.mono _ _)
      | (with_reducible exact impl_ThabitPair.mono _ _)
      | (with_reducible exact laws_qSame.mono _ _ _)
      | (with_reducible exact laws_qSameRows.mono _ _ _)
      | (with_reducible exact spec_EvenPerfect.mono _ _)
      | (with_reducible exact spec_NoSources.mono _ _)
      | (with_reducible exact spec_PairsUpTo.mono _ _)
      | (with_reducible exact spec_SourcesOf.mono _ _)
      | (with_reducible exact spec_ThabitPair.mono _ _)
      | (with_reducible exact LeO.refl _)
      | (with_reducible exact LeO.none _)
      | (with_reducible refine LeO.ite ?_ ?_)
      | (with_reducible refine LeO.bind ?_ (fun _ => ?_))
      | exact ih0 _ _ _ _
      | exact ih1 _ _ _ _ _ _
      | exact ih2 _ _ _ _ _ _ _ _
      | exact ih3 _ _ _ _ _
      | exact ih4 _ _
      | exact ih5 _ _ _ _ _ _ _
      | exact ih6 _ _ _ _ _ _ _ _ _
      | exact ih7 _ _ _ _
      | exact ih8 _ _ _ _ _ _
      | exact impl_EvenPerfect.mono _ _
      | exact impl_KindOfNumber.mono _ _
      | exact impl_NoSources.mono _ _
      | exact impl_PairsUpTo.mono _ _
      | exact impl_PartnerOf.mono _ _
      | exact impl_ProperSum.mono _ _
      | exact impl_SourcesOf.mono _ _
      | exact impl_ThabitPair.mono _ _
      | exact laws_qSame.mono _ _ _
      | exact laws_qSameRows.mono _ _ _
      | exact spec_EvenPerfect.mono _ _
      | exact spec_NoSources.mono _ _
      | exact spec_PairsUpTo.mono _ _
      | exact spec_SourcesOf.mono _ _
      | exact spec_ThabitPair.mono _ _
      | exact LeO.none _
      | refine LeO.ite ?_ ?_
      | refine LeO.bind ?_ (fun _ => ?_)
theorem laws_FnPairsAndPerfect.mono : ∀ a0 a1 k, LeO (laws_FnPairsAndPerfect.f k a0 a1) (laws_FnPairsAndPerfect.f (k + 1) a0 a1) := by
  intro a0 a1 k
  obtain ⟨ih0, ih1, ih2, ih3, ih4, ih5, ih6, ih7, ih8⟩ := laws_FnPairsAndPerfect.mono_l k
  unfold laws_FnPairsAndPerfect.f
  repeat' first
      | (with_reducible exact ih0 _ _ _ _)
      | (with_reducible exact ih1 _ _ _ _ _ _)
      | (with_reducible exact ih2 _ _ _ _ _ _ _ _)
      | (with_reducible exact ih3 _ _ _ _ _)
      | (with_reducible exact ih4 _ _)
      | (with_reducible exact ih5 _ _ _ _ _ _ _)
      | (with_reducible exact ih6 _ _ _ _ _ _ _ _ _)
      | (with_reducible exact ih7 _ _ _ _)
      | (with_reducible exact ih8 _ _ _ _ _ _)
      | (with_reducible exact impl_EvenPerfect.mono _ _)
      | (with_reducible exact impl_KindOfNumber.mono _ _)
      | (with_reducible exact impl_NoSources.mono _ _)
      | (with_reducible exact impl_PairsUpTo.mono _ _)
      | (with_reducible exact impl_PartnerOf.mono _ _)
      | (with_reducible exact impl_ProperSum.mono _ _)
      | (with_reducible exact impl_SourcesOf.mono _ _)
      | (with_reducible exact impl_ThabitPair.mono _ _)
      | (with_reducible exact laws_qSame.mono _ _ _)
      | (with_reducible exact laws_qSameRows.mono _ _ _)
      | (with_reducible exact spec_EvenPerfect.mono _ _)
      | (with_reducible exact spec_NoSources.mono _ _)
      | (with_reducible exact spec_PairsUpTo.mono _ _)
      | (with_reducible exact spec_SourcesOf.mono _ _)
      | (with_reducible exact spec_ThabitPair.mono _ _)
      | (with_reducible exact LeO.refl _)
      | (with_reducible exact LeO.none _)
      | (with_reducible refine LeO.ite ?_ ?_)
      | (with_reducible refine LeO.bind ?_ (fun _ => ?_))
      | exact ih0 _ _ _ _
      | exact ih1 _ _ _ _ _ _
      | exact ih2 _ _ _ _ _ _ _ _
      | exact ih3 _ _ _ _ _
      | exact ih4 _ _
      | exact ih5 _ _ _ _ _ _ _
      | exact ih6 _ _ _ _ _ _ _ _ _
      | exact ih7 _ _ _ _
      | exact ih8 _ _ _ _ _ _
      | exact impl_EvenPerfect.mono _ _
      | exact impl_KindOfNumber.mono _ _
      | exact impl_NoSources.mono _ _
      | exact impl_PairsUpTo.mono _ _
      | exact impl_PartnerOf.mono _ _
      | exact impl_ProperSum.mono _ _
      | exact impl_SourcesOf.mono _ _
      | exact impl_ThabitPair.mono _ _
      | exact laws_qSame.mono _ _ _
      | exact laws_qSameRows.mono _ _ _
      | exact spec_EvenPerfect.mono _ _
      | exact spec_NoSources.mono _ _
      | exact spec_PairsUpTo.mono _ _
      | exact spec_SourcesOf.mono _ _
      | exact spec_ThabitPair.mono _ _
      | exact LeO.none _
      | refine LeO.ite ?_ ?_
      | refine LeO.bind ?_ (fun _ => ?_)
theorem laws_FnPairsAndPerfect.j0_no {r : Bool} (hr : r = true) (k : Nat) (x0 : List Int) (x1 : List Int) (x6 : List (List Int)) (h : laws_FnPairsAndPerfect.j0 k x0 x1 x6 true = some r) : False := by
  subst hr
  cases k with
  | zero => simp [laws_FnPairsAndPerfect.j0] at h
  | succ k => simp [laws_FnPairsAndPerfect.j0] at h
theorem laws_FnPairsAndPerfect.j2_no {r : Bool} (hr : r = true) (k : Nat) (x0 : List Int) (x1 : List Int) (x15 : Int) (x16 : Bool) (x20 : Int) (x21 : Int) (x22 : Bool) (h : laws_FnPairsAndPerfect.j2 k x0 x1 x15 x16 x20 x21 x22 true = some r) : False := by
  subst hr
  cases k with
  | zero => simp [laws_FnPairsAndPerfect.j2] at h
  | succ k => simp [laws_FnPairsAndPerfect.j2] at h
theorem laws_FnPairsAndPerfect.j5_no {r : Bool} (hr : r = true) (k : Nat) (x30 : Int) (x31 : List Int) (x32 : Bool) (x35 : Int) (x36 : List Int) (x37 : Bool) (h : laws_FnPairsAndPerfect.j5 k x30 x31 x32 x35 x36 x37 true = some r) : False := by
  subst hr
  cases k with
  | zero => simp [laws_FnPairsAndPerfect.j5] at h
  | succ k => simp [laws_FnPairsAndPerfect.j5] at h
set_option maxHeartbeats 8000000 in
set_option maxRecDepth 100000 in
theorem laws_FnPairsAndPerfect.calls (k : Nat) (A0 : Option Addr) (c0 : Nat) (l0 : List Int) (A1 : Option Addr) (c1 : Nat) (l1 : List Int) (r : Bool) (w : World) (hr0 : Kd.C (Kd.int .u8) w A0 l0.length l0) (hc0 : l0.length ≤ c0) (hr1 : Kd.C (Kd.int .u8) w A1 l1.length l1) (hc1 : l1.length ≤ c1) (h : laws_FnPairsAndPerfect.f k l0 l1 = some r) (hr_ : r = true) :
    Calls Try.prog 3 #[.slice A0 l0.length c0, .slice A1 l1.length c1] w fun e w' => e = .returned (.bool r) ∧ Below w.heap.size w w' := by
  have HR0 := Aside0.mk hr0
  have HC0 := Aside0.mk hc0
  clear hr0 hc0
  have HR1 := Aside0.mk hr1
  have HC1 := Aside0.mk hc1
  clear hr1 hc1
  have HB := Aside0.mk (Below.refl w.heap.size w)
  have H : ((laws_big.f l0 l1).bind fun t298 => (if t298 = true then (some true) else ((spec_DrawPairsUpTo.f l0).bind fun t299 => ((impl_PairsUpTo.f k t299).bind fun bt300 => ((spec_PairsUpTo.f k t299).bind fun bt304 => (if (bt300.2 != bt304.2) = true then (laws_FnPairsAndPerfect.j0 k l0 l1 bt300.1 true) else ((laws_qSameRows.f k bt300.1 bt304.1).bind fun t308 => (laws_FnPairsAndPerfect.j0 k l0 l1 bt300.1 (!t308))))))))) = some r := h
  clear h
  have HR_ := Aside0.mk hr_
  clear hr_
  replace H := Option.bind_eq_some_iff.mp H
  obtain ⟨t298, A30, H⟩ := H
  replace H : (if t298 = true then (some true) else ((spec_DrawPairsUpTo.f l0).bind fun t299 => ((impl_PairsUpTo.f k t299).bind fun bt300 => ((spec_PairsUpTo.f k t299).bind fun bt304 => (if (bt300.2 != bt304.2) = true then (laws_FnPairsAndPerfect.j0 k l0 l1 bt300.1 true) else ((laws_qSameRows.f k bt300.1 bt304.1).bind fun t308 => (laws_FnPairsAndPerfect.j0 k l0 l1 bt300.1 (!t308)))))))) = some r := H
  have A3 := Aside0.mk A30
  clear A30
  by_cases c4 : t298 = true
  · subst c4
    have H1 : (some true) = some r := by rw [if_pos rfl] at H; exact H
    clear H
    have H := H1
    clear H1
    as_aux_lemma =>
      obtain rfl := Option.some.inj H
      go_enter Try.func3, Try.ntmps3
      go_wp2_with (first | (go_at_call 15; (with_reducible refine (laws_big.calls _ _ l0 _ _ l1 true _ ?side1 ?side2 ?side3 ?side4 A3.out).mono ?_); (case side1 => repeat (first | exact HR0.out | (with_reducible refine Kd.C_alloc ?_ _) | (with_reducible refine Kd.C_drewN ?_ _) | (with_reducible refine Kd.C_drew ?_))); (case side2 => exact HC0.out); (case side3 => repeat (first | exact HR1.out | (with_reducible refine Kd.C_alloc ?_ _) | (with_reducible refine Kd.C_drewN ?_ _) | (with_reducible refine Kd.C_drew ?_))); (case side4 => exact HC1.out); rintro e w' ⟨rfl, ⟨nd, rfl⟩⟩; (try first | exact ⟨rfl, _, World.drewN_drewN _ _ _⟩ | exact ⟨rfl, _, Eq.trans (World.drewN_drewN _ _ _) (congrArg (World.drewN _) (Nat.add_assoc _ _ _))⟩)))
      repeat (go_quiet (first | (go_at_call 15; (with_reducible refine (laws_big.calls _ _ l0 _ _ l1 true _ ?side1 ?side2 ?side3 ?side4 A3.out).mono ?_); (case side1 => repeat (first | exact HR0.out | (with_reducible refine Kd.C_alloc ?_ _) | (with_reducible refine Kd.C_drewN ?_ _) | (with_reducible refine Kd.C_drew ?_))); (case side2 => exact HC0.out); (case side3 => repeat (first | exact HR1.out | (with_reducible refine Kd.C_alloc ?_ _) | (with_reducible refine Kd.C_drewN ?_ _) | (with_reducible refine Kd.C_drew ?_))); (case side4 => exact HC1.out); rintro e w' ⟨rfl, ⟨nd, rfl⟩⟩; (try first | exact ⟨rfl, _, World.drewN_drewN _ _ _⟩ | exact ⟨rfl, _, Eq.trans (World.drewN_drewN _ _ _) (congrArg (World.drewN _) (Nat.add_assoc _ _ _))⟩))); try go_wp2_with (first | (go_at_call 15; (with_reducible refine (laws_big.calls _ _ l0 _ _ l1 true _ ?side1 ?side2 ?side3 ?side4 A3.out).mono ?_); (case side1 => repeat (first | exact HR0.out | (with_reducible refine Kd.C_alloc ?_ _) | (with_reducible refine Kd.C_drewN ?_ _) | (with_reducible refine Kd.C_drew ?_))); (case side2 => exact HC0.out); (case side3 => repeat (first | exact HR1.out | (with_reducible refine Kd.C_alloc ?_ _) | (with_reducible refine Kd.C_drewN ?_ _) | (with_reducible refine Kd.C_drew ?_))); (case side4 => exact HC1.out); rintro e w' ⟨rfl, ⟨nd, rfl⟩⟩; (try first | exact ⟨rfl, _, World.drewN_drewN _ _ _⟩ | exact ⟨rfl, _, Eq.trans (World.drewN_drewN _ _ _) (congrArg (World.drewN _) (Nat.add_assoc _ _ _))⟩))))
      go_ret
      exact ⟨by first | rfl | (simp [errW_none, errW_some] <;> rfl) | (simp [*, errW_none, errW_some] <;> rfl), by repeat (first | (with_reducible first | exact HB.out | apply below_alloc | apply pw_below_drewN | apply below_drew1) | exact HB.out)⟩
  · replace c4 := Bool.eq_false_iff.mpr c4
    subst c4
    have H1 : ((spec_DrawPairsUpTo.f l0).bind fun t299 => ((impl_PairsUpTo.f k t299).bind fun bt300 => ((spec_PairsUpTo.f k t299).bind fun bt304 => (if (bt300.2 != bt304.2) = true then (laws_FnPairsAndPerfect.j0 k l0 l1 bt300.1 true) else ((laws_qSameRows.f k bt300.1 bt304.1).bind fun t308 => (laws_FnPairsAndPerfect.j0 k l0 l1 bt300.1 (!t308))))))) = some r := by rw [if_neg (show ¬ (false = true) by decide)] at H; exact H
    clear H
    have H := H1
    clear H1
    replace H := Option.bind_eq_some_iff.mp H
    obtain ⟨t299, A50, H⟩ := H
    replace H : ((impl_PairsUpTo.f k t299).bind fun bt300 => ((spec_PairsUpTo.f k t299).bind fun bt304 => (if (bt300.2 != bt304.2) = true then (laws_FnPairsAndPerfect.j0 k l0 l1 bt300.1 true) else ((laws_qSameRows.f k bt300.1 bt304.1).bind fun t308 => (laws_FnPairsAndPerfect.j0 k l0 l1 bt300.1 (!t308)))))) = some r := H
    have A5 := Aside0.mk A50
    clear A50
    replace H := Option.bind_eq_some_iff.mp H
    obtain ⟨⟨t300, t301⟩, A60, H⟩ := H
    replace H : ((spec_PairsUpTo.f k t299).bind fun bt304 => (if (t301 != bt304.2) = true then (laws_FnPairsAndPerfect.j0 k l0 l1 t300 true) else ((laws_qSameRows.f k t300 bt304.1).bind fun t308 => (laws_FnPairsAndPerfect.j0 k l0 l1 t300 (!t308))))) = some r := H
    have A6 := Aside0.mk A60
    clear A60
    replace H := Option.bind_eq_some_iff.mp H
    obtain ⟨⟨t304, t305⟩, A70, H⟩ := H
    replace H : (if (t301 != t305) = true then (laws_FnPairsAndPerfect.j0 k l0 l1 t300 true) else ((laws_qSameRows.f k t300 t304).bind fun t308 => (laws_FnPairsAndPerfect.j0 k l0 l1 t300 (!t308)))) = some r := H
    have A7 := Aside0.mk A70
    clear A70
    have HC8 := Aside0.mk H
    clear H
    go_enter Try.func3, Try.ntmps3
    go_upto_region 6 with (first | (go_at_call 15; (with_reducible refine (laws_big.calls _ _ l0 _ _ l1 false _ ?side1 ?side2 ?side3 ?side4 A3.out).mono ?_); (case side1 => repeat (first | exact HR0.out | (with_reducible refine Kd.C_alloc ?_ _) | (with_reducible refine Kd.C_drewN ?_ _) | (with_reducible refine Kd.C_drew ?_))); (case side2 => exact HC0.out); (case side3 => repeat (first | exact HR1.out | (with_reducible refine Kd.C_alloc ?_ _) | (with_reducible refine Kd.C_drewN ?_ _) | (with_reducible refine Kd.C_drew ?_))); (case side4 => exact HC1.out); rintro e w' ⟨rfl, ⟨nd, rfl⟩⟩; (try first | exact ⟨rfl, _, World.drewN_drewN _ _ _⟩ | exact ⟨rfl, _, Eq.trans (World.drewN_drewN _ _ _) (congrArg (World.drewN _) (Nat.add_assoc _ _ _))⟩)) | (go_at_call 16; (with_reducible refine (spec_DrawPairsUpTo.calls _ _ l0 t299 _ ?side1 ?side2 A5.out).mono ?_); (case side1 => repeat (first | exact HR0.out | (with_reducible refine Kd.C_alloc ?_ _) | (with_reducible refine Kd.C_drewN ?_ _) | (with_reducible refine Kd.C_drew ?_))); (case side2 => exact HC0.out); rintro e w9 ⟨rfl, hb⟩; have n0_ := Aside0.mk (below_step (by repeat (first | (with_reducible first | exact HB.out | apply below_alloc | apply pw_below_drewN | apply below_drew1) | exact HB.out)) hb); clear HB; have HB := n0_; clear n0_; (try clear hb); (try clear hb2); (try clear hk); (try clear hi)) | (go_at_call 17; (with_reducible refine (impl_PairsUpTo.calls k t299 t300 t301 _ A6.out).mono ?_); rintro e w10 ⟨v302, rfl, ho0, hb⟩; have n0_ := Aside0.mk (Kd.S_lower ho0 (below_size (by repeat (first | (with_reducible first | exact HB.out | apply below_alloc | apply pw_below_drewN | apply below_drew1) | exact HB.out)))); have n1_ := Aside0.mk (below_step (by repeat (first | (with_reducible first | exact HB.out | apply below_alloc | apply pw_below_drewN | apply below_drew1) | exact HB.out)) hb); clear HB; have HO303 := n0_; have HB := n1_; clear n0_ n1_; (try clear hb); (try clear hb2); (try clear hk); (try clear hi); (try clear ho0)) | (go_at_call 18; (with_reducible refine (spec_PairsUpTo.calls k t299 t304 t305 _ A7.out).mono ?_); rintro e w11 ⟨v306, rfl, ho0, hb⟩; have n0_ := Aside0.mk (Kd.S_elder' (by (with_reducible repeat (first | apply Kd.S_alloc | apply Kd.S_drewN | apply Kd.S_drew)); exact HO303.out) (Kd.S_base ho0) hb); have n1_ := Aside0.mk (Kd.S_lower (Kd.S_new' ho0 (Kd.S_lt (by (with_reducible repeat (first | apply Kd.S_alloc | apply Kd.S_drewN | apply Kd.S_drew)); exact HO303.out))) (below_size (by repeat (first | (with_reducible first | exact HB.out | apply below_alloc | apply pw_below_drewN | apply below_drew1) | exact HB.out)))); have n2_ := Aside0.mk (below_step (by repeat (first | (with_reducible first | exact HB.out | apply below_alloc | apply pw_below_drewN | apply below_drew1) | exact HB.out)) hb); clear HO303; clear HB; have HO303 := n0_; have HO307 := n1_; have HB := n2_; clear n0_ n1_ n2_; (try clear hb); (try clear hb2); (try clear hk); (try clear hi); (try clear ho0)))
    repeat (go_quiet (first | (go_at_call 15; (with_reducible refine (laws_big.calls _ _ l0 _ _ l1 false _ ?side1 ?side2 ?side3 ?side4 A3.out).mono ?_); (case side1 => repeat (first | exact HR0.out | (with_reducible refine Kd.C_alloc ?_ _) | (with_reducible refine Kd.C_drewN ?_ _) | (with_reducible refine Kd.C_drew ?_))); (case side2 => exact HC0.out); (case side3 => repeat (first | exact HR1.out | (with_reducible refine Kd.C_alloc ?_ _) | (with_reducible refine Kd.C_drewN ?_ _) | (with_reducible refine Kd.C_drew ?_))); (case side4 => exact HC1.out); rintro e w' ⟨rfl, ⟨nd, rfl⟩⟩; (try first | exact ⟨rfl, _, World.drewN_drewN _ _ _⟩ | exact ⟨rfl, _, Eq.trans (World.drewN_drewN _ _ _) (congrArg (World.drewN _) (Nat.add_assoc _ _ _))⟩)) | (go_at_call 16; (with_reducible refine (spec_DrawPairsUpTo.calls _ _ l0 t299 _ ?side1 ?side2 A5.out).mono ?_); (case side1 => repeat (first | exact HR0.out | (with_reducible refine Kd.C_alloc ?_ _) | (with_reducible refine Kd.C_drewN ?_ _) | (with_reducible refine Kd.C_drew ?_))); (case side2 => exact HC0.out); rintro e w9 ⟨rfl, hb⟩; have n0_ := Aside0.mk (below_step (by repeat (first | (with_reducible first | exact HB.out | apply below_alloc | apply pw_below_drewN | apply below_drew1) | exact HB.out)) hb); clear HB; have HB := n0_; clear n0_; (try clear hb); (try clear hb2); (try clear hk); (try clear hi)) | (go_at_call 17; (with_reducible refine (impl_PairsUpTo.calls k t299 t300 t301 _ A6.out).mono ?_); rintro e w10 ⟨v302, rfl, ho0, hb⟩; have n0_ := Aside0.mk (Kd.S_lower ho0 (below_size (by repeat (first | (with_reducible first | exact HB.out | apply below_alloc | apply pw_below_drewN | apply below_drew1) | exact HB.out)))); have n1_ := Aside0.mk (below_step (by repeat (first | (with_reducible first | exact HB.out | apply below_alloc | apply pw_below_drewN | apply below_drew1) | exact HB.out)) hb); clear HB; have HO303 := n0_; have HB := n1_; clear n0_ n1_; (try clear hb); (try clear hb2); (try clear hk); (try clear hi); (try clear ho0)) | (go_at_call 18; (with_reducible refine (spec_PairsUpTo.calls k t299 t304 t305 _ A7.out).mono ?_); rintro e w11 ⟨v306, rfl, ho0, hb⟩; have n0_ := Aside0.mk (Kd.S_elder' (by (with_reducible repeat (first | apply Kd.S_alloc | apply Kd.S_drewN | apply Kd.S_drew)); exact HO303.out) (Kd.S_base ho0) hb); have n1_ := Aside0.mk (Kd.S_lower (Kd.S_new' ho0 (Kd.S_lt (by (with_reducible repeat (first | apply Kd.S_alloc | apply Kd.S_drewN | apply Kd.S_drew)); exact HO303.out))) (below_size (by repeat (first | (with_reducible first | exact HB.out | apply below_alloc | apply pw_below_drewN | apply below_drew1) | exact HB.out)))); have n2_ := Aside0.mk (below_step (by repeat (first | (with_reducible first | exact HB.out | apply below_alloc | apply pw_below_drewN | apply below_drew1) | exact HB.out)) hb); clear HO303; clear HB; have HO303 := n0_; have HO307 := n1_; have HB := n2_; clear n0_ n1_ n2_; (try clear hb); (try clear hb2); (try clear hk); (try clear hi); (try clear ho0))); go_upto_region 6 with (first | (go_at_call 15; (with_reducible refine (laws_big.calls _ _ l0 _ _ l1 false _ ?side1 ?side2 ?side3 ?side4 A3.out).mono ?_); (case side1 => repeat (first | exact HR0.out | (with_reducible refine Kd.C_alloc ?_ _) | (with_reducible refine Kd.C_drewN ?_ _) | (with_reducible refine Kd.C_drew ?_))); (case side2 => exact HC0.out); (case side3 => repeat (first | exact HR1.out | (with_reducible refine Kd.C_alloc ?_ _) | (with_reducible refine Kd.C_drewN ?_ _) | (with_reducible refine Kd.C_drew ?_))); (case side4 => exact HC1.out); rintro e w' ⟨rfl, ⟨nd, rfl⟩⟩; (try first | exact ⟨rfl, _, World.drewN_drewN _ _ _⟩ | exact ⟨rfl, _, Eq.trans (World.drewN_drewN _ _ _) (congrArg (World.drewN _) (Nat.add_assoc _ _ _))⟩)) | (go_at_call 16; (with_reducible refine (spec_DrawPairsUpTo.calls _ _ l0 t299 _ ?side1 ?side2 A5.out).mono ?_); (case side1 => repeat (first | exact HR0.out | (with_reducible refine Kd.C_alloc ?_ _) | (with_reducible refine Kd.C_drewN ?_ _) | (with_reducible refine Kd.C_drew ?_))); (case side2 => exact HC0.out); rintro e w9 ⟨rfl, hb⟩; have n0_ := Aside0.mk (below_step (by repeat (first | (with_reducible first | exact HB.out | apply below_alloc | apply pw_below_drewN | apply below_drew1) | exact HB.out)) hb); clear HB; have HB := n0_; clear n0_; (try clear hb); (try clear hb2); (try clear hk); (try clear hi)) | (go_at_call 17; (with_reducible refine (impl_PairsUpTo.calls k t299 t300 t301 _ A6.out).mono ?_); rintro e w10 ⟨v302, rfl, ho0, hb⟩; have n0_ := Aside0.mk (Kd.S_lower ho0 (below_size (by repeat (first | (with_reducible first | exact HB.out | apply below_alloc | apply pw_below_drewN | apply below_drew1) | exact HB.out)))); have n1_ := Aside0.mk (below_step (by repeat (first | (with_reducible first | exact HB.out | apply below_alloc | apply pw_below_drewN | apply below_drew1) | exact HB.out)) hb); clear HB; have HO303 := n0_; have HB := n1_; clear n0_ n1_; (try clear hb); (try clear hb2); (try clear hk); (try clear hi); (try clear ho0)) | (go_at_call 18; (with_reducible refine (spec_PairsUpTo.calls k t299 t304 t305 _ A7.out).mono ?_); rintro e w11 ⟨v306, rfl, ho0, hb⟩; have n0_ := Aside0.mk (Kd.S_elder' (by (with_reducible repeat (first | apply Kd.S_alloc | apply Kd.S_drewN | apply Kd.S_drew)); exact HO303.out) (Kd.S_base ho0) hb); have n1_ := Aside0.mk (Kd.S_lower (Kd.S_new' ho0 (Kd.S_lt (by (with_reducible repeat (first | apply Kd.S_alloc | apply Kd.S_drewN | apply Kd.S_drew)); exact HO303.out))) (below_size (by repeat (first | (with_reducible first | exact HB.out | apply below_alloc | apply pw_below_drewN | apply below_drew1) | exact HB.out)))); have n2_ := Aside0.mk (below_step (by repeat (first | (with_reducible first | exact HB.out | apply below_alloc | apply pw_below_drewN | apply below_drew1) | exact HB.out)) hb); clear HO303; clear HB; have HO303 := n0_; have HO307 := n1_; have HB := n2_; clear n0_ n1_ n2_; (try clear hb); (try clear hb2); (try clear hk); (try clear hi); (try clear ho0))))
    (try simp only [Act.put, List.setIfInBounds_toArray, List.set_cons_zero, List.set_cons_succ])
    go_cut [70] (fun v70 wc => ∃ (kq : Nat) (x70_7 : Bool), v70 = .bool x70_7 ∧ Aside0 (laws_FnPairsAndPerfect.j0 kq l0 l1 t300 x70_7 = some r) ∧ Aside0 (kq ≤ k) ∧ Aside0 (Kd.S (Kd.slice 3 (Kd.int .i64)) 29 wc w.heap.size (fun _ => True) v302 t300) ∧ Aside0 (Below w.heap.size w wc))
    case first =>
      have H := HC8.out
      clear HC8
      by_cases c12 : (t301 != t305) = true
      · rw [if_pos c12] at H
        have c12b0 : (t301 != t305) = true := c12
        (try (have c12b1 : decide (t301 = t305) = false := by simpa using c12))
        (try (have c12b2 : (t301 == t305) = false := by simpa using c12))
        (try (have c12b3 : ¬ (t301 = t305) := by simpa using c12))
        clear c12
        (first | rw [c12b0] | (simp only [i64_w, i32_w]; rw [c12b0]) | skip)
        exact (laws_FnPairsAndPerfect.j0_no HR_.out _ _ _ _ H).elim
      · rw [if_neg c12] at H
        have c12b0 : (t301 != t305) = false := by simpa using c12
        (try (have c12b1 : decide (t301 = t305) = true := by simpa using c12))
        (try (have c12b2 : (t301 == t305) = true := by simpa using c12))
        clear c12
        (first | rw [c12b0] | (simp only [i64_w, i32_w]; rw [c12b0]) | skip)
        replace H := Option.bind_eq_some_iff.mp H
        obtain ⟨t308, A130, H⟩ := H
        replace H : (laws_FnPairsAndPerfect.j0 k l0 l1 t300 (!t308)) = some r := H
        have A13 := Aside0.mk A130
        clear A130
        as_aux_lemma =>
          have H' := Aside0.mk H
          clear H
          obtain ⟨Ao14, co14, eo14⟩ := Kd.S_slice HO303.out
          subst eo14
          obtain ⟨Ao15, co15, eo15⟩ := Kd.S_slice HO307.out
          subst eo15
          go_wp2_with (first | (go_at_call 19; (with_reducible refine (laws_qSameRows.calls k _ _ t300 _ _ t304 t308 _ ?side1 ?side2 ?side3 ?side4 A13.out).mono ?_); (case side1 => repeat (first | exact (Kd.S_reads' HO303.out).2.2 | (with_reducible refine Kd.C_alloc ?_ _) | (with_reducible refine Kd.C_drewN ?_ _) | (with_reducible refine Kd.C_drew ?_))); (case side2 => exact (Kd.S_reads' HO303.out).2.1); (case side3 => repeat (first | exact (Kd.S_reads' HO307.out).2.2 | (with_reducible refine Kd.C_alloc ?_ _) | (with_reducible refine Kd.C_drewN ?_ _) | (with_reducible refine Kd.C_drew ?_))); (case side4 => exact (Kd.S_reads' HO307.out).2.1); rintro e w' ⟨rfl, ⟨nd, rfl⟩⟩; (try first | exact ⟨rfl, _, World.drewN_drewN _ _ _⟩ | exact ⟨rfl, _, Eq.trans (World.drewN_drewN _ _ _) (congrArg (World.drewN _) (Nat.add_assoc _ _ _))⟩)))
          repeat (go_quiet (first | (go_at_call 19; (with_reducible refine (laws_qSameRows.calls k _ _ t300 _ _ t304 t308 _ ?side1 ?side2 ?side3 ?side4 A13.out).mono ?_); (case side1 => repeat (first | exact (Kd.S_reads' HO303.out).2.2 | (with_reducible refine Kd.C_alloc ?_ _) | (with_reducible refine Kd.C_drewN ?_ _) | (with_reducible refine Kd.C_drew ?_))); (case side2 => exact (Kd.S_reads' HO303.out).2.1); (case side3 => repeat (first | exact (Kd.S_reads' HO307.out).2.2 | (with_reducible refine Kd.C_alloc ?_ _) | (with_reducible refine Kd.C_drewN ?_ _) | (with_reducible refine Kd.C_drew ?_))); (case side4 => exact (Kd.S_reads' HO307.out).2.1); rintro e w' ⟨rfl, ⟨nd, rfl⟩⟩; (try first | exact ⟨rfl, _, World.drewN_drewN _ _ _⟩ | exact ⟨rfl, _, Eq.trans (World.drewN_drewN _ _ _) (congrArg (World.drewN _) (Nat.add_assoc _ _ _))⟩))); try go_wp2_with (first | (go_at_call 19; (with_reducible refine (laws_qSameRows.calls k _ _ t300 _ _ t304 t308 _ ?side1 ?side2 ?side3 ?side4 A13.out).mono ?_); (case side1 => repeat (first | exact (Kd.S_reads' HO303.out).2.2 | (with_reducible refine Kd.C_alloc ?_ _) | (with_reducible refine Kd.C_drewN ?_ _) | (with_reducible refine Kd.C_drew ?_))); (case side2 => exact (Kd.S_reads' HO303.out).2.1); (case side3 => repeat (first | exact (Kd.S_reads' HO307.out).2.2 | (with_reducible refine Kd.C_alloc ?_ _) | (with_reducible refine Kd.C_drewN ?_ _) | (with_reducible refine Kd.C_drew ?_))); (case side4 => exact (Kd.S_reads' HO307.out).2.1); rintro e w' ⟨rfl, ⟨nd, rfl⟩⟩; (try first | exact ⟨rfl, _, World.drewN_drewN _ _ _⟩ | exact ⟨rfl, _, Eq.trans (World.drewN_drewN _ _ _) (congrArg (World.drewN _) (Nat.add_assoc _ _ _))⟩))))
          go_meet
          case rel => exact ⟨_, (!t308), (by first | rfl | (simp; done) | (simp [*]; done)), H', ⟨by first | omega | exact Nat.le_refl _⟩, ⟨by (with_reducible repeat (first | apply Kd.S_alloc | apply Kd.S_drewN | apply Kd.S_drew)); exact Kd.S_mono HO303.out (fun _ hk => trivial)⟩, ⟨by repeat (first | (with_reducible first | exact HB.out | apply below_alloc | apply pw_below_drewN | apply below_drew1) | exact HB.out)⟩⟩
    case rest =>
      clear HC8
      try clear c1
      try clear p2
      try clear c3
      try clear c4
      try clear c12
      try clear c12b0
      try clear c12b1
      try clear c12b2
      obtain ⟨kq, x70_7, rfl, HA, HJ7, HO_6, HB⟩ := hcut
      cases kq with
      | zero => exact absurd HA.out (by simp [laws_FnPairsAndPerfect.j0])
      | succ kj7 =>
        have H := HA.out
        clear HA
        simp only [laws_FnPairsAndPerfect.j0] at H
        by_cases c16 : x70_7 = true
        · subst c16
          have H1 : (some false) = some r := by rw [if_pos rfl] at H; exact H
          clear H
          have H := H1
          clear H1
          exact absurd (Option.some.inj H) (by rw [HR_.out]; decide)
        · replace c16 := Bool.eq_false_iff.mpr c16
          subst c16
          have H1 : (laws_FnPairsAndPerfect.l0 kj7 l0 l1 t300 t300 (t300.length : Int) 0) = some r := by rw [if_neg (show ¬ (false = true) by decide)] at H; exact H
          clear H
          have H := H1
          clear H1
          have H' := Aside0.mk H
          clear H
          obtain ⟨Ao17, co17, eo17⟩ := Kd.S_slice HO_6.out
          subst eo17
          go_wp2
          repeat (go_quiet (fail); try go_wp2)
          go_loopg [73] kj7 (fun kq v73 w' => ∃ (x73_2 : Int), v73 = .int .i64 x73_2 ∧ Aside0 (laws_FnPairsAndPerfect.l0 kq l0 l1 t300 t300 (t300.length : Int) x73_2 = some r) ∧ Aside0 (kq ≤ kj7) ∧ Aside0 (Kd.S (Kd.slice 3 (Kd.int .i64)) 29 w' w.heap.size (fun _ => True) (.slice Ao17 t300.length co17) t300) ∧ Aside0 (Kd.S (Kd.slice 3 (Kd.int .i64)) 29 w' w.heap.size (fun _ => True) (.slice Ao17 t300.length co17) t300) ∧ Aside0 (Below w.heap.size w w'))
          case atStart => exact ⟨(0), (by first | rfl | (simp; done) | (simp [*]; done)), H', ⟨Nat.le_refl _⟩, ⟨by (with_reducible repeat (first | apply Kd.S_alloc | apply Kd.S_drewN | apply Kd.S_drew)); exact HO_6.out⟩, ⟨by (with_reducible repeat (first | apply Kd.S_alloc | apply Kd.S_drewN | apply Kd.S_drew)); exact HO_6.out⟩, ⟨by repeat (first | (with_reducible first | exact HB.out | apply below_alloc | apply pw_below_drewN | apply below_drew1) | exact HB.out)⟩⟩
          case round =>
            clear H'
            try clear c1
            try clear p2
            try clear c3
            try clear c4
            try clear c12
            try clear c12b0
            try clear c12b1
            try clear c12b2
            try clear c16
            try clear p2
            obtain ⟨x73_2, rfl, HA, HK2, HO_6, HO_71, HB⟩ := hrel
            cases gk with
            | zero => exact absurd HA.out (by simp [laws_FnPairsAndPerfect.l0])
            | succ k2 =>
              have H := HA.out
              clear HA
              simp only [laws_FnPairsAndPerfect.l0] at H
              by_cases c18 : x73_2 < (t300.length : Int)
              · rw [if_pos c18] at H
                have c18b0 : decide (x73_2 < (t300.length : Int)) = true := decide_eq_true c18
                clear c18
                by_cases c19 : 0 ≤ x73_2
                · rw [if_pos c19] at H
                  have c19b0 : decide (0 ≤ x73_2) = true := decide_eq_true c19
                  clear c19
                  by_cases c20 : x73_2 < (t300.length : Int)
                  · rw [if_pos c20] at H
                    have c20b0 : decide (x73_2 < (t300.length : Int)) = true := decide_eq_true c20
                    clear c20
                    by_cases c21 : 0 < ((rd_L2 t300 x73_2).length : Int)
                    · rw [if_pos c21] at H
                      have c21b0 : decide (0 < ((rd_L2 t300 x73_2).length : Int)) = true := decide_eq_true c21
                      have c21b1 : decide (0 < (rd_L2 t300 x73_2).length) = true := decide_eq_true (by omega)
                      clear c21
                      replace H := Option.bind_eq_some_iff.mp H
                      obtain ⟨⟨t311, t312⟩, A220, H⟩ := H
                      replace H : (if t312 = true then (if 1 < ((rd_L2 t300 x73_2).length : Int) then (if t311 = (rd (rd_L2 t300 x73_2) 1) then (if (rd (rd_L2 t300 x73_2) 1) ≤ (rd (rd_L2 t300 x73_2) 0) then (some false) else (if x73_2 > 0 then (if 0 ≤ (wrap64 (x73_2 - 1)) then (if (wrap64 (x73_2 - 1)) < (t300.length : Int) then (if 0 < ((rd_L2 t300 (wrap64 (x73_2 - 1))).length : Int) then (if (rd (rd_L2 t300 (wrap64 (x73_2 - 1))) 0) ≥ (rd (rd_L2 t300 x73_2) 0) then (some false) else (laws_FnPairsAndPerfect.l0 k2 l0 l1 t300 t300 (t300.length : Int) (wrap64 (x73_2 + 1)))) else (none)) else (none)) else (none)) else (laws_FnPairsAndPerfect.l0 k2 l0 l1 t300 t300 (t300.length : Int) (wrap64 (x73_2 + 1))))) else (some false)) else (none)) else (some false)) = some r := H
                      have A22 := Aside0.mk A220
                      clear A220
                      by_cases c23 : t312 = true
                      · subst c23
                        have H1 : (if 1 < ((rd_L2 t300 x73_2).length : Int) then (if t311 = (rd (rd_L2 t300 x73_2) 1) then (if (rd (rd_L2 t300 x73_2) 1) ≤ (rd (rd_L2 t300 x73_2) 0) then (some false) else (if x73_2 > 0 then (if 0 ≤ (wrap64 (x73_2 - 1)) then (if (wrap64 (x73_2 - 1)) < (t300.length : Int) then (if 0 < ((rd_L2 t300 (wrap64 (x73_2 - 1))).length : Int) then (if (rd (rd_L2 t300 (wrap64 (x73_2 - 1))) 0) ≥ (rd (rd_L2 t300 x73_2) 0) then (some false) else (laws_FnPairsAndPerfect.l0 k2 l0 l1 t300 t300 (t300.length : Int) (wrap64 (x73_2 + 1)))) else (none)) else (none)) else (none)) else (laws_FnPairsAndPerfect.l0 k2 l0 l1 t300 t300 (t300.length : Int) (wrap64 (x73_2 + 1))))) else (some false)) else (none)) = some r := by rw [if_pos rfl] at H; exact H
                        clear H
                        have H := H1
                        clear H1
                        by_cases c24 : 1 < ((rd_L2 t300 x73_2).length : Int)
                        · rw [if_pos c24] at H
                          have c24b0 : decide (1 < ((rd_L2 t300 x73_2).length : Int)) = true := decide_eq_true c24
                          have c24b1 : decide (1 < (rd_L2 t300 x73_2).length) = true := decide_eq_true (by omega)
                          clear c24
                          by_cases c25 : t311 = (rd (rd_L2 t300 x73_2) 1)
                          · rw [if_pos c25] at H
                            have c25b0 : (t311 == (rd (rd_L2 t300 x73_2) 1)) = true := beq_iff_eq.mpr c25
                            have c25b1 : (t311 != (rd (rd_L2 t300 x73_2) 1)) = false := bne_eq_false_iff_eq.mpr c25
                            clear c25
                            by_cases c26 : (rd (rd_L2 t300 x73_2) 1) ≤ (rd (rd_L2 t300 x73_2) 0)
                            · rw [if_pos c26] at H
                              have c26b0 : decide ((rd (rd_L2 t300 x73_2) 1) ≤ (rd (rd_L2 t300 x73_2) 0)) = true := decide_eq_true c26
                              clear c26
                              exact absurd (Option.some.inj H) (by rw [HR_.out]; decide)
                            · rw [if_neg c26] at H
                              have c26b0 : decide ((rd (rd_L2 t300 x73_2) 1) ≤ (rd (rd_L2 t300 x73_2) 0)) = false := decide_eq_false c26
                              clear c26
                              by_cases c27 : x73_2 > 0
                              · rw [if_pos c27] at H
                                have c27b0 : decide (0 < x73_2) = true := decide_eq_true c27
                                clear c27
                                obtain ⟨ji28, hji28⟩ : ∃ j_ : Int, (wrap64 (x73_2 - 1)) = j_ := ⟨_, rfl⟩
                                replace H : (if 0 ≤ (ji28) then (if (ji28) < (t300.length : Int) then (if 0 < ((rd_L2 t300 (ji28)).length : Int) then (if (rd (rd_L2 t300 (ji28)) 0) ≥ (rd (rd_L2 t300 x73_2) 0) then (some false) else (laws_FnPairsAndPerfect.l0 k2 l0 l1 t300 t300 (t300.length : Int) (wrap64 (x73_2 + 1)))) else (none)) else (none)) else (none)) = some r := by first | (rw [hji28] at H; exact H) | (simp only [hji28] at H ⊢; exact H)
                                (try rw [hji28] at A22)
                                have hji28w : (IntKind.i64.wrap (x73_2 - 1)) = ji28 := (i64_w _).trans hji28
                                by_cases c29 : 0 ≤ (ji28)
                                · rw [if_pos c29] at H
                                  have c29b0 : decide (0 ≤ (ji28)) = true := decide_eq_true c29
                                  clear c29
                                  by_cases c30 : (ji28) < (t300.length : Int)
                                  · rw [if_pos c30] at H
                                    have c30b0 : decide ((ji28) < (t300.length : Int)) = true := decide_eq_true c30
                                    clear c30
                                    by_cases c31 : 0 < ((rd_L2 t300 (ji28)).length : Int)
                                    · rw [if_pos c31] at H
                                      have c31b0 : decide (0 < ((rd_L2 t300 (ji28)).length : Int)) = true := decide_eq_true c31
                                      have c31b1 : decide (0 < (rd_L2 t300 (ji28)).length) = true := decide_eq_true (by omega)
                                      clear c31
                                      by_cases c32 : (rd (rd_L2 t300 (ji28)) 0) ≥ (rd (rd_L2 t300 x73_2) 0)
                                      · rw [if_pos c32] at H
                                        have c32b0 : decide ((rd (rd_L2 t300 x73_2) 0) ≤ (rd (rd_L2 t300 (ji28)) 0)) = true := decide_eq_true c32
                                        clear c32
                                        exact absurd (Option.some.inj H) (by rw [HR_.out]; decide)
                                      · rw [if_neg c32] at H
                                        have c32b0 : decide ((rd (rd_L2 t300 x73_2) 0) ≤ (rd (rd_L2 t300 (ji28)) 0)) = false := decide_eq_false c32
                                        clear c32
                                        as_aux_lemma =>
                                          have H' := Aside0.mk H
                                          clear H
                                          have p309 : 0 ≤ (x73_2 : Int) := of_decide_eq_true (by first | (with_reducible assumption) | assumption)
                                          have q309 : x73_2 < (t300.length : Int) := of_decide_eq_true (by first | (with_reducible assumption) | assumption)
                                          obtain ⟨ad309, A309_0, c309_0, e309, hx309_0, hl309_0, hi309_0⟩ := at_L2 (Kd.S_reads' HO_71.out).2.2 x73_2 p309 q309
                                          cases e309
                                          obtain ⟨ce309, hce309, hMe309, hcc309⟩ := Kd.S_get HO_71.out [] x73_2 p309 (by first | exact q309 | exact of_decide_eq_true (by first | (with_reducible assumption) | assumption) | (have e_ := (Kd.S_reads' HO_71.out).1; omega))
                                          obtain ⟨ve309_0, rfl, ge309_0⟩ := hMe309
                                          have hv309_0 := hcc309 0 _ rfl
                                          rw [Nat.add_zero, show ((Kd.slice 3 (Kd.int .i64))).sz = 1 from rfl, Nat.mul_one] at hv309_0
                                          replace hv309_0 := Option.some.inj (hv309_0.symm.trans hx309_0)
                                          rw [hv309_0] at ge309_0
                                          have HL309_0 := Aside0.mk (show Kd.R (Kd.int .i64) 3 _ _ _ _ (rd_L2 t300 x73_2) from ge309_0)
                                          clear hv309_0 ge309_0
                                          clear hcc309 hce309
                                          have HR309_0 := Aside0.mk hi309_0
                                          have HC309_0 := Aside0.mk hl309_0
                                          clear hi309_0 hl309_0
                                          replace p309 := eq_true p309
                                          replace q309 := eq_true q309
                                          have p310 : 0 ≤ (0 : Int) := (by omega)
                                          have q310 : 0 < ((rd_L2 t300 x73_2).length : Int) := of_decide_eq_true (by first | (with_reducible assumption) | assumption)
                                          obtain ⟨ad310, e310, hx310_0⟩ := Kd.at_int (by repeat (first | (with_reducible exact HR309_0.out) | (with_reducible refine Kd.C_alloc ?_ _) | (with_reducible refine Kd.C_drewN ?_ _) | (with_reducible refine Kd.C_drew ?_) | exact HR309_0.out)) 0 p310 q310
                                          cases e310
                                          have qi310 : (0 < (rd_L2 t300 x73_2).length) = True := eq_true (by omega)
                                          (try rw [show ((0 : Int)).toNat = 0 from rfl] at hx310_0)
                                          (try rw [Addr.add_zero'] at hx310_0)
                                          replace p310 := eq_true p310
                                          replace q310 := eq_true q310
                                          go_wp2_with (first | (go_at_call 20; (with_reducible refine (impl_PartnerOf.calls k2 (rd (rd_L2 t300 x73_2) 0) t311 true _ A22.out).mono ?_); rintro e w33 ⟨rfl, hb⟩; have n0_ := Aside0.mk (Kd.S_below (by (with_reducible repeat (first | apply Kd.S_alloc | apply Kd.S_drewN | apply Kd.S_drew)); exact HO_6.out) hb); have n1_ := Aside0.mk (Kd.S_below (by (with_reducible repeat (first | apply Kd.S_alloc | apply Kd.S_drewN | apply Kd.S_drew)); exact HO_71.out) hb); have n2_ := Aside0.mk (Kd.R_below (by (with_reducible repeat (first | apply Kd.R_alloc | apply Kd.R_drewN | apply Kd.R_drew)); exact HL309_0.out) hb); have n3_ := Aside0.mk (Kd.C_below (by repeat (first | (with_reducible exact HR309_0.out) | (with_reducible refine Kd.C_alloc ?_ _) | (with_reducible refine Kd.C_drewN ?_ _) | (with_reducible refine Kd.C_drew ?_) | exact HR309_0.out)) hb); have n4_ := Aside0.mk (below_step (by repeat (first | (with_reducible first | exact HB.out | apply below_alloc | apply pw_below_drewN | apply below_drew1) | exact HB.out)) hb); clear HO_6; clear HO_71; clear HL309_0; clear HR309_0; clear HB; have HO_6 := n0_; have HO_71 := n1_; have HL309_0 := n2_; have HR309_0 := n3_; have HB := n4_; clear n0_ n1_ n2_ n3_ n4_; (try clear hb); (try clear hb2); (try clear hk); (try clear hi); have p313 : 0 ≤ (1 : Int) := (by omega); have q313 : 1 < ((rd_L2 t300 x73_2).length : Int) := of_decide_eq_true (by first | (with_reducible assumption) | assumption); obtain ⟨ad313, e313, hx313_0⟩ := Kd.at_int (by repeat (first | (with_reducible exact HR309_0.out) | (with_reducible refine Kd.C_alloc ?_ _) | (with_reducible refine Kd.C_drewN ?_ _) | (with_reducible refine Kd.C_drew ?_) | exact HR309_0.out)) 1 p313 q313; obtain rfl : ad310 = ad313 := (by injection e313); (try simp only [show (1 : Int).toNat = 1 from rfl, Nat.reduceMul, Nat.reduceEqDiff, Go.Addr.add, ↓reduceIte] at hx313_0); have qi313 : (1 < (rd_L2 t300 x73_2).length) = True := eq_true (by omega); (try rw [show ((1 : Int)).toNat = 1 from rfl] at hx313_0); replace p313 := eq_true p313; replace q313 := eq_true q313; have p314 : 0 ≤ (1 : Int) := (by omega); have q314 : 1 < ((rd_L2 t300 x73_2).length : Int) := of_decide_eq_true (by first | (with_reducible assumption) | assumption); obtain ⟨ad314, e314, hx314_0⟩ := Kd.at_int (by repeat (first | (with_reducible exact HR309_0.out) | (with_reducible refine Kd.C_alloc ?_ _) | (with_reducible refine Kd.C_drewN ?_ _) | (with_reducible refine Kd.C_drew ?_) | exact HR309_0.out)) 1 p314 q314; obtain rfl : ad310 = ad314 := (by injection e314); (try simp only [show (1 : Int).toNat = 1 from rfl, Nat.reduceMul, Nat.reduceEqDiff, Go.Addr.add, ↓reduceIte] at hx314_0); have qi314 : (1 < (rd_L2 t300 x73_2).length) = True := eq_true (by omega); (try rw [show ((1 : Int)).toNat = 1 from rfl] at hx314_0); replace p314 := eq_true p314; replace q314 := eq_true q314; have p315 : 0 ≤ (0 : Int) := (by omega); have q315 : 0 < ((rd_L2 t300 x73_2).length : Int) := of_decide_eq_true (by first | (with_reducible assumption) | assumption); obtain ⟨ad315, e315, hx315_0⟩ := Kd.at_int (by repeat (first | (with_reducible exact HR309_0.out) | (with_reducible refine Kd.C_alloc ?_ _) | (with_reducible refine Kd.C_drewN ?_ _) | (with_reducible refine Kd.C_drew ?_) | exact HR309_0.out)) 0 p315 q315; obtain rfl : ad310 = ad315 := (by injection e315); have qi315 : (0 < (rd_L2 t300 x73_2).length) = True := eq_true (by omega); (try rw [show ((0 : Int)).toNat = 0 from rfl] at hx315_0); (try rw [Addr.add_zero'] at hx315_0); replace p315 := eq_true p315; replace q315 := eq_true q315; have p316 : 0 ≤ ((ji28) : Int) := of_decide_eq_true (by first | (with_reducible assumption) | assumption); have q316 : (ji28) < (t300.length : Int) := of_decide_eq_true (by first | (with_reducible assumption) | assumption); obtain ⟨ad316, A316_0, c316_0, e316, hx316_0, hl316_0, hi316_0⟩ := at_L2 (Kd.S_reads' HO_6.out).2.2 (ji28) p316 q316; obtain rfl : ad309 = ad316 := (by injection e316); obtain ⟨ce316, hce316, hMe316, hcc316⟩ := Kd.S_get HO_6.out [] (ji28) p316 (by first | exact q316 | exact of_decide_eq_true (by first | (with_reducible assumption) | assumption) | (have e_ := (Kd.S_reads' HO_6.out).1; omega)); obtain ⟨ve316_0, rfl, ge316_0⟩ := hMe316; have hv316_0 := hcc316 0 _ rfl; rw [Nat.add_zero, show ((Kd.slice 3 (Kd.int .i64))).sz = 1 from rfl, Nat.mul_one] at hv316_0; replace hv316_0 := Option.some.inj (hv316_0.symm.trans hx316_0); rw [hv316_0] at ge316_0; have HL316_0 := Aside0.mk (show Kd.R (Kd.int .i64) 3 _ _ _ _ (rd_L2 t300 (ji28)) from ge316_0); clear hv316_0 ge316_0; clear hcc316 hce316; have HR316_0 := Aside0.mk hi316_0; have HC316_0 := Aside0.mk hl316_0; clear hi316_0 hl316_0; replace p316 := eq_true p316; replace q316 := eq_true q316; have p317 : 0 ≤ (0 : Int) := (by omega); have q317 : 0 < ((rd_L2 t300 (ji28)).length : Int) := of_decide_eq_true (by first | (with_reducible assumption) | assumption); obtain ⟨ad317, e317, hx317_0⟩ := Kd.at_int (by repeat (first | (with_reducible exact HR316_0.out) | (with_reducible refine Kd.C_alloc ?_ _) | (with_reducible refine Kd.C_drewN ?_ _) | (with_reducible refine Kd.C_drew ?_) | exact HR316_0.out)) 0 p317 q317; cases e317; have qi317 : (0 < (rd_L2 t300 (ji28)).length) = True := eq_true (by omega); (try rw [show ((0 : Int)).toNat = 0 from rfl] at hx317_0); (try rw [Addr.add_zero'] at hx317_0); replace p317 := eq_true p317; replace q317 := eq_true q317; have p318 : 0 ≤ (0 : Int) := (by omega); have q318 : 0 < ((rd_L2 t300 x73_2).length : Int) := of_decide_eq_true (by first | (with_reducible assumption) | assumption); obtain ⟨ad318, e318, hx318_0⟩ := Kd.at_int (by repeat (first | (with_reducible exact HR309_0.out) | (with_reducible refine Kd.C_alloc ?_ _) | (with_reducible refine Kd.C_drewN ?_ _) | (with_reducible refine Kd.C_drew ?_) | exact HR309_0.out)) 0 p318 q318; obtain rfl : ad310 = ad318 := (by injection e318); have qi318 : (0 < (rd_L2 t300 x73_2).length) = True := eq_true (by omega); (try rw [show ((0 : Int)).toNat = 0 from rfl] at hx318_0); (try rw [Addr.add_zero'] at hx318_0); replace p318 := eq_true p318; replace q318 := eq_true q318))
                                          repeat (go_quiet (first | (go_at_call 20; (with_reducible refine (impl_PartnerOf.calls k2 (rd (rd_L2 t300 x73_2) 0) t311 true _ A22.out).mono ?_); rintro e w33 ⟨rfl, hb⟩; have n0_ := Aside0.mk (Kd.S_below (by (with_reducible repeat (first | apply Kd.S_alloc | apply Kd.S_drewN | apply Kd.S_drew)); exact HO_6.out) hb); have n1_ := Aside0.mk (Kd.S_below (by (with_reducible repeat (first | apply Kd.S_alloc | apply Kd.S_drewN | apply Kd.S_drew)); exact HO_71.out) hb); have n2_ := Aside0.mk (Kd.R_below (by (with_reducible repeat (first | apply Kd.R_alloc | apply Kd.R_drewN | apply Kd.R_drew)); exact HL309_0.out) hb); have n3_ := Aside0.mk (Kd.C_below (by repeat (first | (with_reducible exact HR309_0.out) | (with_reducible refine Kd.C_alloc ?_ _) | (with_reducible refine Kd.C_drewN ?_ _) | (with_reducible refine Kd.C_drew ?_) | exact HR309_0.out)) hb); have n4_ := Aside0.mk (below_step (by repeat (first | (with_reducible first | exact HB.out | apply below_alloc | apply pw_below_drewN | apply below_drew1) | exact HB.out)) hb); clear HO_6; clear HO_71; clear HL309_0; clear HR309_0; clear HB; have HO_6 := n0_; have HO_71 := n1_; have HL309_0 := n2_; have HR309_0 := n3_; have HB := n4_; clear n0_ n1_ n2_ n3_ n4_; (try clear hb); (try clear hb2); (try clear hk); (try clear hi); have p313 : 0 ≤ (1 : Int) := (by omega); have q313 : 1 < ((rd_L2 t300 x73_2).length : Int) := of_decide_eq_true (by first | (with_reducible assumption) | assumption); obtain ⟨ad313, e313, hx313_0⟩ := Kd.at_int (by repeat (first | (with_reducible exact HR309_0.out) | (with_reducible refine Kd.C_alloc ?_ _) | (with_reducible refine Kd.C_drewN ?_ _) | (with_reducible refine Kd.C_drew ?_) | exact HR309_0.out)) 1 p313 q313; obtain rfl : ad310 = ad313 := (by injection e313); (try simp only [show (1 : Int).toNat = 1 from rfl, Nat.reduceMul, Nat.reduceEqDiff, Go.Addr.add, ↓reduceIte] at hx313_0); have qi313 : (1 < (rd_L2 t300 x73_2).length) = True := eq_true (by omega); (try rw [show ((1 : Int)).toNat = 1 from rfl] at hx313_0); replace p313 := eq_true p313; replace q313 := eq_true q313; have p314 : 0 ≤ (1 : Int) := (by omega); have q314 : 1 < ((rd_L2 t300 x73_2).length : Int) := of_decide_eq_true (by first | (with_reducible assumption) | assumption); obtain ⟨ad314, e314, hx314_0⟩ := Kd.at_int (by repeat (first | (with_reducible exact HR309_0.out) | (with_reducible refine Kd.C_alloc ?_ _) | (with_reducible refine Kd.C_drewN ?_ _) | (with_reducible refine Kd.C_drew ?_) | exact HR309_0.out)) 1 p314 q314; obtain rfl : ad310 = ad314 := (by injection e314); (try simp only [show (1 : Int).toNat = 1 from rfl, Nat.reduceMul, Nat.reduceEqDiff, Go.Addr.add, ↓reduceIte] at hx314_0); have qi314 : (1 < (rd_L2 t300 x73_2).length) = True := eq_true (by omega); (try rw [show ((1 : Int)).toNat = 1 from rfl] at hx314_0); replace p314 := eq_true p314; replace q314 := eq_true q314; have p315 : 0 ≤ (0 : Int) := (by omega); have q315 : 0 < ((rd_L2 t300 x73_2).length : Int) := of_decide_eq_true (by first | (with_reducible assumption) | assumption); obtain ⟨ad315, e315, hx315_0⟩ := Kd.at_int (by repeat (first | (with_reducible exact HR309_0.out) | (with_reducible refine Kd.C_alloc ?_ _) | (with_reducible refine Kd.C_drewN ?_ _) | (with_reducible refine Kd.C_drew ?_) | exact HR309_0.out)) 0 p315 q315; obtain rfl : ad310 = ad315 := (by injection e315); have qi315 : (0 < (rd_L2 t300 x73_2).length) = True := eq_true (by omega); (try rw [show ((0 : Int)).toNat = 0 from rfl] at hx315_0); (try rw [Addr.add_zero'] at hx315_0); replace p315 := eq_true p315; replace q315 := eq_true q315; have p316 : 0 ≤ ((ji28) : Int) := of_decide_eq_true (by first | (with_reducible assumption) | assumption); have q316 : (ji28) < (t300.length : Int) := of_decide_eq_true (by first | (with_reducible assumption) | assumption); obtain ⟨ad316, A316_0, c316_0, e316, hx316_0, hl316_0, hi316_0⟩ := at_L2 (Kd.S_reads' HO_6.out).2.2 (ji28) p316 q316; obtain rfl : ad309 = ad316 := (by injection e316); obtain ⟨ce316, hce316, hMe316, hcc316⟩ := Kd.S_get HO_6.out [] (ji28) p316 (by first | exact q316 | exact of_decide_eq_true (by first | (with_reducible assumption) | assumption) | (have e_ := (Kd.S_reads' HO_6.out).1; omega)); obtain ⟨ve316_0, rfl, ge316_0⟩ := hMe316; have hv316_0 := hcc316 0 _ rfl; rw [Nat.add_zero, show ((Kd.slice 3 (Kd.int .i64))).sz = 1 from rfl, Nat.mul_one] at hv316_0; replace hv316_0 := Option.some.inj (hv316_0.symm.trans hx316_0); rw [hv316_0] at ge316_0; have HL316_0 := Aside0.mk (show Kd.R (Kd.int .i64) 3 _ _ _ _ (rd_L2 t300 (ji28)) from ge316_0); clear hv316_0 ge316_0; clear hcc316 hce316; have HR316_0 := Aside0.mk hi316_0; have HC316_0 := Aside0.mk hl316_0; clear hi316_0 hl316_0; replace p316 := eq_true p316; replace q316 := eq_true q316; have p317 : 0 ≤ (0 : Int) := (by omega); have q317 : 0 < ((rd_L2 t300 (ji28)).length : Int) := of_decide_eq_true (by first | (with_reducible assumption) | assumption); obtain ⟨ad317, e317, hx317_0⟩ := Kd.at_int (by repeat (first | (with_reducible exact HR316_0.out) | (with_reducible refine Kd.C_alloc ?_ _) | (with_reducible refine Kd.C_drewN ?_ _) | (with_reducible refine Kd.C_drew ?_) | exact HR316_0.out)) 0 p317 q317; cases e317; have qi317 : (0 < (rd_L2 t300 (ji28)).length) = True := eq_true (by omega); (try rw [show ((0 : Int)).toNat = 0 from rfl] at hx317_0); (try rw [Addr.add_zero'] at hx317_0); replace p317 := eq_true p317; replace q317 := eq_true q317; have p318 : 0 ≤ (0 : Int) := (by omega); have q318 : 0 < ((rd_L2 t300 x73_2).length : Int) := of_decide_eq_true (by first | (with_reducible assumption) | assumption); obtain ⟨ad318, e318, hx318_0⟩ := Kd.at_int (by repeat (first | (with_reducible exact HR309_0.out) | (with_reducible refine Kd.C_alloc ?_ _) | (with_reducible refine Kd.C_drewN ?_ _) | (with_reducible refine Kd.C_drew ?_) | exact HR309_0.out)) 0 p318 q318; obtain rfl : ad310 = ad318 := (by injection e318); have qi318 : (0 < (rd_L2 t300 x73_2).length) = True := eq_true (by omega); (try rw [show ((0 : Int)).toNat = 0 from rfl] at hx318_0); (try rw [Addr.add_zero'] at hx318_0); replace p318 := eq_true p318; replace q318 := eq_true q318)); try go_wp2_with (first | (go_at_call 20; (with_reducible refine (impl_PartnerOf.calls k2 (rd (rd_L2 t300 x73_2) 0) t311 true _ A22.out).mono ?_); rintro e w33 ⟨rfl, hb⟩; have n0_ := Aside0.mk (Kd.S_below (by (with_reducible repeat (first | apply Kd.S_alloc | apply Kd.S_drewN | apply Kd.S_drew)); exact HO_6.out) hb); have n1_ := Aside0.mk (Kd.S_below (by (with_reducible repeat (first | apply Kd.S_alloc | apply Kd.S_drewN | apply Kd.S_drew)); exact HO_71.out) hb); have n2_ := Aside0.mk (Kd.R_below (by (with_reducible repeat (first | apply Kd.R_alloc | apply Kd.R_drewN | apply Kd.R_drew)); exact HL309_0.out) hb); have n3_ := Aside0.mk (Kd.C_below (by repeat (first | (with_reducible exact HR309_0.out) | (with_reducible refine Kd.C_alloc ?_ _) | (with_reducible refine Kd.C_drewN ?_ _) | (with_reducible refine Kd.C_drew ?_) | exact HR309_0.out)) hb); have n4_ := Aside0.mk (below_step (by repeat (first | (with_reducible first | exact HB.out | apply below_alloc | apply pw_below_drewN | apply below_drew1) | exact HB.out)) hb); clear HO_6; clear HO_71; clear HL309_0; clear HR309_0; clear HB; have HO_6 := n0_; have HO_71 := n1_; have HL309_0 := n2_; have HR309_0 := n3_; have HB := n4_; clear n0_ n1_ n2_ n3_ n4_; (try clear hb); (try clear hb2); (try clear hk); (try clear hi); have p313 : 0 ≤ (1 : Int) := (by omega); have q313 : 1 < ((rd_L2 t300 x73_2).length : Int) := of_decide_eq_true (by first | (with_reducible assumption) | assumption); obtain ⟨ad313, e313, hx313_0⟩ := Kd.at_int (by repeat (first | (with_reducible exact HR309_0.out) | (with_reducible refine Kd.C_alloc ?_ _) | (with_reducible refine Kd.C_drewN ?_ _) | (with_reducible refine Kd.C_drew ?_) | exact HR309_0.out)) 1 p313 q313; obtain rfl : ad310 = ad313 := (by injection e313); (try simp only [show (1 : Int).toNat = 1 from rfl, Nat.reduceMul, Nat.reduceEqDiff, Go.Addr.add, ↓reduceIte] at hx313_0); have qi313 : (1 < (rd_L2 t300 x73_2).length) = True := eq_true (by omega); (try rw [show ((1 : Int)).toNat = 1 from rfl] at hx313_0); replace p313 := eq_true p313; replace q313 := eq_true q313; have p314 : 0 ≤ (1 : Int) := (by omega); have q314 : 1 < ((rd_L2 t300 x73_2).length : Int) := of_decide_eq_true (by first | (with_reducible assumption) | assumption); obtain ⟨ad314, e314, hx314_0⟩ := Kd.at_int (by repeat (first | (with_reducible exact HR309_0.out) | (with_reducible refine Kd.C_alloc ?_ _) | (with_reducible refine Kd.C_drewN ?_ _) | (with_reducible refine Kd.C_drew ?_) | exact HR309_0.out)) 1 p314 q314; obtain rfl : ad310 = ad314 := (by injection e314); (try simp only [show (1 : Int).toNat = 1 from rfl, Nat.reduceMul, Nat.reduceEqDiff, Go.Addr.add, ↓reduceIte] at hx314_0); have qi314 : (1 < (rd_L2 t300 x73_2).length) = True := eq_true (by omega); (try rw [show ((1 : Int)).toNat = 1 from rfl] at hx314_0); replace p314 := eq_true p314; replace q314 := eq_true q314; have p315 : 0 ≤ (0 : Int) := (by omega); have q315 : 0 < ((rd_L2 t300 x73_2).length : Int) := of_decide_eq_true (by first | (with_reducible assumption) | assumption); obtain ⟨ad315, e315, hx315_0⟩ := Kd.at_int (by repeat (first | (with_reducible exact HR309_0.out) | (with_reducible refine Kd.C_alloc ?_ _) | (with_reducible refine Kd.C_drewN ?_ _) | (with_reducible refine Kd.C_drew ?_) | exact HR309_0.out)) 0 p315 q315; obtain rfl : ad310 = ad315 := (by injection e315); have qi315 : (0 < (rd_L2 t300 x73_2).length) = True := eq_true (by omega); (try rw [show ((0 : Int)).toNat = 0 from rfl] at hx315_0); (try rw [Addr.add_zero'] at hx315_0); replace p315 := eq_true p315; replace q315 := eq_true q315; have p316 : 0 ≤ ((ji28) : Int) := of_decide_eq_true (by first | (with_reducible assumption) | assumption); have q316 : (ji28) < (t300.length : Int) := of_decide_eq_true (by first | (with_reducible assumption) | assumption); obtain ⟨ad316, A316_0, c316_0, e316, hx316_0, hl316_0, hi316_0⟩ := at_L2 (Kd.S_reads' HO_6.out).2.2 (ji28) p316 q316; obtain rfl : ad309 = ad316 := (by injection e316); obtain ⟨ce316, hce316, hMe316, hcc316⟩ := Kd.S_get HO_6.out [] (ji28) p316 (by first | exact q316 | exact of_decide_eq_true (by first | (with_reducible assumption) | assumption) | (have e_ := (Kd.S_reads' HO_6.out).1; omega)); obtain ⟨ve316_0, rfl, ge316_0⟩ := hMe316; have hv316_0 := hcc316 0 _ rfl; rw [Nat.add_zero, show ((Kd.slice 3 (Kd.int .i64))).sz = 1 from rfl, Nat.mul_one] at hv316_0; replace hv316_0 := Option.some.inj (hv316_0.symm.trans hx316_0); rw [hv316_0] at ge316_0; have HL316_0 := Aside0.mk (show Kd.R (Kd.int .i64) 3 _ _ _ _ (rd_L2 t300 (ji28)) from ge316_0); clear hv316_0 ge316_0; clear hcc316 hce316; have HR316_0 := Aside0.mk hi316_0; have HC316_0 := Aside0.mk hl316_0; clear hi316_0 hl316_0; replace p316 := eq_true p316; replace q316 := eq_true q316; have p317 : 0 ≤ (0 : Int) := (by omega); have q317 : 0 < ((rd_L2 t300 (ji28)).length : Int) := of_decide_eq_true (by first | (with_reducible assumption) | assumption); obtain ⟨ad317, e317, hx317_0⟩ := Kd.at_int (by repeat (first | (with_reducible exact HR316_0.out) | (with_reducible refine Kd.C_alloc ?_ _) | (with_reducible refine Kd.C_drewN ?_ _) | (with_reducible refine Kd.C_drew ?_) | exact HR316_0.out)) 0 p317 q317; cases e317; have qi317 : (0 < (rd_L2 t300 (ji28)).length) = True := eq_true (by omega); (try rw [show ((0 : Int)).toNat = 0 from rfl] at hx317_0); (try rw [Addr.add_zero'] at hx317_0); replace p317 := eq_true p317; replace q317 := eq_true q317; have p318 : 0 ≤ (0 : Int) := (by omega); have q318 : 0 < ((rd_L2 t300 x73_2).length : Int) := of_decide_eq_true (by first | (with_reducible assumption) | assumption); obtain ⟨ad318, e318, hx318_0⟩ := Kd.at_int (by repeat (first | (with_reducible exact HR309_0.out) | (with_reducible refine Kd.C_alloc ?_ _) | (with_reducible refine Kd.C_drewN ?_ _) | (with_reducible refine Kd.C_drew ?_) | exact HR309_0.out)) 0 p318 q318; obtain rfl : ad310 = ad318 := (by injection e318); have qi318 : (0 < (rd_L2 t300 x73_2).length) = True := eq_true (by omega); (try rw [show ((0 : Int)).toNat = 0 from rfl] at hx318_0); (try rw [Addr.add_zero'] at hx318_0); replace p318 := eq_true p318; replace q318 := eq_true q318)))
                                          go_roundg k2
                                          case measure => have := HJ7.out; have := HK2.out; omega
                                          case rel => exact ⟨(wrap64 (x73_2 + 1)), (by first | rfl | (simp; done) | (simp [*]; done)), H', ⟨by have := HJ7.out; have := HK2.out; omega⟩, ⟨by (with_reducible repeat (first | apply Kd.S_alloc | apply Kd.S_drewN | apply Kd.S_drew)); exact HO_6.out⟩, ⟨by (with_reducible repeat (first | apply Kd.S_alloc | apply Kd.S_drewN | apply Kd.S_drew)); exact HO_71.out⟩, ⟨by repeat (first | (with_reducible first | exact HB.out | apply below_alloc | apply pw_below_drewN | apply below_drew1) | exact HB.out)⟩⟩
                                    · rw [if_neg c31] at H
                                      exact absurd H (by simp)
                                  · rw [if_neg c30] at H
                                    exact absurd H (by simp)
                                · rw [if_neg c29] at H
                                  exact absurd H (by simp)
                              · rw [if_neg c27] at H
                                have c27b0 : decide (0 < x73_2) = false := decide_eq_false c27
                                clear c27
                                as_aux_lemma =>
                                  have H' := Aside0.mk H
                                  clear H
                                  have p309 : 0 ≤ (x73_2 : Int) := of_decide_eq_true (by first | (with_reducible assumption) | assumption)
                                  have q309 : x73_2 < (t300.length : Int) := of_decide_eq_true (by first | (with_reducible assumption) | assumption)
                                  obtain ⟨ad309, A309_0, c309_0, e309, hx309_0, hl309_0, hi309_0⟩ := at_L2 (Kd.S_reads' HO_71.out).2.2 x73_2 p309 q309
                                  cases e309
                                  obtain ⟨ce309, hce309, hMe309, hcc309⟩ := Kd.S_get HO_71.out [] x73_2 p309 (by first | exact q309 | exact of_decide_eq_true (by first | (with_reducible assumption) | assumption) | (have e_ := (Kd.S_reads' HO_71.out).1; omega))
                                  obtain ⟨ve309_0, rfl, ge309_0⟩ := hMe309
                                  have hv309_0 := hcc309 0 _ rfl
                                  rw [Nat.add_zero, show ((Kd.slice 3 (Kd.int .i64))).sz = 1 from rfl, Nat.mul_one] at hv309_0
                                  replace hv309_0 := Option.some.inj (hv309_0.symm.trans hx309_0)
                                  rw [hv309_0] at ge309_0
                                  have HL309_0 := Aside0.mk (show Kd.R (Kd.int .i64) 3 _ _ _ _ (rd_L2 t300 x73_2) from ge309_0)
                                  clear hv309_0 ge309_0
                                  clear hcc309 hce309
                                  have HR309_0 := Aside0.mk hi309_0
                                  have HC309_0 := Aside0.mk hl309_0
                                  clear hi309_0 hl309_0
                                  replace p309 := eq_true p309
                                  replace q309 := eq_true q309
                                  have p310 : 0 ≤ (0 : Int) := (by omega)
                                  have q310 : 0 < ((rd_L2 t300 x73_2).length : Int) := of_decide_eq_true (by first | (with_reducible assumption) | assumption)
                                  obtain ⟨ad310, e310, hx310_0⟩ := Kd.at_int (by repeat (first | (with_reducible exact HR309_0.out) | (with_reducible refine Kd.C_alloc ?_ _) | (with_reducible refine Kd.C_drewN ?_ _) | (with_reducible refine Kd.C_drew ?_) | exact HR309_0.out)) 0 p310 q310
                                  cases e310
                                  have qi310 : (0 < (rd_L2 t300 x73_2).length) = True := eq_true (by omega)
                                  (try rw [show ((0 : Int)).toNat = 0 from rfl] at hx310_0)
                                  (try rw [Addr.add_zero'] at hx310_0)
                                  replace p310 := eq_true p310
                                  replace q310 := eq_true q310
                                  go_wp2_with (first | (go_at_call 20; (with_reducible refine (impl_PartnerOf.calls k2 (rd (rd_L2 t300 x73_2) 0) t311 true _ A22.out).mono ?_); rintro e w34 ⟨rfl, hb⟩; have n0_ := Aside0.mk (Kd.S_below (by (with_reducible repeat (first | apply Kd.S_alloc | apply Kd.S_drewN | apply Kd.S_drew)); exact HO_6.out) hb); have n1_ := Aside0.mk (Kd.S_below (by (with_reducible repeat (first | apply Kd.S_alloc | apply Kd.S_drewN | apply Kd.S_drew)); exact HO_71.out) hb); have n2_ := Aside0.mk (Kd.R_below (by (with_reducible repeat (first | apply Kd.R_alloc | apply Kd.R_drewN | apply Kd.R_drew)); exact HL309_0.out) hb); have n3_ := Aside0.mk (Kd.C_below (by repeat (first | (with_reducible exact HR309_0.out) | (with_reducible refine Kd.C_alloc ?_ _) | (with_reducible refine Kd.C_drewN ?_ _) | (with_reducible refine Kd.C_drew ?_) | exact HR309_0.out)) hb); have n4_ := Aside0.mk (below_step (by repeat (first | (with_reducible first | exact HB.out | apply below_alloc | apply pw_below_drewN | apply below_drew1) | exact HB.out)) hb); clear HO_6; clear HO_71; clear HL309_0; clear HR309_0; clear HB; have HO_6 := n0_; have HO_71 := n1_; have HL309_0 := n2_; have HR309_0 := n3_; have HB := n4_; clear n0_ n1_ n2_ n3_ n4_; (try clear hb); (try clear hb2); (try clear hk); (try clear hi); have p313 : 0 ≤ (1 : Int) := (by omega); have q313 : 1 < ((rd_L2 t300 x73_2).length : Int) := of_decide_eq_true (by first | (with_reducible assumption) | assumption); obtain ⟨ad313, e313, hx313_0⟩ := Kd.at_int (by repeat (first | (with_reducible exact HR309_0.out) | (with_reducible refine Kd.C_alloc ?_ _) | (with_reducible refine Kd.C_drewN ?_ _) | (with_reducible refine Kd.C_drew ?_) | exact HR309_0.out)) 1 p313 q313; obtain rfl : ad310 = ad313 := (by injection e313); (try simp only [show (1 : Int).toNat = 1 from rfl, Nat.reduceMul, Nat.reduceEqDiff, Go.Addr.add, ↓reduceIte] at hx313_0); have qi313 : (1 < (rd_L2 t300 x73_2).length) = True := eq_true (by omega); (try rw [show ((1 : Int)).toNat = 1 from rfl] at hx313_0); replace p313 := eq_true p313; replace q313 := eq_true q313; have p314 : 0 ≤ (1 : Int) := (by omega); have q314 : 1 < ((rd_L2 t300 x73_2).length : Int) := of_decide_eq_true (by first | (with_reducible assumption) | assumption); obtain ⟨ad314, e314, hx314_0⟩ := Kd.at_int (by repeat (first | (with_reducible exact HR309_0.out) | (with_reducible refine Kd.C_alloc ?_ _) | (with_reducible refine Kd.C_drewN ?_ _) | (with_reducible refine Kd.C_drew ?_) | exact HR309_0.out)) 1 p314 q314; obtain rfl : ad310 = ad314 := (by injection e314); (try simp only [show (1 : Int).toNat = 1 from rfl, Nat.reduceMul, Nat.reduceEqDiff, Go.Addr.add, ↓reduceIte] at hx314_0); have qi314 : (1 < (rd_L2 t300 x73_2).length) = True := eq_true (by omega); (try rw [show ((1 : Int)).toNat = 1 from rfl] at hx314_0); replace p314 := eq_true p314; replace q314 := eq_true q314; have p315 : 0 ≤ (0 : Int) := (by omega); have q315 : 0 < ((rd_L2 t300 x73_2).length : Int) := of_decide_eq_true (by first | (with_reducible assumption) | assumption); obtain ⟨ad315, e315, hx315_0⟩ := Kd.at_int (by repeat (first | (with_reducible exact HR309_0.out) | (with_reducible refine Kd.C_alloc ?_ _) | (with_reducible refine Kd.C_drewN ?_ _) | (with_reducible refine Kd.C_drew ?_) | exact HR309_0.out)) 0 p315 q315; obtain rfl : ad310 = ad315 := (by injection e315); have qi315 : (0 < (rd_L2 t300 x73_2).length) = True := eq_true (by omega); (try rw [show ((0 : Int)).toNat = 0 from rfl] at hx315_0); (try rw [Addr.add_zero'] at hx315_0); replace p315 := eq_true p315; replace q315 := eq_true q315))
                                  repeat (go_quiet (first | (go_at_call 20; (with_reducible refine (impl_PartnerOf.calls k2 (rd (rd_L2 t300 x73_2) 0) t311 true _ A22.out).mono ?_); rintro e w34 ⟨rfl, hb⟩; have n0_ := Aside0.mk (Kd.S_below (by (with_reducible repeat (first | apply Kd.S_alloc | apply Kd.S_drewN | apply Kd.S_drew)); exact HO_6.out) hb); have n1_ := Aside0.mk (Kd.S_below (by (with_reducible repeat (first | apply Kd.S_alloc | apply Kd.S_drewN | apply Kd.S_drew)); exact HO_71.out) hb); have n2_ := Aside0.mk (Kd.R_below (by (with_reducible repeat (first | apply Kd.R_alloc | apply Kd.R_drewN | apply Kd.R_drew)); exact HL309_0.out) hb); have n3_ := Aside0.mk (Kd.C_below (by repeat (first | (with_reducible exact HR309_0.out) | (with_reducible refine Kd.C_alloc ?_ _) | (with_reducible refine Kd.C_drewN ?_ _) | (with_reducible refine Kd.C_drew ?_) | exact HR309_0.out)) hb); have n4_ := Aside0.mk (below_step (by repeat (first | (with_reducible first | exact HB.out | apply below_alloc | apply pw_below_drewN | apply below_drew1) | exact HB.out)) hb); clear HO_6; clear HO_71; clear HL309_0; clear HR309_0; clear HB; have HO_6 := n0_; have HO_71 := n1_; have HL309_0 := n2_; have HR309_0 := n3_; have HB := n4_; clear n0_ n1_ n2_ n3_ n4_; (try clear hb); (try clear hb2); (try clear hk); (try clear hi); have p313 : 0 ≤ (1 : Int) := (by omega); have q313 : 1 < ((rd_L2 t300 x73_2).length : Int) := of_decide_eq_true (by first | (with_reducible assumption) | assumption); obtain ⟨ad313, e313, hx313_0⟩ := Kd.at_int (by repeat (first | (with_reducible exact HR309_0.out) | (with_reducible refine Kd.C_alloc ?_ _) | (with_reducible refine Kd.C_drewN ?_ _) | (with_reducible refine Kd.C_drew ?_) | exact HR309_0.out)) 1 p313 q313; obtain rfl : ad310 = ad313 := (by injection e313); (try simp only [show (1 : Int).toNat = 1 from rfl, Nat.reduceMul, Nat.reduceEqDiff, Go.Addr.add, ↓reduceIte] at hx313_0); have qi313 : (1 < (rd_L2 t300 x73_2).length) = True := eq_true (by omega); (try rw [show ((1 : Int)).toNat = 1 from rfl] at hx313_0); replace p313 := eq_true p313; replace q313 := eq_true q313; have p314 : 0 ≤ (1 : Int) := (by omega); have q314 : 1 < ((rd_L2 t300 x73_2).length : Int) := of_decide_eq_true (by first | (with_reducible assumption) | assumption); obtain ⟨ad314, e314, hx314_0⟩ := Kd.at_int (by repeat (first | (with_reducible exact HR309_0.out) | (with_reducible refine Kd.C_alloc ?_ _) | (with_reducible refine Kd.C_drewN ?_ _) | (with_reducible refine Kd.C_drew ?_) | exact HR309_0.out)) 1 p314 q314; obtain rfl : ad310 = ad314 := (by injection e314); (try simp only [show (1 : Int).toNat = 1 from rfl, Nat.reduceMul, Nat.reduceEqDiff, Go.Addr.add, ↓reduceIte] at hx314_0); have qi314 : (1 < (rd_L2 t300 x73_2).length) = True := eq_true (by omega); (try rw [show ((1 : Int)).toNat = 1 from rfl] at hx314_0); replace p314 := eq_true p314; replace q314 := eq_true q314; have p315 : 0 ≤ (0 : Int) := (by omega); have q315 : 0 < ((rd_L2 t300 x73_2).length : Int) := of_decide_eq_true (by first | (with_reducible assumption) | assumption); obtain ⟨ad315, e315, hx315_0⟩ := Kd.at_int (by repeat (first | (with_reducible exact HR309_0.out) | (with_reducible refine Kd.C_alloc ?_ _) | (with_reducible refine Kd.C_drewN ?_ _) | (with_reducible refine Kd.C_drew ?_) | exact HR309_0.out)) 0 p315 q315; obtain rfl : ad310 = ad315 := (by injection e315); have qi315 : (0 < (rd_L2 t300 x73_2).length) = True := eq_true (by omega); (try rw [show ((0 : Int)).toNat = 0 from rfl] at hx315_0); (try rw [Addr.add_zero'] at hx315_0); replace p315 := eq_true p315; replace q315 := eq_true q315)); try go_wp2_with (first | (go_at_call 20; (with_reducible refine (impl_PartnerOf.calls k2 (rd (rd_L2 t300 x73_2) 0) t311 true _ A22.out).mono ?_); rintro e w34 ⟨rfl, hb⟩; have n0_ := Aside0.mk (Kd.S_below (by (with_reducible repeat (first | apply Kd.S_alloc | apply Kd.S_drewN | apply Kd.S_drew)); exact HO_6.out) hb); have n1_ := Aside0.mk (Kd.S_below (by (with_reducible repeat (first | apply Kd.S_alloc | apply Kd.S_drewN | apply Kd.S_drew)); exact HO_71.out) hb); have n2_ := Aside0.mk (Kd.R_below (by (with_reducible repeat (first | apply Kd.R_alloc | apply Kd.R_drewN | apply Kd.R_drew)); exact HL309_0.out) hb); have n3_ := Aside0.mk (Kd.C_below (by repeat (first | (with_reducible exact HR309_0.out) | (with_reducible refine Kd.C_alloc ?_ _) | (with_reducible refine Kd.C_drewN ?_ _) | (with_reducible refine Kd.C_drew ?_) | exact HR309_0.out)) hb); have n4_ := Aside0.mk (below_step (by repeat (first | (with_reducible first | exact HB.out | apply below_alloc | apply pw_below_drewN | apply below_drew1) | exact HB.out)) hb); clear HO_6; clear HO_71; clear HL309_0; clear HR309_0; clear HB; have HO_6 := n0_; have HO_71 := n1_; have HL309_0 := n2_; have HR309_0 := n3_; have HB := n4_; clear n0_ n1_ n2_ n3_ n4_; (try clear hb); (try clear hb2); (try clear hk); (try clear hi); have p313 : 0 ≤ (1 : Int) := (by omega); have q313 : 1 < ((rd_L2 t300 x73_2).length : Int) := of_decide_eq_true (by first | (with_reducible assumption) | assumption); obtain ⟨ad313, e313, hx313_0⟩ := Kd.at_int (by repeat (first | (with_reducible exact HR309_0.out) | (with_reducible refine Kd.C_alloc ?_ _) | (with_reducible refine Kd.C_drewN ?_ _) | (with_reducible refine Kd.C_drew ?_) | exact HR309_0.out)) 1 p313 q313; obtain rfl : ad310 = ad313 := (by injection e313); (try simp only [show (1 : Int).toNat = 1 from rfl, Nat.reduceMul, Nat.reduceEqDiff, Go.Addr.add, ↓reduceIte] at hx313_0); have qi313 : (1 < (rd_L2 t300 x73_2).length) = True := eq_true (by omega); (try rw [show ((1 : Int)).toNat = 1 from rfl] at hx313_0); replace p313 := eq_true p313; replace q313 := eq_true q313; have p314 : 0 ≤ (1 : Int) := (by omega); have q314 : 1 < ((rd_L2 t300 x73_2).length : Int) := of_decide_eq_true (by first | (with_reducible assumption) | assumption); obtain ⟨ad314, e314, hx314_0⟩ := Kd.at_int (by repeat (first | (with_reducible exact HR309_0.out) | (with_reducible refine Kd.C_alloc ?_ _) | (with_reducible refine Kd.C_drewN ?_ _) | (with_reducible refine Kd.C_drew ?_) | exact HR309_0.out)) 1 p314 q314; obtain rfl : ad310 = ad314 := (by injection e314); (try simp only [show (1 : Int).toNat = 1 from rfl, Nat.reduceMul, Nat.reduceEqDiff, Go.Addr.add, ↓reduceIte] at hx314_0); have qi314 : (1 < (rd_L2 t300 x73_2).length) = True := eq_true (by omega); (try rw [show ((1 : Int)).toNat = 1 from rfl] at hx314_0); replace p314 := eq_true p314; replace q314 := eq_true q314; have p315 : 0 ≤ (0 : Int) := (by omega); have q315 : 0 < ((rd_L2 t300 x73_2).length : Int) := of_decide_eq_true (by first | (with_reducible assumption) | assumption); obtain ⟨ad315, e315, hx315_0⟩ := Kd.at_int (by repeat (first | (with_reducible exact HR309_0.out) | (with_reducible refine Kd.C_alloc ?_ _) | (with_reducible refine Kd.C_drewN ?_ _) | (with_reducible refine Kd.C_drew ?_) | exact HR309_0.out)) 0 p315 q315; obtain rfl : ad310 = ad315 := (by injection e315); have qi315 : (0 < (rd_L2 t300 x73_2).length) = True := eq_true (by omega); (try rw [show ((0 : Int)).toNat = 0 from rfl] at hx315_0); (try rw [Addr.add_zero'] at hx315_0); replace p315 := eq_true p315; replace q315 := eq_true q315)))
                                  go_roundg k2
                                  case measure => have := HJ7.out; have := HK2.out; omega
                                  case rel => exact ⟨(wrap64 (x73_2 + 1)), (by first | rfl | (simp; done) | (simp [*]; done)), H', ⟨by have := HJ7.out; have := HK2.out; omega⟩, ⟨by (with_reducible repeat (first | apply Kd.S_alloc | apply Kd.S_drewN | apply Kd.S_drew)); exact HO_6.out⟩, ⟨by (with_reducible repeat (first | apply Kd.S_alloc | apply Kd.S_drewN | apply Kd.S_drew)); exact HO_71.out⟩, ⟨by repeat (first | (with_reducible first | exact HB.out | apply below_alloc | apply pw_below_drewN | apply below_drew1) | exact HB.out)⟩⟩
                          · rw [if_neg c25] at H
                            have c25b0 : (t311 == (rd (rd_L2 t300 x73_2) 1)) = false := beq_eq_false_iff_ne.mpr c25
                            have c25b1 : (t311 != (rd (rd_L2 t300 x73_2) 1)) = true := bne_iff_ne.mpr c25
                            exact absurd (Option.some.inj H) (by rw [HR_.out]; decide)
                        · rw [if_neg c24] at H
                          exact absurd H (by simp)
                      · replace c23 := Bool.eq_false_iff.mpr c23
                        subst c23
                        have H1 : (some false) = some r := by rw [if_neg (show ¬ (false = true) by decide)] at H; exact H
                        clear H
                        have H := H1
                        clear H1
                        exact absurd (Option.some.inj H) (by rw [HR_.out]; decide)
                    · rw [if_neg c21] at H
                      exact absurd H (by simp)
                  · rw [if_neg c20] at H
                    exact absurd H (by simp)
                · rw [if_neg c19] at H
                  exact absurd H (by simp)
              · rw [if_neg c18] at H
                have c18b0 : decide (x73_2 < (t300.length : Int)) = false := decide_eq_false c18
                clear c18
                replace H := Option.bind_eq_some_iff.mp H
                obtain ⟨t319, A350, H⟩ := H
                replace H : ((impl_EvenPerfect.f k2 t319).bind fun bt320 => ((spec_EvenPerfect.f k2 t319).bind fun bt322 => ((spec_DrawThabitPair.f l1).bind fun t324 => ((impl_ThabitPair.f k2 t324).bind fun bt325 => ((spec_ThabitPair.f k2 t324).bind fun bt328 => (if (bt320.2 != bt322.2) = true then (laws_FnPairsAndPerfect.j2 k2 l0 l1 bt320.1 bt320.2 bt325.1 bt325.2.1 bt325.2.2 true) else (if bt320.1 = bt322.1 then (if (bt325.2.2 != bt328.2.2) = true then (laws_FnPairsAndPerfect.j2 k2 l0 l1 bt320.1 bt320.2 bt325.1 bt325.2.1 bt325.2.2 true) else (if bt325.1 = bt328.1 then (laws_FnPairsAndPerfect.j2 k2 l0 l1 bt320.1 bt320.2 bt325.1 bt325.2.1 bt325.2.2 (bt325.2.1 != bt328.2.1)) else (laws_FnPairsAndPerfect.j2 k2 l0 l1 bt320.1 bt320.2 bt325.1 bt325.2.1 bt325.2.2 true))) else (laws_FnPairsAndPerfect.j2 k2 l0 l1 bt320.1 bt320.2 bt325.1 bt325.2.1 bt325.2.2 true)))))))) = some r := H
                have A35 := Aside0.mk A350
                clear A350
                replace H := Option.bind_eq_some_iff.mp H
                obtain ⟨⟨t320, t321⟩, A360, H⟩ := H
                replace H : ((spec_EvenPerfect.f k2 t319).bind fun bt322 => ((spec_DrawThabitPair.f l1).bind fun t324 => ((impl_ThabitPair.f k2 t324).bind fun bt325 => ((spec_ThabitPair.f k2 t324).bind fun bt328 => (if (t321 != bt322.2) = true then (laws_FnPairsAndPerfect.j2 k2 l0 l1 t320 t321 bt325.1 bt325.2.1 bt325.2.2 true) else (if t320 = bt322.1 then (if (bt325.2.2 != bt328.2.2) = true then (laws_FnPairsAndPerfect.j2 k2 l0 l1 t320 t321 bt325.1 bt325.2.1 bt325.2.2 true) else (if bt325.1 = bt328.1 then (laws_FnPairsAndPerfect.j2 k2 l0 l1 t320 t321 bt325.1 bt325.2.1 bt325.2.2 (bt325.2.1 != bt328.2.1)) else (laws_FnPairsAndPerfect.j2 k2 l0 l1 t320 t321 bt325.1 bt325.2.1 bt325.2.2 true))) else (laws_FnPairsAndPerfect.j2 k2 l0 l1 t320 t321 bt325.1 bt325.2.1 bt325.2.2 true))))))) = some r := H
                have A36 := Aside0.mk A360
                clear A360
                replace H := Option.bind_eq_some_iff.mp H
                obtain ⟨⟨t322, t323⟩, A370, H⟩ := H
                replace H : ((spec_DrawThabitPair.f l1).bind fun t324 => ((impl_ThabitPair.f k2 t324).bind fun bt325 => ((spec_ThabitPair.f k2 t324).bind fun bt328 => (if (t321 != t323) = true then (laws_FnPairsAndPerfect.j2 k2 l0 l1 t320 t321 bt325.1 bt325.2.1 bt325.2.2 true) else (if t320 = t322 then (if (bt325.2.2 != bt328.2.2) = true then (laws_FnPairsAndPerfect.j2 k2 l0 l1 t320 t321 bt325.1 bt325.2.1 bt325.2.2 true) else (if bt325.1 = bt328.1 then (laws_FnPairsAndPerfect.j2 k2 l0 l1 t320 t321 bt325.1 bt325.2.1 bt325.2.2 (bt325.2.1 != bt328.2.1)) else (laws_FnPairsAndPerfect.j2 k2 l0 l1 t320 t321 bt325.1 bt325.2.1 bt325.2.2 true))) else (laws_FnPairsAndPerfect.j2 k2 l0 l1 t320 t321 bt325.1 bt325.2.1 bt325.2.2 true)))))) = some r := H
                have A37 := Aside0.mk A370
                clear A370
                replace H := Option.bind_eq_some_iff.mp H
                obtain ⟨t324, A380, H⟩ := H
                replace H : ((impl_ThabitPair.f k2 t324).bind fun bt325 => ((spec_ThabitPair.f k2 t324).bind fun bt328 => (if (t321 != t323) = true then (laws_FnPairsAndPerfect.j2 k2 l0 l1 t320 t321 bt325.1 bt325.2.1 bt325.2.2 true) else (if t320 = t322 then (if (bt325.2.2 != bt328.2.2) = true then (laws_FnPairsAndPerfect.j2 k2 l0 l1 t320 t321 bt325.1 bt325.2.1 bt325.2.2 true) else (if bt325.1 = bt328.1 then (laws_FnPairsAndPerfect.j2 k2 l0 l1 t320 t321 bt325.1 bt325.2.1 bt325.2.2 (bt325.2.1 != bt328.2.1)) else (laws_FnPairsAndPerfect.j2 k2 l0 l1 t320 t321 bt325.1 bt325.2.1 bt325.2.2 true))) else (laws_FnPairsAndPerfect.j2 k2 l0 l1 t320 t321 bt325.1 bt325.2.1 bt325.2.2 true))))) = some r := H
                have A38 := Aside0.mk A380
                clear A380
                replace H := Option.bind_eq_some_iff.mp H
                obtain ⟨⟨t325, t326, t327⟩, A390, H⟩ := H
                replace H : ((spec_ThabitPair.f k2 t324).bind fun bt328 => (if (t321 != t323) = true then (laws_FnPairsAndPerfect.j2 k2 l0 l1 t320 t321 t325 t326 t327 true) else (if t320 = t322 then (if (t327 != bt328.2.2) = true then (laws_FnPairsAndPerfect.j2 k2 l0 l1 t320 t321 t325 t326 t327 true) else (if t325 = bt328.1 then (laws_FnPairsAndPerfect.j2 k2 l0 l1 t320 t321 t325 t326 t327 (t326 != bt328.2.1)) else (laws_FnPairsAndPerfect.j2 k2 l0 l1 t320 t321 t325 t326 t327 true))) else (laws_FnPairsAndPerfect.j2 k2 l0 l1 t320 t321 t325 t326 t327 true)))) = some r := H
                have A39 := Aside0.mk A390
                clear A390
                replace H := Option.bind_eq_some_iff.mp H
                obtain ⟨⟨t328, t329, t330⟩, A400, H⟩ := H
                replace H : (if (t321 != t323) = true then (laws_FnPairsAndPerfect.j2 k2 l0 l1 t320 t321 t325 t326 t327 true) else (if t320 = t322 then (if (t327 != t330) = true then (laws_FnPairsAndPerfect.j2 k2 l0 l1 t320 t321 t325 t326 t327 true) else (if t325 = t328 then (laws_FnPairsAndPerfect.j2 k2 l0 l1 t320 t321 t325 t326 t327 (t326 != t329)) else (laws_FnPairsAndPerfect.j2 k2 l0 l1 t320 t321 t325 t326 t327 true))) else (laws_FnPairsAndPerfect.j2 k2 l0 l1 t320 t321 t325 t326 t327 true))) = some r := H
                have A40 := Aside0.mk A400
                clear A400
                have HC41 := Aside0.mk H
                clear H
                go_upto_region 21 with (first | (go_at_call 21; (with_reducible refine (spec_DrawEvenPerfect.calls _ _ l1 t319 _ ?side1 ?side2 A35.out).mono ?_); (case side1 => repeat (first | exact (Kd.C_below HR1.out HB.out) | (with_reducible refine Kd.C_alloc ?_ _) | (with_reducible refine Kd.C_drewN ?_ _) | (with_reducible refine Kd.C_drew ?_))); (case side2 => exact HC1.out); rintro e w42 ⟨rfl, hb⟩; have n0_ := Aside0.mk (Kd.S_below (by (with_reducible repeat (first | apply Kd.S_alloc | apply Kd.S_drewN | apply Kd.S_drew)); exact HO_6.out) hb); have n1_ := Aside0.mk (Kd.S_below (by (with_reducible repeat (first | apply Kd.S_alloc | apply Kd.S_drewN | apply Kd.S_drew)); exact HO_71.out) hb); have n2_ := Aside0.mk (below_step (by repeat (first | (with_reducible first | exact HB.out | apply below_alloc | apply pw_below_drewN | apply below_drew1) | exact HB.out)) hb); clear HO_6; clear HO_71; clear HB; have HO_6 := n0_; have HO_71 := n1_; have HB := n2_; clear n0_ n1_ n2_; (try clear hb); (try clear hb2); (try clear hk); (try clear hi)) | (go_at_call 22; (with_reducible refine (impl_EvenPerfect.calls k2 t319 t320 t321 _ A36.out).mono ?_); rintro e w43 ⟨rfl, hb⟩; have n0_ := Aside0.mk (Kd.S_below (by (with_reducible repeat (first | apply Kd.S_alloc | apply Kd.S_drewN | apply Kd.S_drew)); exact HO_6.out) hb); have n1_ := Aside0.mk (Kd.S_below (by (with_reducible repeat (first | apply Kd.S_alloc | apply Kd.S_drewN | apply Kd.S_drew)); exact HO_71.out) hb); have n2_ := Aside0.mk (below_step (by repeat (first | (with_reducible first | exact HB.out | apply below_alloc | apply pw_below_drewN | apply below_drew1) | exact HB.out)) hb); clear HO_6; clear HO_71; clear HB; have HO_6 := n0_; have HO_71 := n1_; have HB := n2_; clear n0_ n1_ n2_; (try clear hb); (try clear hb2); (try clear hk); (try clear hi)) | (go_at_call 23; (with_reducible refine (spec_EvenPerfect.calls k2 t319 t322 t323 _ A37.out).mono ?_); rintro e w44 ⟨rfl, hb⟩; have n0_ := Aside0.mk (Kd.S_below (by (with_reducible repeat (first | apply Kd.S_alloc | apply Kd.S_drewN | apply Kd.S_drew)); exact HO_6.out) hb); have n1_ := Aside0.mk (Kd.S_below (by (with_reducible repeat (first | apply Kd.S_alloc | apply Kd.S_drewN | apply Kd.S_drew)); exact HO_71.out) hb); have n2_ := Aside0.mk (below_step (by repeat (first | (with_reducible first | exact HB.out | apply below_alloc | apply pw_below_drewN | apply below_drew1) | exact HB.out)) hb); clear HO_6; clear HO_71; clear HB; have HO_6 := n0_; have HO_71 := n1_; have HB := n2_; clear n0_ n1_ n2_; (try clear hb); (try clear hb2); (try clear hk); (try clear hi)) | (go_at_call 24; (with_reducible refine (spec_DrawThabitPair.calls _ _ l1 t324 _ ?side1 ?side2 A38.out).mono ?_); (case side1 => repeat (first | exact (Kd.C_below HR1.out HB.out) | (with_reducible refine Kd.C_alloc ?_ _) | (with_reducible refine Kd.C_drewN ?_ _) | (with_reducible refine Kd.C_drew ?_))); (case side2 => exact HC1.out); rintro e w45 ⟨rfl, hb⟩; have n0_ := Aside0.mk (Kd.S_below (by (with_reducible repeat (first | apply Kd.S_alloc | apply Kd.S_drewN | apply Kd.S_drew)); exact HO_6.out) hb); have n1_ := Aside0.mk (Kd.S_below (by (with_reducible repeat (first | apply Kd.S_alloc | apply Kd.S_drewN | apply Kd.S_drew)); exact HO_71.out) hb); have n2_ := Aside0.mk (below_step (by repeat (first | (with_reducible first | exact HB.out | apply below_alloc | apply pw_below_drewN | apply below_drew1) | exact HB.out)) hb); clear HO_6; clear HO_71; clear HB; have HO_6 := n0_; have HO_71 := n1_; have HB := n2_; clear n0_ n1_ n2_; (try clear hb); (try clear hb2); (try clear hk); (try clear hi)) | (go_at_call 25; (with_reducible refine (impl_ThabitPair.calls k2 t324 t325 t326 t327 _ A39.out).mono ?_); rintro e w46 ⟨rfl, hb⟩; have n0_ := Aside0.mk (Kd.S_below (by (with_reducible repeat (first | apply Kd.S_alloc | apply Kd.S_drewN | apply Kd.S_drew)); exact HO_6.out) hb); have n1_ := Aside0.mk (Kd.S_below (by (with_reducible repeat (first | apply Kd.S_alloc | apply Kd.S_drewN | apply Kd.S_drew)); exact HO_71.out) hb); have n2_ := Aside0.mk (below_step (by repeat (first | (with_reducible first | exact HB.out | apply below_alloc | apply pw_below_drewN | apply below_drew1) | exact HB.out)) hb); clear HO_6; clear HO_71; clear HB; have HO_6 := n0_; have HO_71 := n1_; have HB := n2_; clear n0_ n1_ n2_; (try clear hb); (try clear hb2); (try clear hk); (try clear hi)) | (go_at_call 26; (with_reducible refine (spec_ThabitPair.calls k2 t324 t328 t329 t330 _ A40.out).mono ?_); rintro e w47 ⟨rfl, hb⟩; have n0_ := Aside0.mk (Kd.S_below (by (with_reducible repeat (first | apply Kd.S_alloc | apply Kd.S_drewN | apply Kd.S_drew)); exact HO_6.out) hb); have n1_ := Aside0.mk (Kd.S_below (by (with_reducible repeat (first | apply Kd.S_alloc | apply Kd.S_drewN | apply Kd.S_drew)); exact HO_71.out) hb); have n2_ := Aside0.mk (below_step (by repeat (first | (with_reducible first | exact HB.out | apply below_alloc | apply pw_below_drewN | apply below_drew1) | exact HB.out)) hb); clear HO_6; clear HO_71; clear HB; have HO_6 := n0_; have HO_71 := n1_; have HB := n2_; clear n0_ n1_ n2_; (try clear hb); (try clear hb2); (try clear hk); (try clear hi)))
                repeat (go_quiet (first | (go_at_call 21; (with_reducible refine (spec_DrawEvenPerfect.calls _ _ l1 t319 _ ?side1 ?side2 A35.out).mono ?_); (case side1 => repeat (first | exact (Kd.C_below HR1.out HB.out) | (with_reducible refine Kd.C_alloc ?_ _) | (with_reducible refine Kd.C_drewN ?_ _) | (with_reducible refine Kd.C_drew ?_))); (case side2 => exact HC1.out); rintro e w42 ⟨rfl, hb⟩; have n0_ := Aside0.mk (Kd.S_below (by (with_reducible repeat (first | apply Kd.S_alloc | apply Kd.S_drewN | apply Kd.S_drew)); exact HO_6.out) hb); have n1_ := Aside0.mk (Kd.S_below (by (with_reducible repeat (first | apply Kd.S_alloc | apply Kd.S_drewN | apply Kd.S_drew)); exact HO_71.out) hb); have n2_ := Aside0.mk (below_step (by repeat (first | (with_reducible first | exact HB.out | apply below_alloc | apply pw_below_drewN | apply below_drew1) | exact HB.out)) hb); clear HO_6; clear HO_71; clear HB; have HO_6 := n0_; have HO_71 := n1_; have HB := n2_; clear n0_ n1_ n2_; (try clear hb); (try clear hb2); (try clear hk); (try clear hi)) | (go_at_call 22; (with_reducible refine (impl_EvenPerfect.calls k2 t319 t320 t321 _ A36.out).mono ?_); rintro e w43 ⟨rfl, hb⟩; have n0_ := Aside0.mk (Kd.S_below (by (with_reducible repeat (first | apply Kd.S_alloc | apply Kd.S_drewN | apply Kd.S_drew)); exact HO_6.out) hb); have n1_ := Aside0.mk (Kd.S_below (by (with_reducible repeat (first | apply Kd.S_alloc | apply Kd.S_drewN | apply Kd.S_drew)); exact HO_71.out) hb); have n2_ := Aside0.mk (below_step (by repeat (first | (with_reducible first | exact HB.out | apply below_alloc | apply pw_below_drewN | apply below_drew1) | exact HB.out)) hb); clear HO_6; clear HO_71; clear HB; have HO_6 := n0_; have HO_71 := n1_; have HB := n2_; clear n0_ n1_ n2_; (try clear hb); (try clear hb2); (try clear hk); (try clear hi)) | (go_at_call 23; (with_reducible refine (spec_EvenPerfect.calls k2 t319 t322 t323 _ A37.out).mono ?_); rintro e w44 ⟨rfl, hb⟩; have n0_ := Aside0.mk (Kd.S_below (by (with_reducible repeat (first | apply Kd.S_alloc | apply Kd.S_drewN | apply Kd.S_drew)); exact HO_6.out) hb); have n1_ := Aside0.mk (Kd.S_below (by (with_reducible repeat (first | apply Kd.S_alloc | apply Kd.S_drewN | apply Kd.S_drew)); exact HO_71.out) hb); have n2_ := Aside0.mk (below_step (by repeat (first | (with_reducible first | exact HB.out | apply below_alloc | apply pw_below_drewN | apply below_drew1) | exact HB.out)) hb); clear HO_6; clear HO_71; clear HB; have HO_6 := n0_; have HO_71 := n1_; have HB := n2_; clear n0_ n1_ n2_; (try clear hb); (try clear hb2); (try clear hk); (try clear hi)) | (go_at_call 24; (with_reducible refine (spec_DrawThabitPair.calls _ _ l1 t324 _ ?side1 ?side2 A38.out).mono ?_); (case side1 => repeat (first | exact (Kd.C_below HR1.out HB.out) | (with_reducible refine Kd.C_alloc ?_ _) | (with_reducible refine Kd.C_drewN ?_ _) | (with_reducible refine Kd.C_drew ?_))); (case side2 => exact HC1.out); rintro e w45 ⟨rfl, hb⟩; have n0_ := Aside0.mk (Kd.S_below (by (with_reducible repeat (first | apply Kd.S_alloc | apply Kd.S_drewN | apply Kd.S_drew)); exact HO_6.out) hb); have n1_ := Aside0.mk (Kd.S_below (by (with_reducible repeat (first | apply Kd.S_alloc | apply Kd.S_drewN | apply Kd.S_drew)); exact HO_71.out) hb); have n2_ := Aside0.mk (below_step (by repeat (first | (with_reducible first | exact HB.out | apply below_alloc | apply pw_below_drewN | apply below_drew1) | exact HB.out)) hb); clear HO_6; clear HO_71; clear HB; have HO_6 := n0_; have HO_71 := n1_; have HB := n2_; clear n0_ n1_ n2_; (try clear hb); (try clear hb2); (try clear hk); (try clear hi)) | (go_at_call 25; (with_reducible refine (impl_ThabitPair.calls k2 t324 t325 t326 t327 _ A39.out).mono ?_); rintro e w46 ⟨rfl, hb⟩; have n0_ := Aside0.mk (Kd.S_below (by (with_reducible repeat (first | apply Kd.S_alloc | apply Kd.S_drewN | apply Kd.S_drew)); exact HO_6.out) hb); have n1_ := Aside0.mk (Kd.S_below (by (with_reducible repeat (first | apply Kd.S_alloc | apply Kd.S_drewN | apply Kd.S_drew)); exact HO_71.out) hb); have n2_ := Aside0.mk (below_step (by repeat (first | (with_reducible first | exact HB.out | apply below_alloc | apply pw_below_drewN | apply below_drew1) | exact HB.out)) hb); clear HO_6; clear HO_71; clear HB; have HO_6 := n0_; have HO_71 := n1_; have HB := n2_; clear n0_ n1_ n2_; (try clear hb); (try clear hb2); (try clear hk); (try clear hi)) | (go_at_call 26; (with_reducible refine (spec_ThabitPair.calls k2 t324 t328 t329 t330 _ A40.out).mono ?_); rintro e w47 ⟨rfl, hb⟩; have n0_ := Aside0.mk (Kd.S_below (by (with_reducible repeat (first | apply Kd.S_alloc | apply Kd.S_drewN | apply Kd.S_drew)); exact HO_6.out) hb); have n1_ := Aside0.mk (Kd.S_below (by (with_reducible repeat (first | apply Kd.S_alloc | apply Kd.S_drewN | apply Kd.S_drew)); exact HO_71.out) hb); have n2_ := Aside0.mk (below_step (by repeat (first | (with_reducible first | exact HB.out | apply below_alloc | apply pw_below_drewN | apply below_drew1) | exact HB.out)) hb); clear HO_6; clear HO_71; clear HB; have HO_6 := n0_; have HO_71 := n1_; have HB := n2_; clear n0_ n1_ n2_; (try clear hb); (try clear hb2); (try clear hk); (try clear hi))); go_upto_region 21 with (first | (go_at_call 21; (with_reducible refine (spec_DrawEvenPerfect.calls _ _ l1 t319 _ ?side1 ?side2 A35.out).mono ?_); (case side1 => repeat (first | exact (Kd.C_below HR1.out HB.out) | (with_reducible refine Kd.C_alloc ?_ _) | (with_reducible refine Kd.C_drewN ?_ _) | (with_reducible refine Kd.C_drew ?_))); (case side2 => exact HC1.out); rintro e w42 ⟨rfl, hb⟩; have n0_ := Aside0.mk (Kd.S_below (by (with_reducible repeat (first | apply Kd.S_alloc | apply Kd.S_drewN | apply Kd.S_drew)); exact HO_6.out) hb); have n1_ := Aside0.mk (Kd.S_below (by (with_reducible repeat (first | apply Kd.S_alloc | apply Kd.S_drewN | apply Kd.S_drew)); exact HO_71.out) hb); have n2_ := Aside0.mk (below_step (by repeat (first | (with_reducible first | exact HB.out | apply below_alloc | apply pw_below_drewN | apply below_drew1) | exact HB.out)) hb); clear HO_6; clear HO_71; clear HB; have HO_6 := n0_; have HO_71 := n1_; have HB := n2_; clear n0_ n1_ n2_; (try clear hb); (try clear hb2); (try clear hk); (try clear hi)) | (go_at_call 22; (with_reducible refine (impl_EvenPerfect.calls k2 t319 t320 t321 _ A36.out).mono ?_); rintro e w43 ⟨rfl, hb⟩; have n0_ := Aside0.mk (Kd.S_below (by (with_reducible repeat (first | apply Kd.S_alloc | apply Kd.S_drewN | apply Kd.S_drew)); exact HO_6.out) hb); have n1_ := Aside0.mk (Kd.S_below (by (with_reducible repeat (first | apply Kd.S_alloc | apply Kd.S_drewN | apply Kd.S_drew)); exact HO_71.out) hb); have n2_ := Aside0.mk (below_step (by repeat (first | (with_reducible first | exact HB.out | apply below_alloc | apply pw_below_drewN | apply below_drew1) | exact HB.out)) hb); clear HO_6; clear HO_71; clear HB; have HO_6 := n0_; have HO_71 := n1_; have HB := n2_; clear n0_ n1_ n2_; (try clear hb); (try clear hb2); (try clear hk); (try clear hi)) | (go_at_call 23; (with_reducible refine (spec_EvenPerfect.calls k2 t319 t322 t323 _ A37.out).mono ?_); rintro e w44 ⟨rfl, hb⟩; have n0_ := Aside0.mk (Kd.S_below (by (with_reducible repeat (first | apply Kd.S_alloc | apply Kd.S_drewN | apply Kd.S_drew)); exact HO_6.out) hb); have n1_ := Aside0.mk (Kd.S_below (by (with_reducible repeat (first | apply Kd.S_alloc | apply Kd.S_drewN | apply Kd.S_drew)); exact HO_71.out) hb); have n2_ := Aside0.mk (below_step (by repeat (first | (with_reducible first | exact HB.out | apply below_alloc | apply pw_below_drewN | apply below_drew1) | exact HB.out)) hb); clear HO_6; clear HO_71; clear HB; have HO_6 := n0_; have HO_71 := n1_; have HB := n2_; clear n0_ n1_ n2_; (try clear hb); (try clear hb2); (try clear hk); (try clear hi)) | (go_at_call 24; (with_reducible refine (spec_DrawThabitPair.calls _ _ l1 t324 _ ?side1 ?side2 A38.out).mono ?_); (case side1 => repeat (first | exact (Kd.C_below HR1.out HB.out) | (with_reducible refine Kd.C_alloc ?_ _) | (with_reducible refine Kd.C_drewN ?_ _) | (with_reducible refine Kd.C_drew ?_))); (case side2 => exact HC1.out); rintro e w45 ⟨rfl, hb⟩; have n0_ := Aside0.mk (Kd.S_below (by (with_reducible repeat (first | apply Kd.S_alloc | apply Kd.S_drewN | apply Kd.S_drew)); exact HO_6.out) hb); have n1_ := Aside0.mk (Kd.S_below (by (with_reducible repeat (first | apply Kd.S_alloc | apply Kd.S_drewN | apply Kd.S_drew)); exact HO_71.out) hb); have n2_ := Aside0.mk (below_step (by repeat (first | (with_reducible first | exact HB.out | apply below_alloc | apply pw_below_drewN | apply below_drew1) | exact HB.out)) hb); clear HO_6; clear HO_71; clear HB; have HO_6 := n0_; have HO_71 := n1_; have HB := n2_; clear n0_ n1_ n2_; (try clear hb); (try clear hb2); (try clear hk); (try clear hi)) | (go_at_call 25; (with_reducible refine (impl_ThabitPair.calls k2 t324 t325 t326 t327 _ A39.out).mono ?_); rintro e w46 ⟨rfl, hb⟩; have n0_ := Aside0.mk (Kd.S_below (by (with_reducible repeat (first | apply Kd.S_alloc | apply Kd.S_drewN | apply Kd.S_drew)); exact HO_6.out) hb); have n1_ := Aside0.mk (Kd.S_below (by (with_reducible repeat (first | apply Kd.S_alloc | apply Kd.S_drewN | apply Kd.S_drew)); exact HO_71.out) hb); have n2_ := Aside0.mk (below_step (by repeat (first | (with_reducible first | exact HB.out | apply below_alloc | apply pw_below_drewN | apply below_drew1) | exact HB.out)) hb); clear HO_6; clear HO_71; clear HB; have HO_6 := n0_; have HO_71 := n1_; have HB := n2_; clear n0_ n1_ n2_; (try clear hb); (try clear hb2); (try clear hk); (try clear hi)) | (go_at_call 26; (with_reducible refine (spec_ThabitPair.calls k2 t324 t328 t329 t330 _ A40.out).mono ?_); rintro e w47 ⟨rfl, hb⟩; have n0_ := Aside0.mk (Kd.S_below (by (with_reducible repeat (first | apply Kd.S_alloc | apply Kd.S_drewN | apply Kd.S_drew)); exact HO_6.out) hb); have n1_ := Aside0.mk (Kd.S_below (by (with_reducible repeat (first | apply Kd.S_alloc | apply Kd.S_drewN | apply Kd.S_drew)); exact HO_71.out) hb); have n2_ := Aside0.mk (below_step (by repeat (first | (with_reducible first | exact HB.out | apply below_alloc | apply pw_below_drewN | apply below_drew1) | exact HB.out)) hb); clear HO_6; clear HO_71; clear HB; have HO_6 := n0_; have HO_71 := n1_; have HB := n2_; clear n0_ n1_ n2_; (try clear hb); (try clear hb2); (try clear hk); (try clear hi))))
                (try simp only [Act.put, List.setIfInBounds_toArray, List.set_cons_zero, List.set_cons_succ])
                go_cut [169] (fun v169 wc => ∃ (kq : Nat) (x169_40 : Bool), v169 = .bool x169_40 ∧ Aside0 (laws_FnPairsAndPerfect.j2 kq l0 l1 t320 t321 t325 t326 t327 x169_40 = some r) ∧ Aside0 (kq ≤ k2) ∧ Aside0 (Below w.heap.size w wc))
                case first =>
                  have H := HC41.out
                  clear HC41
                  by_cases c48 : (t321 != t323) = true
                  · rw [if_pos c48] at H
                    have c48b0 : (t321 != t323) = true := c48
                    (try (have c48b1 : decide (t321 = t323) = false := by simpa using c48))
                    (try (have c48b2 : (t321 == t323) = false := by simpa using c48))
                    (try (have c48b3 : ¬ (t321 = t323) := by simpa using c48))
                    clear c48
                    (first | rw [c48b0] | (simp only [i64_w, i32_w]; rw [c48b0]) | skip)
                    exact (laws_FnPairsAndPerfect.j2_no HR_.out _ _ _ _ _ _ _ _ H).elim
                  · rw [if_neg c48] at H
                    have c48b0 : (t321 != t323) = false := by simpa using c48
                    (try (have c48b1 : decide (t321 = t323) = true := by simpa using c48))
                    (try (have c48b2 : (t321 == t323) = true := by simpa using c48))
                    clear c48
                    (first | rw [c48b0] | (simp only [i64_w, i32_w]; rw [c48b0]) | skip)
                    by_cases c49 : t320 = t322
                    · rw [if_pos c49] at H
                      have c49b0 : (t320 == t322) = true := beq_iff_eq.mpr c49
                      have c49b1 : (t320 != t322) = false := bne_eq_false_iff_eq.mpr c49
                      clear c49
                      by_cases c50 : (t327 != t330) = true
                      · rw [if_pos c50] at H
                        have c50b0 : (t327 != t330) = true := c50
                        (try (have c50b1 : decide (t327 = t330) = false := by simpa using c50))
                        (try (have c50b2 : (t327 == t330) = false := by simpa using c50))
                        (try (have c50b3 : ¬ (t327 = t330) := by simpa using c50))
                        clear c50
                        exact (laws_FnPairsAndPerfect.j2_no HR_.out _ _ _ _ _ _ _ _ H).elim
                      · rw [if_neg c50] at H
                        have c50b0 : (t327 != t330) = false := by simpa using c50
                        (try (have c50b1 : decide (t327 = t330) = true := by simpa using c50))
                        (try (have c50b2 : (t327 == t330) = true := by simpa using c50))
                        clear c50
                        by_cases c51 : t325 = t328
                        · rw [if_pos c51] at H
                          have c51b0 : (t325 == t328) = true := beq_iff_eq.mpr c51
                          have c51b1 : (t325 != t328) = false := bne_eq_false_iff_eq.mpr c51
                          clear c51
                          as_aux_lemma =>
                            have H' := Aside0.mk H
                            clear H
                            go_wp2
                            repeat (go_quiet (fail); try go_wp2)
                            go_meet
                            case rel => exact ⟨_, ((t326 != t329)), (by first | rfl | (simp; done) | (simp [*]; done)), H', ⟨by have := HJ7.out; have := HK2.out; first | omega | exact Nat.le_refl _⟩, ⟨by repeat (first | (with_reducible first | exact HB.out | apply below_alloc | apply pw_below_drewN | apply below_drew1) | exact HB.out)⟩⟩
                        · rw [if_neg c51] at H
                          have c51b0 : (t325 == t328) = false := beq_eq_false_iff_ne.mpr c51
                          have c51b1 : (t325 != t328) = true := bne_iff_ne.mpr c51
                          exact (laws_FnPairsAndPerfect.j2_no HR_.out _ _ _ _ _ _ _ _ H).elim
                    · rw [if_neg c49] at H
                      have c49b0 : (t320 == t322) = false := beq_eq_false_iff_ne.mpr c49
                      have c49b1 : (t320 != t322) = true := bne_iff_ne.mpr c49
                      exact (laws_FnPairsAndPerfect.j2_no HR_.out _ _ _ _ _ _ _ _ H).elim
                case rest =>
                  clear HC41
                  try clear c1
                  try clear c2
                  try clear p2
                  try clear c3
                  try clear p3
                  try clear q3
                  try clear hx3
                  try clear qi3
                  try clear c4
                  try clear c5
                  try clear p6
                  try clear c12
                  try clear c12b0
                  try clear c12b1
                  try clear c12b2
                  try clear c16
                  try clear c18
                  try clear c18b0
                  try clear c19
                  try clear c19b0
                  try clear c20
                  try clear c20b0
                  try clear c21
                  try clear c21b0
                  try clear c21b1
                  try clear c23
                  try clear c24
                  try clear c24b0
                  try clear c24b1
                  try clear c25
                  try clear c25b0
                  try clear c25b1
                  try clear c26
                  try clear c26b0
                  try clear c27
                  try clear c27b0
                  try clear c29
                  try clear c29b0
                  try clear c30
                  try clear c30b0
                  try clear p30
                  try clear q30
                  try clear hx30
                  try clear c31
                  try clear c31b0
                  try clear c31b1
                  try clear p31
                  try clear q31
                  try clear hx31
                  try clear qi31
                  try clear c32
                  try clear c32b0
                  try clear c48
                  try clear c48b0
                  try clear c48b1
                  try clear c48b2
                  try clear c49
                  try clear c49b0
                  try clear c49b1
                  try clear c50
                  try clear c50b0
                  try clear c50b1
                  try clear c50b2
                  try clear c51
                  try clear c51b0
                  try clear c51b1
                  try clear hx309_0
                  try clear hx310_0
                  try clear hx313_0
                  try clear hx314_0
                  try clear hx315_0
                  try clear hx316_0
                  try clear hx317_0
                  try clear hx318_0
                  try clear p2
                  try clear p309
                  try clear p310
                  try clear p313
                  try clear p314
                  try clear p315
                  try clear p316
                  try clear p317
                  try clear p318
                  try clear q309
                  try clear q310
                  try clear q313
                  try clear q314
                  try clear q315
                  try clear q316
                  try clear q317
                  try clear q318
                  obtain ⟨kq, x169_40, rfl, HA, HJ40, HB⟩ := hcut
                  cases kq with
                  | zero => exact absurd HA.out (by simp [laws_FnPairsAndPerfect.j2])
                  | succ kj40 =>
                    have H := HA.out
                    clear HA
                    simp only [laws_FnPairsAndPerfect.j2] at H
                    by_cases c52 : x169_40 = true
                    · subst c52
                      have H1 : (some false) = some r := by rw [if_pos rfl] at H; exact H
                      clear H
                      have H := H1
                      clear H1
                      exact absurd (Option.some.inj H) (by rw [HR_.out]; decide)
                    · replace c52 := Bool.eq_false_iff.mpr c52
                      subst c52
                      have H1 : (if t321 = true then ((impl_KindOfNumber.f kj40 t320).bind fun bt331 => (if bt331.2 = true then (if bt331.1 = 0 then (laws_FnPairsAndPerfect.j3 kj40 l0 l1 t325 t326 t327) else (some false)) else (some false))) else (laws_FnPairsAndPerfect.j3 kj40 l0 l1 t325 t326 t327)) = some r := by rw [if_neg (show ¬ (false = true) by decide)] at H; exact H
                      clear H
                      have H := H1
                      clear H1
                      have HC53 := Aside0.mk H
                      clear H
                      go_upto_if 170 with (fail)
                      repeat (go_quiet (fail); go_upto_if 170 with (fail))
                      go_cut [] (fun wc => ∃ (kq : Nat), Aside0 (laws_FnPairsAndPerfect.j3 kq l0 l1 t325 t326 t327 = some r) ∧ Aside0 (kq ≤ kj40) ∧ Aside0 (Below w.heap.size w wc))
                      case first =>
                        have H := HC53.out
                        clear HC53
                        by_cases c54 : t321 = true
                        · subst c54
                          have H1 : ((impl_KindOfNumber.f kj40 t320).bind fun bt331 => (if bt331.2 = true then (if bt331.1 = 0 then (laws_FnPairsAndPerfect.j3 kj40 l0 l1 t325 t326 t327) else (some false)) else (some false))) = some r := by rw [if_pos rfl] at H; exact H
                          clear H
                          have H := H1
                          clear H1
                          replace H := Option.bind_eq_some_iff.mp H
                          obtain ⟨⟨t331, t332⟩, A550, H⟩ := H
                          replace H : (if t332 = true then (if t331 = 0 then (laws_FnPairsAndPerfect.j3 kj40 l0 l1 t325 t326 t327) else (some false)) else (some false)) = some r := H
                          have A55 := Aside0.mk A550
                          clear A550
                          by_cases c56 : t332 = true
                          · subst c56
                            have H1 : (if t331 = 0 then (laws_FnPairsAndPerfect.j3 kj40 l0 l1 t325 t326 t327) else (some false)) = some r := by rw [if_pos rfl] at H; exact H
                            clear H
                            have H := H1
                            clear H1
                            by_cases c57 : t331 = 0
                            · rw [if_pos c57] at H
                              have c57b0 : (t331 == 0) = true := beq_iff_eq.mpr c57
                              have c57b1 : (t331 != 0) = false := bne_eq_false_iff_eq.mpr c57
                              clear c57
                              (first | rw [c57b0] | (simp only [i64_w, i32_w]; rw [c57b0]) | skip)
                              as_aux_lemma =>
                                have H' := Aside0.mk H
                                clear H
                                go_wp2_with (first | (go_at_call 27; (with_reducible refine (impl_KindOfNumber.calls kj40 t320 t331 true _ A55.out).mono ?_); rintro e w58 ⟨rfl, hb⟩; have n0_ := Aside0.mk (below_step (by repeat (first | (with_reducible first | exact HB.out | apply below_alloc | apply pw_below_drewN | apply below_drew1) | exact HB.out)) hb); clear HB; have HB := n0_; clear n0_; (try clear hb); (try clear hb2); (try clear hk); (try clear hi)))
                                repeat (go_quiet (first | (go_at_call 27; (with_reducible refine (impl_KindOfNumber.calls kj40 t320 t331 true _ A55.out).mono ?_); rintro e w58 ⟨rfl, hb⟩; have n0_ := Aside0.mk (below_step (by repeat (first | (with_reducible first | exact HB.out | apply below_alloc | apply pw_below_drewN | apply below_drew1) | exact HB.out)) hb); clear HB; have HB := n0_; clear n0_; (try clear hb); (try clear hb2); (try clear hk); (try clear hi))); try go_wp2_with (first | (go_at_call 27; (with_reducible refine (impl_KindOfNumber.calls kj40 t320 t331 true _ A55.out).mono ?_); rintro e w58 ⟨rfl, hb⟩; have n0_ := Aside0.mk (below_step (by repeat (first | (with_reducible first | exact HB.out | apply below_alloc | apply pw_below_drewN | apply below_drew1) | exact HB.out)) hb); clear HB; have HB := n0_; clear n0_; (try clear hb); (try clear hb2); (try clear hk); (try clear hi))))
                                go_meet
                                case rel => exact ⟨_, H', ⟨by have := HJ7.out; have := HK2.out; have := HJ40.out; first | omega | exact Nat.le_refl _⟩, ⟨by repeat (first | (with_reducible first | exact HB.out | apply below_alloc | apply pw_below_drewN | apply below_drew1) | exact HB.out)⟩⟩
                            · rw [if_neg c57] at H
                              have c57b0 : (t331 == 0) = false := beq_eq_false_iff_ne.mpr c57
                              have c57b1 : (t331 != 0) = true := bne_iff_ne.mpr c57
                              (first | rw [c57b0] | (simp only [i64_w, i32_w]; rw [c57b0]) | skip)
                              exact absurd (Option.some.inj H) (by rw [HR_.out]; decide)
                          · replace c56 := Bool.eq_false_iff.mpr c56
                            subst c56
                            have H1 : (some false) = some r := by rw [if_neg (show ¬ (false = true) by decide)] at H; exact H
                            clear H
                            have H := H1
                            clear H1
                            exact absurd (Option.some.inj H) (by rw [HR_.out]; decide)
                        · replace c54 := Bool.eq_false_iff.mpr c54
                          subst c54
                          have H1 : (laws_FnPairsAndPerfect.j3 kj40 l0 l1 t325 t326 t327) = some r := by rw [if_neg (show ¬ (false = true) by decide)] at H; exact H
                          clear H
                          have H := H1
                          clear H1
                          as_aux_lemma =>
                            have H' := Aside0.mk H
                            clear H
                            go_wp2
                            repeat (go_quiet (fail); try go_wp2)
                            go_meet
                            case rel => exact ⟨_, H', ⟨by have := HJ7.out; have := HK2.out; have := HJ40.out; first | omega | exact Nat.le_refl _⟩, ⟨by repeat (first | (with_reducible first | exact HB.out | apply below_alloc | apply pw_below_drewN | apply below_drew1) | exact HB.out)⟩⟩
                      case rest =>
                        clear HC53
                        try clear c1
                        try clear c2
                        try clear p2
                        try clear c3
                        try clear p3
                        try clear q3
                        try clear hx3
                        try clear qi3
                        try clear c4
                        try clear c5
                        try clear p6
                        try clear c12
                        try clear c12b0
                        try clear c12b1
                        try clear c12b2
                        try clear c16
                        try clear c18
                        try clear c18b0
                        try clear c19
                        try clear c19b0
                        try clear c20
                        try clear c20b0
                        try clear c21
                        try clear c21b0
                        try clear c21b1
                        try clear c23
                        try clear c24
                        try clear c24b0
                        try clear c24b1
                        try clear c25
                        try clear c25b0
                        try clear c25b1
                        try clear c26
                        try clear c26b0
                        try clear c27
                        try clear c27b0
                        try clear c29
                        try clear c29b0
                        try clear c30
                        try clear c30b0
                        try clear p30
                        try clear q30
                        try clear hx30
                        try clear c31
                        try clear c31b0
                        try clear c31b1
                        try clear p31
                        try clear q31
                        try clear hx31
                        try clear qi31
                        try clear c32
                        try clear c32b0
                        try clear c48
                        try clear c48b0
                        try clear c48b1
                        try clear c48b2
                        try clear c49
                        try clear c49b0
                        try clear c49b1
                        try clear c50
                        try clear c50b0
                        try clear c50b1
                        try clear c50b2
                        try clear c51
                        try clear c51b0
                        try clear c51b1
                        try clear c52
                        try clear c54
                        try clear c56
                        try clear c57
                        try clear c57b0
                        try clear c57b1
                        try clear hx309_0
                        try clear hx310_0
                        try clear hx313_0
                        try clear hx314_0
                        try clear hx315_0
                        try clear hx316_0
                        try clear hx317_0
                        try clear hx318_0
                        try clear p2
                        try clear p3
                        try clear p30
                        try clear p309
                        try clear p31
                        try clear p310
                        try clear p313
                        try clear p314
                        try clear p315
                        try clear p316
                        try clear p317
                        try clear p318
                        try clear p6
                        try clear q3
                        try clear q30
                        try clear q309
                        try clear q31
                        try clear q310
                        try clear q313
                        try clear q314
                        try clear q315
                        try clear q316
                        try clear q317
                        try clear q318
                        obtain ⟨kq, HA, HJ52, HB⟩ := hcut
                        cases kq with
                        | zero => exact absurd HA.out (by simp [laws_FnPairsAndPerfect.j3])
                        | succ kj52 =>
                          have H := HA.out
                          clear HA
                          simp only [laws_FnPairsAndPerfect.j3] at H
                          have HC59 := Aside0.mk H
                          clear H
                          go_upto_if 182 with (fail)
                          repeat (go_quiet (fail); go_upto_if 182 with (fail))
                          go_cut [] (fun wc => ∃ (kq : Nat), Aside0 (laws_FnPairsAndPerfect.j4 kq l0 l1 = some r) ∧ Aside0 (kq ≤ kj52) ∧ Aside0 (Below w.heap.size w wc))
                          case first =>
                            have H := HC59.out
                            clear HC59
                            by_cases c60 : t327 = true
                            · subst c60
                              have H1 : ((impl_PartnerOf.f kj52 t325).bind fun bt333 => (if bt333.2 = true then (if bt333.1 = t326 then (laws_FnPairsAndPerfect.j4 kj52 l0 l1) else (some false)) else (some false))) = some r := by rw [if_pos rfl] at H; exact H
                              clear H
                              have H := H1
                              clear H1
                              replace H := Option.bind_eq_some_iff.mp H
                              obtain ⟨⟨t333, t334⟩, A610, H⟩ := H
                              replace H : (if t334 = true then (if t333 = t326 then (laws_FnPairsAndPerfect.j4 kj52 l0 l1) else (some false)) else (some false)) = some r := H
                              have A61 := Aside0.mk A610
                              clear A610
                              by_cases c62 : t334 = true
                              · subst c62
                                have H1 : (if t333 = t326 then (laws_FnPairsAndPerfect.j4 kj52 l0 l1) else (some false)) = some r := by rw [if_pos rfl] at H; exact H
                                clear H
                                have H := H1
                                clear H1
                                by_cases c63 : t333 = t326
                                · rw [if_pos c63] at H
                                  have c63b0 : (t333 == t326) = true := beq_iff_eq.mpr c63
                                  have c63b1 : (t333 != t326) = false := bne_eq_false_iff_eq.mpr c63
                                  clear c63
                                  (first | rw [c63b0] | (simp only [i64_w, i32_w]; rw [c63b0]) | skip)
                                  as_aux_lemma =>
                                    have H' := Aside0.mk H
                                    clear H
                                    go_wp2_with (first | (go_at_call 20; (with_reducible refine (impl_PartnerOf.calls kj52 t325 t333 true _ A61.out).mono ?_); rintro e w64 ⟨rfl, hb⟩; have n0_ := Aside0.mk (below_step (by repeat (first | (with_reducible first | exact HB.out | apply below_alloc | apply pw_below_drewN | apply below_drew1) | exact HB.out)) hb); clear HB; have HB := n0_; clear n0_; (try clear hb); (try clear hb2); (try clear hk); (try clear hi)))
                                    repeat (go_quiet (first | (go_at_call 20; (with_reducible refine (impl_PartnerOf.calls kj52 t325 t333 true _ A61.out).mono ?_); rintro e w64 ⟨rfl, hb⟩; have n0_ := Aside0.mk (below_step (by repeat (first | (with_reducible first | exact HB.out | apply below_alloc | apply pw_below_drewN | apply below_drew1) | exact HB.out)) hb); clear HB; have HB := n0_; clear n0_; (try clear hb); (try clear hb2); (try clear hk); (try clear hi))); try go_wp2_with (first | (go_at_call 20; (with_reducible refine (impl_PartnerOf.calls kj52 t325 t333 true _ A61.out).mono ?_); rintro e w64 ⟨rfl, hb⟩; have n0_ := Aside0.mk (below_step (by repeat (first | (with_reducible first | exact HB.out | apply below_alloc | apply pw_below_drewN | apply below_drew1) | exact HB.out)) hb); clear HB; have HB := n0_; clear n0_; (try clear hb); (try clear hb2); (try clear hk); (try clear hi))))
                                    go_meet
                                    case rel => exact ⟨_, H', ⟨by have := HJ7.out; have := HK2.out; have := HJ40.out; have := HJ52.out; first | omega | exact Nat.le_refl _⟩, ⟨by repeat (first | (with_reducible first | exact HB.out | apply below_alloc | apply pw_below_drewN | apply below_drew1) | exact HB.out)⟩⟩
                                · rw [if_neg c63] at H
                                  have c63b0 : (t333 == t326) = false := beq_eq_false_iff_ne.mpr c63
                                  have c63b1 : (t333 != t326) = true := bne_iff_ne.mpr c63
                                  (first | rw [c63b0] | (simp only [i64_w, i32_w]; rw [c63b0]) | skip)
                                  exact absurd (Option.some.inj H) (by rw [HR_.out]; decide)
                              · replace c62 := Bool.eq_false_iff.mpr c62
                                subst c62
                                have H1 : (some false) = some r := by rw [if_neg (show ¬ (false = true) by decide)] at H; exact H
                                clear H
                                have H := H1
                                clear H1
                                exact absurd (Option.some.inj H) (by rw [HR_.out]; decide)
                            · replace c60 := Bool.eq_false_iff.mpr c60
                              subst c60
                              have H1 : (laws_FnPairsAndPerfect.j4 kj52 l0 l1) = some r := by rw [if_neg (show ¬ (false = true) by decide)] at H; exact H
                              clear H
                              have H := H1
                              clear H1
                              as_aux_lemma =>
                                have H' := Aside0.mk H
                                clear H
                                go_wp2
                                repeat (go_quiet (fail); try go_wp2)
                                go_meet
                                case rel => exact ⟨_, H', ⟨by have := HJ7.out; have := HK2.out; have := HJ40.out; have := HJ52.out; first | omega | exact Nat.le_refl _⟩, ⟨by repeat (first | (with_reducible first | exact HB.out | apply below_alloc | apply pw_below_drewN | apply below_drew1) | exact HB.out)⟩⟩
                          case rest =>
                            clear HC59
                            try clear c1
                            try clear c2
                            try clear p2
                            try clear c3
                            try clear p3
                            try clear q3
                            try clear hx3
                            try clear qi3
                            try clear c4
                            try clear c5
                            try clear c6
                            try clear p6
                            try clear c12
                            try clear c12b0
                            try clear c12b1
                            try clear c12b2
                            try clear c16
                            try clear c18
                            try clear c18b0
                            try clear c19
                            try clear c19b0
                            try clear c20
                            try clear c20b0
                            try clear c21
                            try clear c21b0
                            try clear c21b1
                            try clear c23
                            try clear c24
                            try clear c24b0
                            try clear c24b1
                            try clear c25
                            try clear c25b0
                            try clear c25b1
                            try clear c26
                            try clear c26b0
                            try clear c27
                            try clear c27b0
                            try clear c29
                            try clear c29b0
                            try clear c30
                            try clear c30b0
                            try clear p30
                            try clear q30
                            try clear hx30
                            try clear c31
                            try clear c31b0
                            try clear c31b1
                            try clear p31
                            try clear q31
                            try clear hx31
                            try clear qi31
                            try clear c32
                            try clear c32b0
                            try clear c48
                            try clear c48b0
                            try clear c48b1
                            try clear c48b2
                            try clear c49
                            try clear c49b0
                            try clear c49b1
                            try clear c50
                            try clear c50b0
                            try clear c50b1
                            try clear c50b2
                            try clear c51
                            try clear c51b0
                            try clear c51b1
                            try clear c52
                            try clear c54
                            try clear c56
                            try clear c57
                            try clear c57b0
                            try clear c57b1
                            try clear c60
                            try clear c62
                            try clear c63
                            try clear c63b0
                            try clear c63b1
                            try clear p64
                            try clear hx309_0
                            try clear hx310_0
                            try clear hx313_0
                            try clear hx314_0
                            try clear hx315_0
                            try clear hx316_0
                            try clear hx317_0
                            try clear hx318_0
                            try clear p2
                            try clear p3
                            try clear p30
                            try clear p309
                            try clear p31
                            try clear p310
                            try clear p313
                            try clear p314
                            try clear p315
                            try clear p316
                            try clear p317
                            try clear p318
                            try clear p6
                            try clear q3
                            try clear q30
                            try clear q309
                            try clear q31
                            try clear q310
                            try clear q313
                            try clear q314
                            try clear q315
                            try clear q316
                            try clear q317
                            try clear q318
                            obtain ⟨kq, HA, HJ58, HB⟩ := hcut
                            cases kq with
                            | zero => exact absurd HA.out (by simp [laws_FnPairsAndPerfect.j4])
                            | succ kj58 =>
                              have H := HA.out
                              clear HA
                              simp only [laws_FnPairsAndPerfect.j4] at H
                              replace H := Option.bind_eq_some_iff.mp H
                              obtain ⟨t335, A650, H⟩ := H
                              replace H : ((impl_SourcesOf.f kj58 t335).bind fun bt336 => ((spec_SourcesOf.f kj58 t335).bind fun bt340 => ((spec_DrawNoSources.f l1).bind fun t344 => ((impl_NoSources.f kj58 t344).bind fun bt345 => ((spec_NoSources.f kj58 t344).bind fun bt349 => (if (bt336.2 != bt340.2) = true then (laws_FnPairsAndPerfect.j5 kj58 t335 bt336.1 bt336.2 t344 bt345.1 bt345.2 true) else ((laws_qSame.f kj58 bt336.1 bt340.1).bind fun t353 => (if t353 = true then (if (bt345.2 != bt349.2) = true then (laws_FnPairsAndPerfect.j5 kj58 t335 bt336.1 bt336.2 t344 bt345.1 bt345.2 true) else ((laws_qSame.f kj58 bt345.1 bt349.1).bind fun t354 => (laws_FnPairsAndPerfect.j5 kj58 t335 bt336.1 bt336.2 t344 bt345.1 bt345.2 (!t354)))) else (laws_FnPairsAndPerfect.j5 kj58 t335 bt336.1 bt336.2 t344 bt345.1 bt345.2 true))))))))) = some r := H
                              have A65 := Aside0.mk A650
                              clear A650
                              replace H := Option.bind_eq_some_iff.mp H
                              obtain ⟨⟨t336, t337⟩, A660, H⟩ := H
                              replace H : ((spec_SourcesOf.f kj58 t335).bind fun bt340 => ((spec_DrawNoSources.f l1).bind fun t344 => ((impl_NoSources.f kj58 t344).bind fun bt345 => ((spec_NoSources.f kj58 t344).bind fun bt349 => (if (t337 != bt340.2) = true then (laws_FnPairsAndPerfect.j5 kj58 t335 t336 t337 t344 bt345.1 bt345.2 true) else ((laws_qSame.f kj58 t336 bt340.1).bind fun t353 => (if t353 = true then (if (bt345.2 != bt349.2) = true then (laws_FnPairsAndPerfect.j5 kj58 t335 t336 t337 t344 bt345.1 bt345.2 true) else ((laws_qSame.f kj58 bt345.1 bt349.1).bind fun t354 => (laws_FnPairsAndPerfect.j5 kj58 t335 t336 t337 t344 bt345.1 bt345.2 (!t354)))) else (laws_FnPairsAndPerfect.j5 kj58 t335 t336 t337 t344 bt345.1 bt345.2 true)))))))) = some r := H
                              have A66 := Aside0.mk A660
                              clear A660
                              replace H := Option.bind_eq_some_iff.mp H
                              obtain ⟨⟨t340, t341⟩, A670, H⟩ := H
                              replace H : ((spec_DrawNoSources.f l1).bind fun t344 => ((impl_NoSources.f kj58 t344).bind fun bt345 => ((spec_NoSources.f kj58 t344).bind fun bt349 => (if (t337 != t341) = true then (laws_FnPairsAndPerfect.j5 kj58 t335 t336 t337 t344 bt345.1 bt345.2 true) else ((laws_qSame.f kj58 t336 t340).bind fun t353 => (if t353 = true then (if (bt345.2 != bt349.2) = true then (laws_FnPairsAndPerfect.j5 kj58 t335 t336 t337 t344 bt345.1 bt345.2 true) else ((laws_qSame.f kj58 bt345.1 bt349.1).bind fun t354 => (laws_FnPairsAndPerfect.j5 kj58 t335 t336 t337 t344 bt345.1 bt345.2 (!t354)))) else (laws_FnPairsAndPerfect.j5 kj58 t335 t336 t337 t344 bt345.1 bt345.2 true))))))) = some r := H
                              have A67 := Aside0.mk A670
                              clear A670
                              replace H := Option.bind_eq_some_iff.mp H
                              obtain ⟨t344, A680, H⟩ := H
                              replace H : ((impl_NoSources.f kj58 t344).bind fun bt345 => ((spec_NoSources.f kj58 t344).bind fun bt349 => (if (t337 != t341) = true then (laws_FnPairsAndPerfect.j5 kj58 t335 t336 t337 t344 bt345.1 bt345.2 true) else ((laws_qSame.f kj58 t336 t340).bind fun t353 => (if t353 = true then (if (bt345.2 != bt349.2) = true then (laws_FnPairsAndPerfect.j5 kj58 t335 t336 t337 t344 bt345.1 bt345.2 true) else ((laws_qSame.f kj58 bt345.1 bt349.1).bind fun t354 => (laws_FnPairsAndPerfect.j5 kj58 t335 t336 t337 t344 bt345.1 bt345.2 (!t354)))) else (laws_FnPairsAndPerfect.j5 kj58 t335 t336 t337 t344 bt345.1 bt345.2 true)))))) = some r := H
                              have A68 := Aside0.mk A680
                              clear A680
                              replace H := Option.bind_eq_some_iff.mp H
                              obtain ⟨⟨t345, t346⟩, A690, H⟩ := H
                              replace H : ((spec_NoSources.f kj58 t344).bind fun bt349 => (if (t337 != t341) = true then (laws_FnPairsAndPerfect.j5 kj58 t335 t336 t337 t344 t345 t346 true) else ((laws_qSame.f kj58 t336 t340).bind fun t353 => (if t353 = true then (if (t346 != bt349.2) = true then (laws_FnPairsAndPerfect.j5 kj58 t335 t336 t337 t344 t345 t346 true) else ((laws_qSame.f kj58 t345 bt349.1).bind fun t354 => (laws_FnPairsAndPerfect.j5 kj58 t335 t336 t337 t344 t345 t346 (!t354)))) else (laws_FnPairsAndPerfect.j5 kj58 t335 t336 t337 t344 t345 t346 true))))) = some r := H
                              have A69 := Aside0.mk A690
                              clear A690
                              replace H := Option.bind_eq_some_iff.mp H
                              obtain ⟨⟨t349, t350⟩, A700, H⟩ := H
                              replace H : (if (t337 != t341) = true then (laws_FnPairsAndPerfect.j5 kj58 t335 t336 t337 t344 t345 t346 true) else ((laws_qSame.f kj58 t336 t340).bind fun t353 => (if t353 = true then (if (t346 != t350) = true then (laws_FnPairsAndPerfect.j5 kj58 t335 t336 t337 t344 t345 t346 true) else ((laws_qSame.f kj58 t345 t349).bind fun t354 => (laws_FnPairsAndPerfect.j5 kj58 t335 t336 t337 t344 t345 t346 (!t354)))) else (laws_FnPairsAndPerfect.j5 kj58 t335 t336 t337 t344 t345 t346 true)))) = some r := H
                              have A70 := Aside0.mk A700
                              clear A700
                              have HC71 := Aside0.mk H
                              clear H
                              go_upto_region 37 with (first | (go_at_call 28; (with_reducible refine (spec_DrawSourcesOf.calls _ _ l0 t335 _ ?side1 ?side2 A65.out).mono ?_); (case side1 => repeat (first | exact (Kd.C_below HR0.out HB.out) | (with_reducible refine Kd.C_alloc ?_ _) | (with_reducible refine Kd.C_drewN ?_ _) | (with_reducible refine Kd.C_drew ?_))); (case side2 => exact HC0.out); rintro e w72 ⟨rfl, hb⟩; have n0_ := Aside0.mk (below_step (by repeat (first | (with_reducible first | exact HB.out | apply below_alloc | apply pw_below_drewN | apply below_drew1) | exact HB.out)) hb); clear HB; have HB := n0_; clear n0_; (try clear hb); (try clear hb2); (try clear hk); (try clear hi)) | (go_at_call 29; (with_reducible refine (impl_SourcesOf.calls kj58 t335 t336 t337 _ A66.out).mono ?_); rintro e w73 ⟨v338, rfl, ho0, hb⟩; have n0_ := Aside0.mk (Kd.R_lower ho0 (below_size (by repeat (first | (with_reducible first | exact HB.out | apply below_alloc | apply pw_below_drewN | apply below_drew1) | exact HB.out)))); have n1_ := Aside0.mk (below_step (by repeat (first | (with_reducible first | exact HB.out | apply below_alloc | apply pw_below_drewN | apply below_drew1) | exact HB.out)) hb); clear HB; have HO339 := n0_; have HB := n1_; clear n0_ n1_; (try clear hb); (try clear hb2); (try clear hk); (try clear hi); (try clear ho0)) | (go_at_call 30; (with_reducible refine (spec_SourcesOf.calls kj58 t335 t340 t341 _ A67.out).mono ?_); rintro e w74 ⟨v342, rfl, ho0, hb⟩; have n0_ := Aside0.mk (Kd.R_elder' (by (with_reducible repeat (first | apply Kd.R_alloc | apply Kd.R_drewN | apply Kd.R_drew)); exact HO339.out) (Kd.R_base ho0) hb); have n1_ := Aside0.mk (Kd.R_lower (Kd.R_new' ho0 (Kd.R_lt (by (with_reducible repeat (first | apply Kd.R_alloc | apply Kd.R_drewN | apply Kd.R_drew)); exact HO339.out))) (below_size (by repeat (first | (with_reducible first | exact HB.out | apply below_alloc | apply pw_below_drewN | apply below_drew1) | exact HB.out)))); have n2_ := Aside0.mk (below_step (by repeat (first | (with_reducible first | exact HB.out | apply below_alloc | apply pw_below_drewN | apply below_drew1) | exact HB.out)) hb); clear HO339; clear HB; have HO339 := n0_; have HO343 := n1_; have HB := n2_; clear n0_ n1_ n2_; (try clear hb); (try clear hb2); (try clear hk); (try clear hi); (try clear ho0)) | (go_at_call 31; (with_reducible refine (spec_DrawNoSources.calls _ _ l1 t344 _ ?side1 ?side2 A68.out).mono ?_); (case side1 => repeat (first | exact (Kd.C_below HR1.out HB.out) | (with_reducible refine Kd.C_alloc ?_ _) | (with_reducible refine Kd.C_drewN ?_ _) | (with_reducible refine Kd.C_drew ?_))); (case side2 => exact HC1.out); rintro e w75 ⟨rfl, hb⟩; have n0_ := Aside0.mk (Kd.R_below (by (with_reducible repeat (first | apply Kd.R_alloc | apply Kd.R_drewN | apply Kd.R_drew)); exact HO339.out) hb); have n1_ := Aside0.mk (Kd.R_below (by (with_reducible repeat (first | apply Kd.R_alloc | apply Kd.R_drewN | apply Kd.R_drew)); exact HO343.out) hb); have n2_ := Aside0.mk (below_step (by repeat (first | (with_reducible first | exact HB.out | apply below_alloc | apply pw_below_drewN | apply below_drew1) | exact HB.out)) hb); clear HO339; clear HO343; clear HB; have HO339 := n0_; have HO343 := n1_; have HB := n2_; clear n0_ n1_ n2_; (try clear hb); (try clear hb2); (try clear hk); (try clear hi)) | (go_at_call 32; (with_reducible refine (impl_NoSources.calls kj58 t344 t345 t346 _ A69.out).mono ?_); rintro e w76 ⟨v347, rfl, ho0, hb⟩; have n0_ := Aside0.mk (Kd.R_elder' (by (with_reducible repeat (first | apply Kd.R_alloc | apply Kd.R_drewN | apply Kd.R_drew)); exact HO339.out) (Kd.R_base ho0) hb); have n1_ := Aside0.mk (Kd.R_elder' (by (with_reducible repeat (first | apply Kd.R_alloc | apply Kd.R_drewN | apply Kd.R_drew)); exact HO343.out) (Kd.R_base ho0) hb); have n2_ := Aside0.mk (Kd.R_lower (Kd.R_new' (Kd.R_new' ho0 (Kd.R_lt (by (with_reducible repeat (first | apply Kd.R_alloc | apply Kd.R_drewN | apply Kd.R_drew)); exact HO339.out))) (Kd.R_lt (by (with_reducible repeat (first | apply Kd.R_alloc | apply Kd.R_drewN | apply Kd.R_drew)); exact HO343.out))) (below_size (by repeat (first | (with_reducible first | exact HB.out | apply below_alloc | apply pw_below_drewN | apply below_drew1) | exact HB.out)))); have n3_ := Aside0.mk (below_step (by repeat (first | (with_reducible first | exact HB.out | apply below_alloc | apply pw_below_drewN | apply below_drew1) | exact HB.out)) hb); clear HO339; clear HO343; clear HB; have HO339 := n0_; have HO343 := n1_; have HO348 := n2_; have HB := n3_; clear n0_ n1_ n2_ n3_; (try clear hb); (try clear hb2); (try clear hk); (try clear hi); (try clear ho0)) | (go_at_call 33; (with_reducible refine (spec_NoSources.calls kj58 t344 t349 t350 _ A70.out).mono ?_); rintro e w77 ⟨v351, rfl, ho0, hb⟩; have n0_ := Aside0.mk (Kd.R_elder' (by (with_reducible repeat (first | apply Kd.R_alloc | apply Kd.R_drewN | apply Kd.R_drew)); exact HO339.out) (Kd.R_base ho0) hb); have n1_ := Aside0.mk (Kd.R_elder' (by (with_reducible repeat (first | apply Kd.R_alloc | apply Kd.R_drewN | apply Kd.R_drew)); exact HO343.out) (Kd.R_base ho0) hb); have n2_ := Aside0.mk (Kd.R_elder' (by (with_reducible repeat (first | apply Kd.R_alloc | apply Kd.R_drewN | apply Kd.R_drew)); exact HO348.out) (Kd.R_base ho0) hb); have n3_ := Aside0.mk (Kd.R_lower (Kd.R_new' (Kd.R_new' (Kd.R_new' ho0 (Kd.R_lt (by (with_reducible repeat (first | apply Kd.R_alloc | apply Kd.R_drewN | apply Kd.R_drew)); exact HO339.out))) (Kd.R_lt (by (with_reducible repeat (first | apply Kd.R_alloc | apply Kd.R_drewN | apply Kd.R_drew)); exact HO343.out))) (Kd.R_lt (by (with_reducible repeat (first | apply Kd.R_alloc | apply Kd.R_drewN | apply Kd.R_drew)); exact HO348.out))) (below_size (by repeat (first | (with_reducible first | exact HB.out | apply below_alloc | apply pw_below_drewN | apply below_drew1) | exact HB.out)))); have n4_ := Aside0.mk (below_step (by repeat (first | (with_reducible first | exact HB.out | apply below_alloc | apply pw_below_drewN | apply below_drew1) | exact HB.out)) hb); clear HO339; clear HO343; clear HO348; clear HB; have HO339 := n0_; have HO343 := n1_; have HO348 := n2_; have HO352 := n3_; have HB := n4_; clear n0_ n1_ n2_ n3_ n4_; (try clear hb); (try clear hb2); (try clear hk); (try clear hi); (try clear ho0)))
                              repeat (go_quiet (first | (go_at_call 28; (with_reducible refine (spec_DrawSourcesOf.calls _ _ l0 t335 _ ?side1 ?side2 A65.out).mono ?_); (case side1 => repeat (first | exact (Kd.C_below HR0.out HB.out) | (with_reducible refine Kd.C_alloc ?_ _) | (with_reducible refine Kd.C_drewN ?_ _) | (with_reducible refine Kd.C_drew ?_))); (case side2 => exact HC0.out); rintro e w72 ⟨rfl, hb⟩; have n0_ := Aside0.mk (below_step (by repeat (first | (with_reducible first | exact HB.out | apply below_alloc | apply pw_below_drewN | apply below_drew1) | exact HB.out)) hb); clear HB; have HB := n0_; clear n0_; (try clear hb); (try clear hb2); (try clear hk); (try clear hi)) | (go_at_call 29; (with_reducible refine (impl_SourcesOf.calls kj58 t335 t336 t337 _ A66.out).mono ?_); rintro e w73 ⟨v338, rfl, ho0, hb⟩; have n0_ := Aside0.mk (Kd.R_lower ho0 (below_size (by repeat (first | (with_reducible first | exact HB.out | apply below_alloc | apply pw_below_drewN | apply below_drew1) | exact HB.out)))); have n1_ := Aside0.mk (below_step (by repeat (first | (with_reducible first | exact HB.out | apply below_alloc | apply pw_below_drewN | apply below_drew1) | exact HB.out)) hb); clear HB; have HO339 := n0_; have HB := n1_; clear n0_ n1_; (try clear hb); (try clear hb2); (try clear hk); (try clear hi); (try clear ho0)) | (go_at_call 30; (with_reducible refine (spec_SourcesOf.calls kj58 t335 t340 t341 _ A67.out).mono ?_); rintro e w74 ⟨v342, rfl, ho0, hb⟩; have n0_ := Aside0.mk (Kd.R_elder' (by (with_reducible repeat (first | apply Kd.R_alloc | apply Kd.R_drewN | apply Kd.R_drew)); exact HO339.out) (Kd.R_base ho0) hb); have n1_ := Aside0.mk (Kd.R_lower (Kd.R_new' ho0 (Kd.R_lt (by (with_reducible repeat (first | apply Kd.R_alloc | apply Kd.R_drewN | apply Kd.R_drew)); exact HO339.out))) (below_size (by repeat (first | (with_reducible first | exact HB.out | apply below_alloc | apply pw_below_drewN | apply below_drew1) | exact HB.out)))); have n2_ := Aside0.mk (below_step (by repeat (first | (with_reducible first | exact HB.out | apply below_alloc | apply pw_below_drewN | apply below_drew1) | exact HB.out)) hb); clear HO339; clear HB; have HO339 := n0_; have HO343 := n1_; have HB := n2_; clear n0_ n1_ n2_; (try clear hb); (try clear hb2); (try clear hk); (try clear hi); (try clear ho0)) | (go_at_call 31; (with_reducible refine (spec_DrawNoSources.calls _ _ l1 t344 _ ?side1 ?side2 A68.out).mono ?_); (case side1 => repeat (first | exact (Kd.C_below HR1.out HB.out) | (with_reducible refine Kd.C_alloc ?_ _) | (with_reducible refine Kd.C_drewN ?_ _) | (with_reducible refine Kd.C_drew ?_))); (case side2 => exact HC1.out); rintro e w75 ⟨rfl, hb⟩; have n0_ := Aside0.mk (Kd.R_below (by (with_reducible repeat (first | apply Kd.R_alloc | apply Kd.R_drewN | apply Kd.R_drew)); exact HO339.out) hb); have n1_ := Aside0.mk (Kd.R_below (by (with_reducible repeat (first | apply Kd.R_alloc | apply Kd.R_drewN | apply Kd.R_drew)); exact HO343.out) hb); have n2_ := Aside0.mk (below_step (by repeat (first | (with_reducible first | exact HB.out | apply below_alloc | apply pw_below_drewN | apply below_drew1) | exact HB.out)) hb); clear HO339; clear HO343; clear HB; have HO339 := n0_; have HO343 := n1_; have HB := n2_; clear n0_ n1_ n2_; (try clear hb); (try clear hb2); (try clear hk); (try clear hi)) | (go_at_call 32; (with_reducible refine (impl_NoSources.calls kj58 t344 t345 t346 _ A69.out).mono ?_); rintro e w76 ⟨v347, rfl, ho0, hb⟩; have n0_ := Aside0.mk (Kd.R_elder' (by (with_reducible repeat (first | apply Kd.R_alloc | apply Kd.R_drewN | apply Kd.R_drew)); exact HO339.out) (Kd.R_base ho0) hb); have n1_ := Aside0.mk (Kd.R_elder' (by (with_reducible repeat (first | apply Kd.R_alloc | apply Kd.R_drewN | apply Kd.R_drew)); exact HO343.out) (Kd.R_base ho0) hb); have n2_ := Aside0.mk (Kd.R_lower (Kd.R_new' (Kd.R_new' ho0 (Kd.R_lt (by (with_reducible repeat (first | apply Kd.R_alloc | apply Kd.R_drewN | apply Kd.R_drew)); exact HO339.out))) (Kd.R_lt (by (with_reducible repeat (first | apply Kd.R_alloc | apply Kd.R_drewN | apply Kd.R_drew)); exact HO343.out))) (below_size (by repeat (first | (with_reducible first | exact HB.out | apply below_alloc | apply pw_below_drewN | apply below_drew1) | exact HB.out)))); have n3_ := Aside0.mk (below_step (by repeat (first | (with_reducible first | exact HB.out | apply below_alloc | apply pw_below_drewN | apply below_drew1) | exact HB.out)) hb); clear HO339; clear HO343; clear HB; have HO339 := n0_; have HO343 := n1_; have HO348 := n2_; have HB := n3_; clear n0_ n1_ n2_ n3_; (try clear hb); (try clear hb2); (try clear hk); (try clear hi); (try clear ho0)) | (go_at_call 33; (with_reducible refine (spec_NoSources.calls kj58 t344 t349 t350 _ A70.out).mono ?_); rintro e w77 ⟨v351, rfl, ho0, hb⟩; have n0_ := Aside0.mk (Kd.R_elder' (by (with_reducible repeat (first | apply Kd.R_alloc | apply Kd.R_drewN | apply Kd.R_drew)); exact HO339.out) (Kd.R_base ho0) hb); have n1_ := Aside0.mk (Kd.R_elder' (by (with_reducible repeat (first | apply Kd.R_alloc | apply Kd.R_drewN | apply Kd.R_drew)); exact HO343.out) (Kd.R_base ho0) hb); have n2_ := Aside0.mk (Kd.R_elder' (by (with_reducible repeat (first | apply Kd.R_alloc | apply Kd.R_drewN | apply Kd.R_drew)); exact HO348.out) (Kd.R_base ho0) hb); have n3_ := Aside0.mk (Kd.R_lower (Kd.R_new' (Kd.R_new' (Kd.R_new' ho0 (Kd.R_lt (by (with_reducible repeat (first | apply Kd.R_alloc | apply Kd.R_drewN | apply Kd.R_drew)); exact HO339.out))) (Kd.R_lt (by (with_reducible repeat (first | apply Kd.R_alloc | apply Kd.R_drewN | apply Kd.R_drew)); exact HO343.out))) (Kd.R_lt (by (with_reducible repeat (first | apply Kd.R_alloc | apply Kd.R_drewN | apply Kd.R_drew)); exact HO348.out))) (below_size (by repeat (first | (with_reducible first | exact HB.out | apply below_alloc | apply pw_below_drewN | apply below_drew1) | exact HB.out)))); have n4_ := Aside0.mk (below_step (by repeat (first | (with_reducible first | exact HB.out | apply below_alloc | apply pw_below_drewN | apply below_drew1) | exact HB.out)) hb); clear HO339; clear HO343; clear HO348; clear HB; have HO339 := n0_; have HO343 := n1_; have HO348 := n2_; have HO352 := n3_; have HB := n4_; clear n0_ n1_ n2_ n3_ n4_; (try clear hb); (try clear hb2); (try clear hk); (try clear hi); (try clear ho0))); go_upto_region 37 with (first | (go_at_call 28; (with_reducible refine (spec_DrawSourcesOf.calls _ _ l0 t335 _ ?side1 ?side2 A65.out).mono ?_); (case side1 => repeat (first | exact (Kd.C_below HR0.out HB.out) | (with_reducible refine Kd.C_alloc ?_ _) | (with_reducible refine Kd.C_drewN ?_ _) | (with_reducible refine Kd.C_drew ?_))); (case side2 => exact HC0.out); rintro e w72 ⟨rfl, hb⟩; have n0_ := Aside0.mk (below_step (by repeat (first | (with_reducible first | exact HB.out | apply below_alloc | apply pw_below_drewN | apply below_drew1) | exact HB.out)) hb); clear HB; have HB := n0_; clear n0_; (try clear hb); (try clear hb2); (try clear hk); (try clear hi)) | (go_at_call 29; (with_reducible refine (impl_SourcesOf.calls kj58 t335 t336 t337 _ A66.out).mono ?_); rintro e w73 ⟨v338, rfl, ho0, hb⟩; have n0_ := Aside0.mk (Kd.R_lower ho0 (below_size (by repeat (first | (with_reducible first | exact HB.out | apply below_alloc | apply pw_below_drewN | apply below_drew1) | exact HB.out)))); have n1_ := Aside0.mk (below_step (by repeat (first | (with_reducible first | exact HB.out | apply below_alloc | apply pw_below_drewN | apply below_drew1) | exact HB.out)) hb); clear HB; have HO339 := n0_; have HB := n1_; clear n0_ n1_; (try clear hb); (try clear hb2); (try clear hk); (try clear hi); (try clear ho0)) | (go_at_call 30; (with_reducible refine (spec_SourcesOf.calls kj58 t335 t340 t341 _ A67.out).mono ?_); rintro e w74 ⟨v342, rfl, ho0, hb⟩; have n0_ := Aside0.mk (Kd.R_elder' (by (with_reducible repeat (first | apply Kd.R_alloc | apply Kd.R_drewN | apply Kd.R_drew)); exact HO339.out) (Kd.R_base ho0) hb); have n1_ := Aside0.mk (Kd.R_lower (Kd.R_new' ho0 (Kd.R_lt (by (with_reducible repeat (first | apply Kd.R_alloc | apply Kd.R_drewN | apply Kd.R_drew)); exact HO339.out))) (below_size (by repeat (first | (with_reducible first | exact HB.out | apply below_alloc | apply pw_below_drewN | apply below_drew1) | exact HB.out)))); have n2_ := Aside0.mk (below_step (by repeat (first | (with_reducible first | exact HB.out | apply below_alloc | apply pw_below_drewN | apply below_drew1) | exact HB.out)) hb); clear HO339; clear HB; have HO339 := n0_; have HO343 := n1_; have HB := n2_; clear n0_ n1_ n2_; (try clear hb); (try clear hb2); (try clear hk); (try clear hi); (try clear ho0)) | (go_at_call 31; (with_reducible refine (spec_DrawNoSources.calls _ _ l1 t344 _ ?side1 ?side2 A68.out).mono ?_); (case side1 => repeat (first | exact (Kd.C_below HR1.out HB.out) | (with_reducible refine Kd.C_alloc ?_ _) | (with_reducible refine Kd.C_drewN ?_ _) | (with_reducible refine Kd.C_drew ?_))); (case side2 => exact HC1.out); rintro e w75 ⟨rfl, hb⟩; have n0_ := Aside0.mk (Kd.R_below (by (with_reducible repeat (first | apply Kd.R_alloc | apply Kd.R_drewN | apply Kd.R_drew)); exact HO339.out) hb); have n1_ := Aside0.mk (Kd.R_below (by (with_reducible repeat (first | apply Kd.R_alloc | apply Kd.R_drewN | apply Kd.R_drew)); exact HO343.out) hb); have n2_ := Aside0.mk (below_step (by repeat (first | (with_reducible first | exact HB.out | apply below_alloc | apply pw_below_drewN | apply below_drew1) | exact HB.out)) hb); clear HO339; clear HO343; clear HB; have HO339 := n0_; have HO343 := n1_; have HB := n2_; clear n0_ n1_ n2_; (try clear hb); (try clear hb2); (try clear hk); (try clear hi)) | (go_at_call 32; (with_reducible refine (impl_NoSources.calls kj58 t344 t345 t346 _ A69.out).mono ?_); rintro e w76 ⟨v347, rfl, ho0, hb⟩; have n0_ := Aside0.mk (Kd.R_elder' (by (with_reducible repeat (first | apply Kd.R_alloc | apply Kd.R_drewN | apply Kd.R_drew)); exact HO339.out) (Kd.R_base ho0) hb); have n1_ := Aside0.mk (Kd.R_elder' (by (with_reducible repeat (first | apply Kd.R_alloc | apply Kd.R_drewN | apply Kd.R_drew)); exact HO343.out) (Kd.R_base ho0) hb); have n2_ := Aside0.mk (Kd.R_lower (Kd.R_new' (Kd.R_new' ho0 (Kd.R_lt (by (with_reducible repeat (first | apply Kd.R_alloc | apply Kd.R_drewN | apply Kd.R_drew)); exact HO339.out))) (Kd.R_lt (by (with_reducible repeat (first | apply Kd.R_alloc | apply Kd.R_drewN | apply Kd.R_drew)); exact HO343.out))) (below_size (by repeat (first | (with_reducible first | exact HB.out | apply below_alloc | apply pw_below_drewN | apply below_drew1) | exact HB.out)))); have n3_ := Aside0.mk (below_step (by repeat (first | (with_reducible first | exact HB.out | apply below_alloc | apply pw_below_drewN | apply below_drew1) | exact HB.out)) hb); clear HO339; clear HO343; clear HB; have HO339 := n0_; have HO343 := n1_; have HO348 := n2_; have HB := n3_; clear n0_ n1_ n2_ n3_; (try clear hb); (try clear hb2); (try clear hk); (try clear hi); (try clear ho0)) | (go_at_call 33; (with_reducible refine (spec_NoSources.calls kj58 t344 t349 t350 _ A70.out).mono ?_); rintro e w77 ⟨v351, rfl, ho0, hb⟩; have n0_ := Aside0.mk (Kd.R_elder' (by (with_reducible repeat (first | apply Kd.R_alloc | apply Kd.R_drewN | apply Kd.R_drew)); exact HO339.out) (Kd.R_base ho0) hb); have n1_ := Aside0.mk (Kd.R_elder' (by (with_reducible repeat (first | apply Kd.R_alloc | apply Kd.R_drewN | apply Kd.R_drew)); exact HO343.out) (Kd.R_base ho0) hb); have n2_ := Aside0.mk (Kd.R_elder' (by (with_reducible repeat (first | apply Kd.R_alloc | apply Kd.R_drewN | apply Kd.R_drew)); exact HO348.out) (Kd.R_base ho0) hb); have n3_ := Aside0.mk (Kd.R_lower (Kd.R_new' (Kd.R_new' (Kd.R_new' ho0 (Kd.R_lt (by (with_reducible repeat (first | apply Kd.R_alloc | apply Kd.R_drewN | apply Kd.R_drew)); exact HO339.out))) (Kd.R_lt (by (with_reducible repeat (first | apply Kd.R_alloc | apply Kd.R_drewN | apply Kd.R_drew)); exact HO343.out))) (Kd.R_lt (by (with_reducible repeat (first | apply Kd.R_alloc | apply Kd.R_drewN | apply Kd.R_drew)); exact HO348.out))) (below_size (by repeat (first | (with_reducible first | exact HB.out | apply below_alloc | apply pw_below_drewN | apply below_drew1) | exact HB.out)))); have n4_ := Aside0.mk (below_step (by repeat (first | (with_reducible first | exact HB.out | apply below_alloc | apply pw_below_drewN | apply below_drew1) | exact HB.out)) hb); clear HO339; clear HO343; clear HO348; clear HB; have HO339 := n0_; have HO343 := n1_; have HO348 := n2_; have HO352 := n3_; have HB := n4_; clear n0_ n1_ n2_ n3_ n4_; (try clear hb); (try clear hb2); (try clear hk); (try clear hi); (try clear ho0))))
                              (try simp only [Act.put, List.setIfInBounds_toArray, List.set_cons_zero, List.set_cons_succ])
                              go_cut [238] (fun v238 wc => ∃ (kq : Nat) (x238_70 : Bool), v238 = .bool x238_70 ∧ Aside0 (laws_FnPairsAndPerfect.j5 kq t335 t336 t337 t344 t345 t346 x238_70 = some r) ∧ Aside0 (kq ≤ kj58) ∧ Aside0 (Kd.R (Kd.int .i64) 3 wc w.heap.size (fun k_ => some k_ ≠ (v347 : Value).ownBlock) v338 t336) ∧ Aside0 (Kd.R (Kd.int .i64) 3 wc w.heap.size (fun k_ => some k_ ≠ (v338 : Value).ownBlock) v347 t345) ∧ Aside0 (Below w.heap.size w wc))
                              case first =>
                                have H := HC71.out
                                clear HC71
                                by_cases c78 : (t337 != t341) = true
                                · rw [if_pos c78] at H
                                  have c78b0 : (t337 != t341) = true := c78
                                  (try (have c78b1 : decide (t337 = t341) = false := by simpa using c78))
                                  (try (have c78b2 : (t337 == t341) = false := by simpa using c78))
                                  (try (have c78b3 : ¬ (t337 = t341) := by simpa using c78))
                                  clear c78
                                  (first | rw [c78b0] | (simp only [i64_w, i32_w]; rw [c78b0]) | skip)
                                  exact (laws_FnPairsAndPerfect.j5_no HR_.out _ _ _ _ _ _ _ H).elim
                                · rw [if_neg c78] at H
                                  have c78b0 : (t337 != t341) = false := by simpa using c78
                                  (try (have c78b1 : decide (t337 = t341) = true := by simpa using c78))
                                  (try (have c78b2 : (t337 == t341) = true := by simpa using c78))
                                  clear c78
                                  (first | rw [c78b0] | (simp only [i64_w, i32_w]; rw [c78b0]) | skip)
                                  replace H := Option.bind_eq_some_iff.mp H
                                  obtain ⟨t353, A790, H⟩ := H
                                  replace H : (if t353 = true then (if (t346 != t350) = true then (laws_FnPairsAndPerfect.j5 kj58 t335 t336 t337 t344 t345 t346 true) else ((laws_qSame.f kj58 t345 t349).bind fun t354 => (laws_FnPairsAndPerfect.j5 kj58 t335 t336 t337 t344 t345 t346 (!t354)))) else (laws_FnPairsAndPerfect.j5 kj58 t335 t336 t337 t344 t345 t346 true)) = some r := H
                                  have A79 := Aside0.mk A790
                                  clear A790
                                  by_cases c80 : t353 = true
                                  · subst c80
                                    have H1 : (if (t346 != t350) = true then (laws_FnPairsAndPerfect.j5 kj58 t335 t336 t337 t344 t345 t346 true) else ((laws_qSame.f kj58 t345 t349).bind fun t354 => (laws_FnPairsAndPerfect.j5 kj58 t335 t336 t337 t344 t345 t346 (!t354)))) = some r := by rw [if_pos rfl] at H; exact H
                                    clear H
                                    have H := H1
                                    clear H1
                                    by_cases c81 : (t346 != t350) = true
                                    · rw [if_pos c81] at H
                                      have c81b0 : (t346 != t350) = true := c81
                                      (try (have c81b1 : decide (t346 = t350) = false := by simpa using c81))
                                      (try (have c81b2 : (t346 == t350) = false := by simpa using c81))
                                      (try (have c81b3 : ¬ (t346 = t350) := by simpa using c81))
                                      clear c81
                                      exact (laws_FnPairsAndPerfect.j5_no HR_.out _ _ _ _ _ _ _ H).elim
                                    · rw [if_neg c81] at H
                                      have c81b0 : (t346 != t350) = false := by simpa using c81
                                      (try (have c81b1 : decide (t346 = t350) = true := by simpa using c81))
                                      (try (have c81b2 : (t346 == t350) = true := by simpa using c81))
                                      clear c81
                                      replace H := Option.bind_eq_some_iff.mp H
                                      obtain ⟨t354, A820, H⟩ := H
                                      replace H : (laws_FnPairsAndPerfect.j5 kj58 t335 t336 t337 t344 t345 t346 (!t354)) = some r := H
                                      have A82 := Aside0.mk A820
                                      clear A820
                                      as_aux_lemma =>
                                        have H' := Aside0.mk H
                                        clear H
                                        obtain ⟨Ao83, co83, eo83⟩ := Kd.R_slice HO339.out
                                        subst eo83
                                        obtain ⟨Ao84, co84, eo84⟩ := Kd.R_slice HO343.out
                                        subst eo84
                                        go_wp2_with (first | (go_at_call 34; (with_reducible refine (laws_qSame.calls kj58 _ _ t336 _ _ t340 true _ ?side1 ?side2 ?side3 ?side4 A79.out).mono ?_); (case side1 => repeat (first | exact (Kd.R_reads' HO339.out).2.2 | (with_reducible refine Kd.C_alloc ?_ _) | (with_reducible refine Kd.C_drewN ?_ _) | (with_reducible refine Kd.C_drew ?_))); (case side2 => exact (Kd.R_reads' HO339.out).2.1); (case side3 => repeat (first | exact (Kd.R_reads' HO343.out).2.2 | (with_reducible refine Kd.C_alloc ?_ _) | (with_reducible refine Kd.C_drewN ?_ _) | (with_reducible refine Kd.C_drew ?_))); (case side4 => exact (Kd.R_reads' HO343.out).2.1); rintro e w' ⟨rfl, ⟨nd, rfl⟩⟩; (try first | exact ⟨rfl, _, World.drewN_drewN _ _ _⟩ | exact ⟨rfl, _, Eq.trans (World.drewN_drewN _ _ _) (congrArg (World.drewN _) (Nat.add_assoc _ _ _))⟩); obtain ⟨Ao85, co85, eo85⟩ := Kd.R_slice HO348.out; subst eo85; obtain ⟨Ao86, co86, eo86⟩ := Kd.R_slice HO352.out; subst eo86) | (go_at_call 34; (with_reducible refine (laws_qSame.calls kj58 _ _ t345 _ _ t349 t354 _ ?side1 ?side2 ?side3 ?side4 A82.out).mono ?_); (case side1 => repeat (first | exact (Kd.R_reads' HO348.out).2.2 | (with_reducible refine Kd.C_alloc ?_ _) | (with_reducible refine Kd.C_drewN ?_ _) | (with_reducible refine Kd.C_drew ?_))); (case side2 => exact (Kd.R_reads' HO348.out).2.1); (case side3 => repeat (first | exact (Kd.R_reads' HO352.out).2.2 | (with_reducible refine Kd.C_alloc ?_ _) | (with_reducible refine Kd.C_drewN ?_ _) | (with_reducible refine Kd.C_drew ?_))); (case side4 => exact (Kd.R_reads' HO352.out).2.1); rintro e w' ⟨rfl, ⟨nd, rfl⟩⟩; (try first | exact ⟨rfl, _, World.drewN_drewN _ _ _⟩ | exact ⟨rfl, _, Eq.trans (World.drewN_drewN _ _ _) (congrArg (World.drewN _) (Nat.add_assoc _ _ _))⟩)))
                                        repeat (go_quiet (first | (go_at_call 34; (with_reducible refine (laws_qSame.calls kj58 _ _ t336 _ _ t340 true _ ?side1 ?side2 ?side3 ?side4 A79.out).mono ?_); (case side1 => repeat (first | exact (Kd.R_reads' HO339.out).2.2 | (with_reducible refine Kd.C_alloc ?_ _) | (with_reducible refine Kd.C_drewN ?_ _) | (with_reducible refine Kd.C_drew ?_))); (case side2 => exact (Kd.R_reads' HO339.out).2.1); (case side3 => repeat (first | exact (Kd.R_reads' HO343.out).2.2 | (with_reducible refine Kd.C_alloc ?_ _) | (with_reducible refine Kd.C_drewN ?_ _) | (with_reducible refine Kd.C_drew ?_))); (case side4 => exact (Kd.R_reads' HO343.out).2.1); rintro e w' ⟨rfl, ⟨nd, rfl⟩⟩; (try first | exact ⟨rfl, _, World.drewN_drewN _ _ _⟩ | exact ⟨rfl, _, Eq.trans (World.drewN_drewN _ _ _) (congrArg (World.drewN _) (Nat.add_assoc _ _ _))⟩); obtain ⟨Ao85, co85, eo85⟩ := Kd.R_slice HO348.out; subst eo85; obtain ⟨Ao86, co86, eo86⟩ := Kd.R_slice HO352.out; subst eo86) | (go_at_call 34; (with_reducible refine (laws_qSame.calls kj58 _ _ t345 _ _ t349 t354 _ ?side1 ?side2 ?side3 ?side4 A82.out).mono ?_); (case side1 => repeat (first | exact (Kd.R_reads' HO348.out).2.2 | (with_reducible refine Kd.C_alloc ?_ _) | (with_reducible refine Kd.C_drewN ?_ _) | (with_reducible refine Kd.C_drew ?_))); (case side2 => exact (Kd.R_reads' HO348.out).2.1); (case side3 => repeat (first | exact (Kd.R_reads' HO352.out).2.2 | (with_reducible refine Kd.C_alloc ?_ _) | (with_reducible refine Kd.C_drewN ?_ _) | (with_reducible refine Kd.C_drew ?_))); (case side4 => exact (Kd.R_reads' HO352.out).2.1); rintro e w' ⟨rfl, ⟨nd, rfl⟩⟩; (try first | exact ⟨rfl, _, World.drewN_drewN _ _ _⟩ | exact ⟨rfl, _, Eq.trans (World.drewN_drewN _ _ _) (congrArg (World.drewN _) (Nat.add_assoc _ _ _))⟩))); try go_wp2_with (first | (go_at_call 34; (with_reducible refine (laws_qSame.calls kj58 _ _ t336 _ _ t340 true _ ?side1 ?side2 ?side3 ?side4 A79.out).mono ?_); (case side1 => repeat (first | exact (Kd.R_reads' HO339.out).2.2 | (with_reducible refine Kd.C_alloc ?_ _) | (with_reducible refine Kd.C_drewN ?_ _) | (with_reducible refine Kd.C_drew ?_))); (case side2 => exact (Kd.R_reads' HO339.out).2.1); (case side3 => repeat (first | exact (Kd.R_reads' HO343.out).2.2 | (with_reducible refine Kd.C_alloc ?_ _) | (with_reducible refine Kd.C_drewN ?_ _) | (with_reducible refine Kd.C_drew ?_))); (case side4 => exact (Kd.R_reads' HO343.out).2.1); rintro e w' ⟨rfl, ⟨nd, rfl⟩⟩; (try first | exact ⟨rfl, _, World.drewN_drewN _ _ _⟩ | exact ⟨rfl, _, Eq.trans (World.drewN_drewN _ _ _) (congrArg (World.drewN _) (Nat.add_assoc _ _ _))⟩); obtain ⟨Ao85, co85, eo85⟩ := Kd.R_slice HO348.out; subst eo85; obtain ⟨Ao86, co86, eo86⟩ := Kd.R_slice HO352.out; subst eo86) | (go_at_call 34; (with_reducible refine (laws_qSame.calls kj58 _ _ t345 _ _ t349 t354 _ ?side1 ?side2 ?side3 ?side4 A82.out).mono ?_); (case side1 => repeat (first | exact (Kd.R_reads' HO348.out).2.2 | (with_reducible refine Kd.C_alloc ?_ _) | (with_reducible refine Kd.C_drewN ?_ _) | (with_reducible refine Kd.C_drew ?_))); (case side2 => exact (Kd.R_reads' HO348.out).2.1); (case side3 => repeat (first | exact (Kd.R_reads' HO352.out).2.2 | (with_reducible refine Kd.C_alloc ?_ _) | (with_reducible refine Kd.C_drewN ?_ _) | (with_reducible refine Kd.C_drew ?_))); (case side4 => exact (Kd.R_reads' HO352.out).2.1); rintro e w' ⟨rfl, ⟨nd, rfl⟩⟩; (try first | exact ⟨rfl, _, World.drewN_drewN _ _ _⟩ | exact ⟨rfl, _, Eq.trans (World.drewN_drewN _ _ _) (congrArg (World.drewN _) (Nat.add_assoc _ _ _))⟩))))
                                        go_meet
                                        case rel => exact ⟨_, (!t354), (by first | rfl | (simp; done) | (simp [*]; done)), H', ⟨by have := HJ7.out; have := HK2.out; have := HJ40.out; have := HJ52.out; have := HJ58.out; first | omega | exact Nat.le_refl _⟩, ⟨by (with_reducible repeat (first | apply Kd.R_alloc | apply Kd.R_drewN | apply Kd.R_drew)); exact Kd.R_mono HO339.out (fun _ hk => hk.1.2)⟩, ⟨by (with_reducible repeat (first | apply Kd.R_alloc | apply Kd.R_drewN | apply Kd.R_drew)); exact Kd.R_mono HO348.out (fun _ hk => hk.1.1.2)⟩, ⟨by repeat (first | (with_reducible first | exact HB.out | apply below_alloc | apply pw_below_drewN | apply below_drew1) | exact HB.out)⟩⟩
                                  · replace c80 := Bool.eq_false_iff.mpr c80
                                    subst c80
                                    have H1 : (laws_FnPairsAndPerfect.j5 kj58 t335 t336 t337 t344 t345 t346 true) = some r := by rw [if_neg (show ¬ (false = true) by decide)] at H; exact H
                                    clear H
                                    have H := H1
                                    clear H1
                                    exact (laws_FnPairsAndPerfect.j5_no HR_.out _ _ _ _ _ _ _ H).elim
                              case rest =>
                                clear HC71
                                try clear c1
                                try clear c2
                                try clear p2
                                try clear c3
                                try clear p3
                                try clear q3
                                try clear hx3
                                try clear qi3
                                try clear c4
                                try clear c5
                                try clear c6
                                try clear p6
                                try clear c7
                                try clear c8
                                try clear c12
                                try clear c12b0
                                try clear c12b1
                                try clear c12b2
                                try clear c16
                                try clear c18
                                try clear c18b0
                                try clear c19
                                try clear c19b0
                                try clear c20
                                try clear c20b0
                                try clear c21
                                try clear c21b0
                                try clear c21b1
                                try clear c23
                                try clear c24
                                try clear c24b0
                                try clear c24b1
                                try clear c25
                                try clear c25b0
                                try clear c25b1
                                try clear c26
                                try clear c26b0
                                try clear c27
                                try clear c27b0
                                try clear c29
                                try clear c29b0
                                try clear c30
                                try clear c30b0
                                try clear p30
                                try clear q30
                                try clear hx30
                                try clear c31
                                try clear c31b0
                                try clear c31b1
                                try clear p31
                                try clear q31
                                try clear hx31
                                try clear qi31
                                try clear c32
                                try clear c32b0
                                try clear c48
                                try clear c48b0
                                try clear c48b1
                                try clear c48b2
                                try clear c49
                                try clear c49b0
                                try clear c49b1
                                try clear c50
                                try clear c50b0
                                try clear c50b1
                                try clear c50b2
                                try clear c51
                                try clear c51b0
                                try clear c51b1
                                try clear c52
                                try clear c54
                                try clear c56
                                try clear c57
                                try clear c57b0
                                try clear c57b1
                                try clear c60
                                try clear c62
                                try clear c63
                                try clear c63b0
                                try clear c63b1
                                try clear p64
                                try clear c78
                                try clear c78b0
                                try clear c78b1
                                try clear c78b2
                                try clear c80
                                try clear c81
                                try clear c81b0
                                try clear c81b1
                                try clear c81b2
                                try clear hx309_0
                                try clear hx310_0
                                try clear hx313_0
                                try clear hx314_0
                                try clear hx315_0
                                try clear hx316_0
                                try clear hx317_0
                                try clear hx318_0
                                try clear p2
                                try clear p3
                                try clear p30
                                try clear p309
                                try clear p31
                                try clear p310
                                try clear p313
                                try clear p314
                                try clear p315
                                try clear p316
                                try clear p317
                                try clear p318
                                try clear p6
                                try clear p64
                                try clear q3
                                try clear q30
                                try clear q309
                                try clear q31
                                try clear q310
                                try clear q313
                                try clear q314
                                try clear q315
                                try clear q316
                                try clear q317
                                try clear q318
                                obtain ⟨kq, x238_70, rfl, HA, HJ70, HO_31, HO_36, HB⟩ := hcut
                                cases kq with
                                | zero => exact absurd HA.out (by simp [laws_FnPairsAndPerfect.j5])
                                | succ kj70 =>
                                  have H := HA.out
                                  clear HA
                                  simp only [laws_FnPairsAndPerfect.j5] at H
                                  by_cases c87 : x238_70 = true
                                  · subst c87
                                    have H1 : (some false) = some r := by rw [if_pos rfl] at H; exact H
                                    clear H
                                    have H := H1
                                    clear H1
                                    exact absurd (Option.some.inj H) (by rw [HR_.out]; decide)
                                  · replace c87 := Bool.eq_false_iff.mpr c87
                                    subst c87
                                    have H1 : (laws_FnPairsAndPerfect.l1 kj70 t335 t336 t337 t344 t345 t346 t336 (t336.length : Int) 0) = some r := by rw [if_neg (show ¬ (false = true) by decide)] at H; exact H
                                    clear H
                                    have H := H1
                                    clear H1
                                    have H' := Aside0.mk H
                                    clear H
                                    obtain ⟨Ao88, co88, eo88⟩ := Kd.R_slice HO_31.out
                                    subst eo88
                                    go_wp2
                                    repeat (go_quiet (fail); try go_wp2)
                                    go_loopg [241] kj70 (fun kq v241 w' => ∃ (x241_7 : Int), v241 = .int .i64 x241_7 ∧ Aside0 (laws_FnPairsAndPerfect.l1 kq t335 t336 t337 t344 t345 t346 t336 (t336.length : Int) x241_7 = some r) ∧ Aside0 (kq ≤ kj70) ∧ Aside0 (Kd.R (Kd.int .i64) 3 w' w.heap.size (fun k_ => some k_ ≠ (v347 : Value).ownBlock) (.slice Ao88 t336.length co88) t336) ∧ Aside0 (Kd.R (Kd.int .i64) 3 w' w.heap.size (fun k_ => some k_ ≠ ((.slice Ao88 t336.length co88) : Value).ownBlock ∧ some k_ ≠ ((.slice Ao88 t336.length co88) : Value).ownBlock) v347 t345) ∧ Aside0 (Kd.R (Kd.int .i64) 3 w' w.heap.size (fun k_ => some k_ ≠ (v347 : Value).ownBlock) (.slice Ao88 t336.length co88) t336) ∧ Aside0 (Below w.heap.size w w'))
                                    case atStart => exact ⟨(0), (by first | rfl | (simp; done) | (simp [*]; done)), H', ⟨Nat.le_refl _⟩, ⟨by (with_reducible repeat (first | apply Kd.R_alloc | apply Kd.R_drewN | apply Kd.R_drew)); exact HO_31.out⟩, ⟨by (with_reducible repeat (first | apply Kd.R_alloc | apply Kd.R_drewN | apply Kd.R_drew)); exact Kd.R_mono HO_36.out (fun _ hk => ⟨hk, hk⟩)⟩, ⟨by (with_reducible repeat (first | apply Kd.R_alloc | apply Kd.R_drewN | apply Kd.R_drew)); exact HO_31.out⟩, ⟨by repeat (first | (with_reducible first | exact HB.out | apply below_alloc | apply pw_below_drewN | apply below_drew1) | exact HB.out)⟩⟩
                                    case round =>
                                      clear H'
                                      try clear c1
                                      try clear c2
                                      try clear p2
                                      try clear c3
                                      try clear p3
                                      try clear q3
                                      try clear hx3
                                      try clear qi3
                                      try clear c4
                                      try clear c5
                                      try clear c6
                                      try clear p6
                                      try clear c7
                                      try clear c8
                                      try clear c12
                                      try clear c12b0
                                      try clear c12b1
                                      try clear c12b2
                                      try clear c16
                                      try clear c18
                                      try clear c18b0
                                      try clear c19
                                      try clear c19b0
                                      try clear c20
                                      try clear c20b0
                                      try clear c21
                                      try clear c21b0
                                      try clear c21b1
                                      try clear c23
                                      try clear c24
                                      try clear c24b0
                                      try clear c24b1
                                      try clear c25
                                      try clear c25b0
                                      try clear c25b1
                                      try clear c26
                                      try clear c26b0
                                      try clear c27
                                      try clear c27b0
                                      try clear c29
                                      try clear c29b0
                                      try clear c30
                                      try clear c30b0
                                      try clear p30
                                      try clear q30
                                      try clear hx30
                                      try clear c31
                                      try clear c31b0
                                      try clear c31b1
                                      try clear p31
                                      try clear q31
                                      try clear hx31
                                      try clear qi31
                                      try clear c32
                                      try clear c32b0
                                      try clear c48
                                      try clear c48b0
                                      try clear c48b1
                                      try clear c48b2
                                      try clear c49
                                      try clear c49b0
                                      try clear c49b1
                                      try clear c50
                                      try clear c50b0
                                      try clear c50b1
                                      try clear c50b2
                                      try clear c51
                                      try clear c51b0
                                      try clear c51b1
                                      try clear c52
                                      try clear c54
                                      try clear c56
                                      try clear c57
                                      try clear c57b0
                                      try clear c57b1
                                      try clear c60
                                      try clear c62
                                      try clear c63
                                      try clear c63b0
                                      try clear c63b1
                                      try clear p64
                                      try clear c78
                                      try clear c78b0
                                      try clear c78b1
                                      try clear c78b2
                                      try clear c80
                                      try clear c81
                                      try clear c81b0
                                      try clear c81b1
                                      try clear c81b2
                                      try clear c87
                                      try clear hx309_0
                                      try clear hx310_0
                                      try clear hx313_0
                                      try clear hx314_0
                                      try clear hx315_0
                                      try clear hx316_0
                                      try clear hx317_0
                                      try clear hx318_0
                                      try clear p2
                                      try clear p3
                                      try clear p30
                                      try clear p309
                                      try clear p31
                                      try clear p310
                                      try clear p313
                                      try clear p314
                                      try clear p315
                                      try clear p316
                                      try clear p317
                                      try clear p318
                                      try clear p6
                                      try clear p64
                                      try clear q3
                                      try clear q30
                                      try clear q309
                                      try clear q31
                                      try clear q310
                                      try clear q313
                                      try clear q314
                                      try clear q315
                                      try clear q316
                                      try clear q317
                                      try clear q318
                                      obtain ⟨x241_7, rfl, HA, HK7, HO_31, HO_36, HO_239, HB⟩ := hrel
                                      cases gk with
                                      | zero => exact absurd HA.out (by simp [laws_FnPairsAndPerfect.l1])
                                      | succ k7 =>
                                        have H := HA.out
                                        clear HA
                                        simp only [laws_FnPairsAndPerfect.l1] at H
                                        by_cases c89 : x241_7 < (t336.length : Int)
                                        · rw [if_pos c89] at H
                                          have c89b0 : decide (x241_7 < (t336.length : Int)) = true := decide_eq_true c89
                                          clear c89
                                          by_cases c90 : 0 ≤ x241_7
                                          · rw [if_pos c90] at H
                                            have c90b0 : decide (0 ≤ x241_7) = true := decide_eq_true c90
                                            clear c90
                                            by_cases c91 : x241_7 < (t336.length : Int)
                                            · rw [if_pos c91] at H
                                              have c91b0 : decide (x241_7 < (t336.length : Int)) = true := decide_eq_true c91
                                              clear c91
                                              replace H := Option.bind_eq_some_iff.mp H
                                              obtain ⟨⟨t356, t357⟩, A920, H⟩ := H
                                              replace H : (if t357 = true then (if t356 = t335 then (if x241_7 > 0 then (if 0 ≤ (wrap64 (x241_7 - 1)) then (if (wrap64 (x241_7 - 1)) < (t336.length : Int) then (if (rd t336 (wrap64 (x241_7 - 1))) ≥ (rd t336 x241_7) then (some false) else (laws_FnPairsAndPerfect.l1 k7 t335 t336 t337 t344 t345 t346 t336 (t336.length : Int) (wrap64 (x241_7 + 1)))) else (none)) else (none)) else (laws_FnPairsAndPerfect.l1 k7 t335 t336 t337 t344 t345 t346 t336 (t336.length : Int) (wrap64 (x241_7 + 1)))) else (some false)) else (some false)) = some r := H
                                              have A92 := Aside0.mk A920
                                              clear A920
                                              by_cases c93 : t357 = true
                                              · subst c93
                                                have H1 : (if t356 = t335 then (if x241_7 > 0 then (if 0 ≤ (wrap64 (x241_7 - 1)) then (if (wrap64 (x241_7 - 1)) < (t336.length : Int) then (if (rd t336 (wrap64 (x241_7 - 1))) ≥ (rd t336 x241_7) then (some false) else (laws_FnPairsAndPerfect.l1 k7 t335 t336 t337 t344 t345 t346 t336 (t336.length : Int) (wrap64 (x241_7 + 1)))) else (none)) else (none)) else (laws_FnPairsAndPerfect.l1 k7 t335 t336 t337 t344 t345 t346 t336 (t336.length : Int) (wrap64 (x241_7 + 1)))) else (some false)) = some r := by rw [if_pos rfl] at H; exact H
                                                clear H
                                                have H := H1
                                                clear H1
                                                by_cases c94 : t356 = t335
                                                · rw [if_pos c94] at H
                                                  have c94b0 : (t356 == t335) = true := beq_iff_eq.mpr c94
                                                  have c94b1 : (t356 != t335) = false := bne_eq_false_iff_eq.mpr c94
                                                  clear c94
                                                  by_cases c95 : x241_7 > 0
                                                  · rw [if_pos c95] at H
                                                    have c95b0 : decide (0 < x241_7) = true := decide_eq_true c95
                                                    clear c95
                                                    obtain ⟨ji96, hji96⟩ : ∃ j_ : Int, (wrap64 (x241_7 - 1)) = j_ := ⟨_, rfl⟩
                                                    replace H : (if 0 ≤ (ji96) then (if (ji96) < (t336.length : Int) then (if (rd t336 (ji96)) ≥ (rd t336 x241_7) then (some false) else (laws_FnPairsAndPerfect.l1 k7 t335 t336 t337 t344 t345 t346 t336 (t336.length : Int) (wrap64 (x241_7 + 1)))) else (none)) else (none)) = some r := by first | (rw [hji96] at H; exact H) | (simp only [hji96] at H ⊢; exact H)
                                                    (try rw [hji96] at A92)
                                                    have hji96w : (IntKind.i64.wrap (x241_7 - 1)) = ji96 := (i64_w _).trans hji96
                                                    by_cases c97 : 0 ≤ (ji96)
                                                    · rw [if_pos c97] at H
                                                      have c97b0 : decide (0 ≤ (ji96)) = true := decide_eq_true c97
                                                      clear c97
                                                      by_cases c98 : (ji96) < (t336.length : Int)
                                                      · rw [if_pos c98] at H
                                                        have c98b0 : decide ((ji96) < (t336.length : Int)) = true := decide_eq_true c98
                                                        clear c98
                                                        by_cases c99 : (rd t336 (ji96)) ≥ (rd t336 x241_7)
                                                        · rw [if_pos c99] at H
                                                          have c99b0 : decide ((rd t336 x241_7) ≤ (rd t336 (ji96))) = true := decide_eq_true c99
                                                          clear c99
                                                          exact absurd (Option.some.inj H) (by rw [HR_.out]; decide)
                                                        · rw [if_neg c99] at H
                                                          have c99b0 : decide ((rd t336 x241_7) ≤ (rd t336 (ji96))) = false := decide_eq_false c99
                                                          clear c99
                                                          as_aux_lemma =>
                                                            have H' := Aside0.mk H
                                                            clear H
                                                            have p355 : 0 ≤ (x241_7 : Int) := of_decide_eq_true (by first | (with_reducible assumption) | assumption)
                                                            have q355 : x241_7 < (t336.length : Int) := of_decide_eq_true (by first | (with_reducible assumption) | assumption)
                                                            obtain ⟨ad355, e355, hx355_0⟩ := Kd.at_int (Kd.R_reads' HO_239.out).2.2 x241_7 p355 q355
                                                            cases e355
                                                            replace p355 := eq_true p355
                                                            replace q355 := eq_true q355
                                                            go_wp2_with (first | (go_at_call 35; (with_reducible refine (impl_ProperSum.calls k7 (rd t336 x241_7) t356 true _ A92.out).mono ?_); rintro e w100 ⟨rfl, hb⟩; have n0_ := Aside0.mk (Kd.R_below (by (with_reducible repeat (first | apply Kd.R_alloc | apply Kd.R_drewN | apply Kd.R_drew)); exact HO_31.out) hb); have n1_ := Aside0.mk (Kd.R_below (by (with_reducible repeat (first | apply Kd.R_alloc | apply Kd.R_drewN | apply Kd.R_drew)); exact HO_36.out) hb); have n2_ := Aside0.mk (Kd.R_below (by (with_reducible repeat (first | apply Kd.R_alloc | apply Kd.R_drewN | apply Kd.R_drew)); exact HO_239.out) hb); have n3_ := Aside0.mk (below_step (by repeat (first | (with_reducible first | exact HB.out | apply below_alloc | apply pw_below_drewN | apply below_drew1) | exact HB.out)) hb); clear HO_31; clear HO_36; clear HO_239; clear HB; have HO_31 := n0_; have HO_36 := n1_; have HO_239 := n2_; have HB := n3_; clear n0_ n1_ n2_ n3_; (try clear hb); (try clear hb2); (try clear hk); (try clear hi); have p358 : 0 ≤ ((ji96) : Int) := of_decide_eq_true (by first | (with_reducible assumption) | assumption); have q358 : (ji96) < (t336.length : Int) := of_decide_eq_true (by first | (with_reducible assumption) | assumption); obtain ⟨ad358, e358, hx358_0⟩ := Kd.at_int (Kd.R_reads' HO_31.out).2.2 (ji96) p358 q358; obtain rfl : ad355 = ad358 := (by injection e358); replace p358 := eq_true p358; replace q358 := eq_true q358))
                                                            repeat (go_quiet (first | (go_at_call 35; (with_reducible refine (impl_ProperSum.calls k7 (rd t336 x241_7) t356 true _ A92.out).mono ?_); rintro e w100 ⟨rfl, hb⟩; have n0_ := Aside0.mk (Kd.R_below (by (with_reducible repeat (first | apply Kd.R_alloc | apply Kd.R_drewN | apply Kd.R_drew)); exact HO_31.out) hb); have n1_ := Aside0.mk (Kd.R_below (by (with_reducible repeat (first | apply Kd.R_alloc | apply Kd.R_drewN | apply Kd.R_drew)); exact HO_36.out) hb); have n2_ := Aside0.mk (Kd.R_below (by (with_reducible repeat (first | apply Kd.R_alloc | apply Kd.R_drewN | apply Kd.R_drew)); exact HO_239.out) hb); have n3_ := Aside0.mk (below_step (by repeat (first | (with_reducible first | exact HB.out | apply below_alloc | apply pw_below_drewN | apply below_drew1) | exact HB.out)) hb); clear HO_31; clear HO_36; clear HO_239; clear HB; have HO_31 := n0_; have HO_36 := n1_; have HO_239 := n2_; have HB := n3_; clear n0_ n1_ n2_ n3_; (try clear hb); (try clear hb2); (try clear hk); (try clear hi); have p358 : 0 ≤ ((ji96) : Int) := of_decide_eq_true (by first | (with_reducible assumption) | assumption); have q358 : (ji96) < (t336.length : Int) := of_decide_eq_true (by first | (with_reducible assumption) | assumption); obtain ⟨ad358, e358, hx358_0⟩ := Kd.at_int (Kd.R_reads' HO_31.out).2.2 (ji96) p358 q358; obtain rfl : ad355 = ad358 := (by injection e358); replace p358 := eq_true p358; replace q358 := eq_true q358)); try go_wp2_with (first | (go_at_call 35; (with_reducible refine (impl_ProperSum.calls k7 (rd t336 x241_7) t356 true _ A92.out).mono ?_); rintro e w100 ⟨rfl, hb⟩; have n0_ := Aside0.mk (Kd.R_below (by (with_reducible repeat (first | apply Kd.R_alloc | apply Kd.R_drewN | apply Kd.R_drew)); exact HO_31.out) hb); have n1_ := Aside0.mk (Kd.R_below (by (with_reducible repeat (first | apply Kd.R_alloc | apply Kd.R_drewN | apply Kd.R_drew)); exact HO_36.out) hb); have n2_ := Aside0.mk (Kd.R_below (by (with_reducible repeat (first | apply Kd.R_alloc | apply Kd.R_drewN | apply Kd.R_drew)); exact HO_239.out) hb); have n3_ := Aside0.mk (below_step (by repeat (first | (with_reducible first | exact HB.out | apply below_alloc | apply pw_below_drewN | apply below_drew1) | exact HB.out)) hb); clear HO_31; clear HO_36; clear HO_239; clear HB; have HO_31 := n0_; have HO_36 := n1_; have HO_239 := n2_; have HB := n3_; clear n0_ n1_ n2_ n3_; (try clear hb); (try clear hb2); (try clear hk); (try clear hi); have p358 : 0 ≤ ((ji96) : Int) := of_decide_eq_true (by first | (with_reducible assumption) | assumption); have q358 : (ji96) < (t336.length : Int) := of_decide_eq_true (by first | (with_reducible assumption) | assumption); obtain ⟨ad358, e358, hx358_0⟩ := Kd.at_int (Kd.R_reads' HO_31.out).2.2 (ji96) p358 q358; obtain rfl : ad355 = ad358 := (by injection e358); replace p358 := eq_true p358; replace q358 := eq_true q358)))
                                                            go_roundg k7
                                                            case measure => have := HJ7.out; have := HK2.out; have := HJ40.out; have := HJ52.out; have := HJ58.out; have := HJ70.out; have := HK7.out; omega
                                                            case rel => exact ⟨(wrap64 (x241_7 + 1)), (by first | rfl | (simp; done) | (simp [*]; done)), H', ⟨by have := HJ7.out; have := HK2.out; have := HJ40.out; have := HJ52.out; have := HJ58.out; have := HJ70.out; have := HK7.out; omega⟩, ⟨by (with_reducible repeat (first | apply Kd.R_alloc | apply Kd.R_drewN | apply Kd.R_drew)); exact HO_31.out⟩, ⟨by (with_reducible repeat (first | apply Kd.R_alloc | apply Kd.R_drewN | apply Kd.R_drew)); exact HO_36.out⟩, ⟨by (with_reducible repeat (first | apply Kd.R_alloc | apply Kd.R_drewN | apply Kd.R_drew)); exact HO_239.out⟩, ⟨by repeat (first | (with_reducible first | exact HB.out | apply below_alloc | apply pw_below_drewN | apply below_drew1) | exact HB.out)⟩⟩
                                                      · rw [if_neg c98] at H
                                                        exact absurd H (by simp)
                                                    · rw [if_neg c97] at H
                                                      exact absurd H (by simp)
                                                  · rw [if_neg c95] at H
                                                    have c95b0 : decide (0 < x241_7) = false := decide_eq_false c95
                                                    clear c95
                                                    as_aux_lemma =>
                                                      have H' := Aside0.mk H
                                                      clear H
                                                      have p355 : 0 ≤ (x241_7 : Int) := of_decide_eq_true (by first | (with_reducible assumption) | assumption)
                                                      have q355 : x241_7 < (t336.length : Int) := of_decide_eq_true (by first | (with_reducible assumption) | assumption)
                                                      obtain ⟨ad355, e355, hx355_0⟩ := Kd.at_int (Kd.R_reads' HO_239.out).2.2 x241_7 p355 q355
                                                      cases e355
                                                      replace p355 := eq_true p355
                                                      replace q355 := eq_true q355
                                                      go_wp2_with (first | (go_at_call 35; (with_reducible refine (impl_ProperSum.calls k7 (rd t336 x241_7) t356 true _ A92.out).mono ?_); rintro e w101 ⟨rfl, hb⟩; have n0_ := Aside0.mk (Kd.R_below (by (with_reducible repeat (first | apply Kd.R_alloc | apply Kd.R_drewN | apply Kd.R_drew)); exact HO_31.out) hb); have n1_ := Aside0.mk (Kd.R_below (by (with_reducible repeat (first | apply Kd.R_alloc | apply Kd.R_drewN | apply Kd.R_drew)); exact HO_36.out) hb); have n2_ := Aside0.mk (Kd.R_below (by (with_reducible repeat (first | apply Kd.R_alloc | apply Kd.R_drewN | apply Kd.R_drew)); exact HO_239.out) hb); have n3_ := Aside0.mk (below_step (by repeat (first | (with_reducible first | exact HB.out | apply below_alloc | apply pw_below_drewN | apply below_drew1) | exact HB.out)) hb); clear HO_31; clear HO_36; clear HO_239; clear HB; have HO_31 := n0_; have HO_36 := n1_; have HO_239 := n2_; have HB := n3_; clear n0_ n1_ n2_ n3_; (try clear hb); (try clear hb2); (try clear hk); (try clear hi)))
                                                      repeat (go_quiet (first | (go_at_call 35; (with_reducible refine (impl_ProperSum.calls k7 (rd t336 x241_7) t356 true _ A92.out).mono ?_); rintro e w101 ⟨rfl, hb⟩; have n0_ := Aside0.mk (Kd.R_below (by (with_reducible repeat (first | apply Kd.R_alloc | apply Kd.R_drewN | apply Kd.R_drew)); exact HO_31.out) hb); have n1_ := Aside0.mk (Kd.R_below (by (with_reducible repeat (first | apply Kd.R_alloc | apply Kd.R_drewN | apply Kd.R_drew)); exact HO_36.out) hb); have n2_ := Aside0.mk (Kd.R_below (by (with_reducible repeat (first | apply Kd.R_alloc | apply Kd.R_drewN | apply Kd.R_drew)); exact HO_239.out) hb); have n3_ := Aside0.mk (below_step (by repeat (first | (with_reducible first | exact HB.out | apply below_alloc | apply pw_below_drewN | apply below_drew1) | exact HB.out)) hb); clear HO_31; clear HO_36; clear HO_239; clear HB; have HO_31 := n0_; have HO_36 := n1_; have HO_239 := n2_; have HB := n3_; clear n0_ n1_ n2_ n3_; (try clear hb); (try clear hb2); (try clear hk); (try clear hi))); try go_wp2_with (first | (go_at_call 35; (with_reducible refine (impl_ProperSum.calls k7 (rd t336 x241_7) t356 true _ A92.out).mono ?_); rintro e w101 ⟨rfl, hb⟩; have n0_ := Aside0.mk (Kd.R_below (by (with_reducible repeat (first | apply Kd.R_alloc | apply Kd.R_drewN | apply Kd.R_drew)); exact HO_31.out) hb); have n1_ := Aside0.mk (Kd.R_below (by (with_reducible repeat (first | apply Kd.R_alloc | apply Kd.R_drewN | apply Kd.R_drew)); exact HO_36.out) hb); have n2_ := Aside0.mk (Kd.R_below (by (with_reducible repeat (first | apply Kd.R_alloc | apply Kd.R_drewN | apply Kd.R_drew)); exact HO_239.out) hb); have n3_ := Aside0.mk (below_step (by repeat (first | (with_reducible first | exact HB.out | apply below_alloc | apply pw_below_drewN | apply below_drew1) | exact HB.out)) hb); clear HO_31; clear HO_36; clear HO_239; clear HB; have HO_31 := n0_; have HO_36 := n1_; have HO_239 := n2_; have HB := n3_; clear n0_ n1_ n2_ n3_; (try clear hb); (try clear hb2); (try clear hk); (try clear hi))))
                                                      go_roundg k7
                                                      case measure => have := HJ7.out; have := HK2.out; have := HJ40.out; have := HJ52.out; have := HJ58.out; have := HJ70.out; have := HK7.out; omega
                                                      case rel => exact ⟨(wrap64 (x241_7 + 1)), (by first | rfl | (simp; done) | (simp [*]; done)), H', ⟨by have := HJ7.out; have := HK2.out; have := HJ40.out; have := HJ52.out; have := HJ58.out; have := HJ70.out; have := HK7.out; omega⟩, ⟨by (with_reducible repeat (first | apply Kd.R_alloc | apply Kd.R_drewN | apply Kd.R_drew)); exact HO_31.out⟩, ⟨by (with_reducible repeat (first | apply Kd.R_alloc | apply Kd.R_drewN | apply Kd.R_drew)); exact HO_36.out⟩, ⟨by (with_reducible repeat (first | apply Kd.R_alloc | apply Kd.R_drewN | apply Kd.R_drew)); exact HO_239.out⟩, ⟨by repeat (first | (with_reducible first | exact HB.out | apply below_alloc | apply pw_below_drewN | apply below_drew1) | exact HB.out)⟩⟩
                                                · rw [if_neg c94] at H
                                                  have c94b0 : (t356 == t335) = false := beq_eq_false_iff_ne.mpr c94
                                                  have c94b1 : (t356 != t335) = true := bne_iff_ne.mpr c94
                                                  exact absurd (Option.some.inj H) (by rw [HR_.out]; decide)
                                              · replace c93 := Bool.eq_false_iff.mpr c93
                                                subst c93
                                                have H1 : (some false) = some r := by rw [if_neg (show ¬ (false = true) by decide)] at H; exact H
                                                clear H
                                                have H := H1
                                                clear H1
                                                exact absurd (Option.some.inj H) (by rw [HR_.out]; decide)
                                            · rw [if_neg c91] at H
                                              exact absurd H (by simp)
                                          · rw [if_neg c90] at H
                                            exact absurd H (by simp)
                                        · rw [if_neg c89] at H
                                          have c89b0 : decide (x241_7 < (t336.length : Int)) = false := decide_eq_false c89
                                          clear c89
                                          have HC102 := Aside0.mk H
                                          clear H
                                          go_upto_region 46 with (fail)
                                          repeat (go_quiet (fail); go_upto_region 46 with (fail))
                                          go_cut [280] (fun v280 wc => ∃ (kq : Nat) (x280_101 : Bool), v280 = .bool x280_101 ∧ Aside0 (laws_FnPairsAndPerfect.j7 kq t335 t336 t345 x280_101 = some r) ∧ Aside0 (kq ≤ k7) ∧ Aside0 (Kd.R (Kd.int .i64) 3 wc w.heap.size (fun k_ => some k_ ≠ (v347 : Value).ownBlock) (.slice Ao88 t336.length co88) t336) ∧ Aside0 (Kd.R (Kd.int .i64) 3 wc w.heap.size (fun k_ => some k_ ≠ ((.slice Ao88 t336.length co88) : Value).ownBlock) v347 t345) ∧ Aside0 (Below w.heap.size w wc))
                                          case first =>
                                            have H := HC102.out
                                            clear HC102
                                            by_cases c103 : t346 = true
                                            · subst c103
                                              have H1 : (if t337 = true then (laws_FnPairsAndPerfect.j7 k7 t335 t336 t345 (decide (t335 ≤ t344))) else (laws_FnPairsAndPerfect.j7 k7 t335 t336 t345 false)) = some r := by rw [if_pos rfl] at H; exact H
                                              clear H
                                              have H := H1
                                              clear H1
                                              by_cases c104 : t337 = true
                                              · subst c104
                                                have H1 : (laws_FnPairsAndPerfect.j7 k7 t335 t336 t345 (decide (t335 ≤ t344))) = some r := by rw [if_pos rfl] at H; exact H
                                                clear H
                                                have H := H1
                                                clear H1
                                                as_aux_lemma =>
                                                  have H' := Aside0.mk H
                                                  clear H
                                                  go_wp2
                                                  repeat (go_quiet (fail); try go_wp2)
                                                  go_meet
                                                  case rel => exact ⟨_, (decide (t335 ≤ t344)), (by first | rfl | (simp; done) | (simp [*]; done)), H', ⟨by have := HJ7.out; have := HK2.out; have := HJ40.out; have := HJ52.out; have := HJ58.out; have := HJ70.out; have := HK7.out; first | omega | exact Nat.le_refl _⟩, ⟨by (with_reducible repeat (first | apply Kd.R_alloc | apply Kd.R_drewN | apply Kd.R_drew)); exact HO_31.out⟩, ⟨by (with_reducible repeat (first | apply Kd.R_alloc | apply Kd.R_drewN | apply Kd.R_drew)); exact Kd.R_mono HO_36.out (fun _ hk => hk.1)⟩, ⟨by repeat (first | (with_reducible first | exact HB.out | apply below_alloc | apply pw_below_drewN | apply below_drew1) | exact HB.out)⟩⟩
                                              · replace c104 := Bool.eq_false_iff.mpr c104
                                                subst c104
                                                have H1 : (laws_FnPairsAndPerfect.j7 k7 t335 t336 t345 false) = some r := by rw [if_neg (show ¬ (false = true) by decide)] at H; exact H
                                                clear H
                                                have H := H1
                                                clear H1
                                                as_aux_lemma =>
                                                  have H' := Aside0.mk H
                                                  clear H
                                                  go_wp2
                                                  repeat (go_quiet (fail); try go_wp2)
                                                  go_meet
                                                  case rel => exact ⟨_, (false), (by first | rfl | (simp; done) | (simp [*]; done)), H', ⟨by have := HJ7.out; have := HK2.out; have := HJ40.out; have := HJ52.out; have := HJ58.out; have := HJ70.out; have := HK7.out; first | omega | exact Nat.le_refl _⟩, ⟨by (with_reducible repeat (first | apply Kd.R_alloc | apply Kd.R_drewN | apply Kd.R_drew)); exact HO_31.out⟩, ⟨by (with_reducible repeat (first | apply Kd.R_alloc | apply Kd.R_drewN | apply Kd.R_drew)); exact Kd.R_mono HO_36.out (fun _ hk => hk.1)⟩, ⟨by repeat (first | (with_reducible first | exact HB.out | apply below_alloc | apply pw_below_drewN | apply below_drew1) | exact HB.out)⟩⟩
                                            · replace c103 := Bool.eq_false_iff.mpr c103
                                              subst c103
                                              have H1 : (laws_FnPairsAndPerfect.j7 k7 t335 t336 t345 false) = some r := by rw [if_neg (show ¬ (false = true) by decide)] at H; exact H
                                              clear H
                                              have H := H1
                                              clear H1
                                              as_aux_lemma =>
                                                have H' := Aside0.mk H
                                                clear H
                                                go_wp2
                                                repeat (go_quiet (fail); try go_wp2)
                                                go_meet
                                                case rel => exact ⟨_, (false), (by first | rfl | (simp; done) | (simp [*]; done)), H', ⟨by have := HJ7.out; have := HK2.out; have := HJ40.out; have := HJ52.out; have := HJ58.out; have := HJ70.out; have := HK7.out; first | omega | exact Nat.le_refl _⟩, ⟨by (with_reducible repeat (first | apply Kd.R_alloc | apply Kd.R_drewN | apply Kd.R_drew)); exact HO_31.out⟩, ⟨by (with_reducible repeat (first | apply Kd.R_alloc | apply Kd.R_drewN | apply Kd.R_drew)); exact Kd.R_mono HO_36.out (fun _ hk => hk.1)⟩, ⟨by repeat (first | (with_reducible first | exact HB.out | apply below_alloc | apply pw_below_drewN | apply below_drew1) | exact HB.out)⟩⟩
                                          case rest =>
                                            clear HC102
                                            try clear c1
                                            try clear c2
                                            try clear p2
                                            try clear c3
                                            try clear p3
                                            try clear q3
                                            try clear hx3
                                            try clear qi3
                                            try clear c4
                                            try clear c5
                                            try clear c6
                                            try clear p6
                                            try clear c7
                                            try clear c8
                                            try clear c9
                                            try clear c10
                                            try clear c12
                                            try clear c12b0
                                            try clear c12b1
                                            try clear c12b2
                                            try clear c16
                                            try clear c18
                                            try clear c18b0
                                            try clear c19
                                            try clear c19b0
                                            try clear c20
                                            try clear c20b0
                                            try clear c21
                                            try clear c21b0
                                            try clear c21b1
                                            try clear c23
                                            try clear c24
                                            try clear c24b0
                                            try clear c24b1
                                            try clear c25
                                            try clear c25b0
                                            try clear c25b1
                                            try clear c26
                                            try clear c26b0
                                            try clear c27
                                            try clear c27b0
                                            try clear c29
                                            try clear c29b0
                                            try clear c30
                                            try clear c30b0
                                            try clear p30
                                            try clear q30
                                            try clear hx30
                                            try clear c31
                                            try clear c31b0
                                            try clear c31b1
                                            try clear p31
                                            try clear q31
                                            try clear hx31
                                            try clear qi31
                                            try clear c32
                                            try clear c32b0
                                            try clear p35
                                            try clear q35
                                            try clear hx35
                                            try clear c48
                                            try clear c48b0
                                            try clear c48b1
                                            try clear c48b2
                                            try clear c49
                                            try clear c49b0
                                            try clear c49b1
                                            try clear c50
                                            try clear c50b0
                                            try clear c50b1
                                            try clear c50b2
                                            try clear c51
                                            try clear c51b0
                                            try clear c51b1
                                            try clear c52
                                            try clear c54
                                            try clear c56
                                            try clear c57
                                            try clear c57b0
                                            try clear c57b1
                                            try clear c60
                                            try clear c62
                                            try clear c63
                                            try clear c63b0
                                            try clear c63b1
                                            try clear p64
                                            try clear c78
                                            try clear c78b0
                                            try clear c78b1
                                            try clear c78b2
                                            try clear c80
                                            try clear c81
                                            try clear c81b0
                                            try clear c81b1
                                            try clear c81b2
                                            try clear c87
                                            try clear c89
                                            try clear c89b0
                                            try clear c90
                                            try clear c90b0
                                            try clear c91
                                            try clear c91b0
                                            try clear c93
                                            try clear c94
                                            try clear c94b0
                                            try clear c94b1
                                            try clear c95
                                            try clear c95b0
                                            try clear c97
                                            try clear c97b0
                                            try clear c98
                                            try clear c98b0
                                            try clear c99
                                            try clear c99b0
                                            try clear c103
                                            try clear c104
                                            try clear hx309_0
                                            try clear hx310_0
                                            try clear hx313_0
                                            try clear hx314_0
                                            try clear hx315_0
                                            try clear hx316_0
                                            try clear hx317_0
                                            try clear hx318_0
                                            try clear hx355_0
                                            try clear hx358_0
                                            try clear p2
                                            try clear p3
                                            try clear p30
                                            try clear p309
                                            try clear p31
                                            try clear p310
                                            try clear p313
                                            try clear p314
                                            try clear p315
                                            try clear p316
                                            try clear p317
                                            try clear p318
                                            try clear p355
                                            try clear p358
                                            try clear p6
                                            try clear p64
                                            try clear q3
                                            try clear q30
                                            try clear q309
                                            try clear q31
                                            try clear q310
                                            try clear q313
                                            try clear q314
                                            try clear q315
                                            try clear q316
                                            try clear q317
                                            try clear q318
                                            try clear q355
                                            try clear q358
                                            obtain ⟨kq, x280_101, rfl, HA, HJ101, HO_31, HO_36, HB⟩ := hcut
                                            cases kq with
                                            | zero => exact absurd HA.out (by simp [laws_FnPairsAndPerfect.j7])
                                            | succ kj101 =>
                                              have H := HA.out
                                              clear HA
                                              simp only [laws_FnPairsAndPerfect.j7] at H
                                              by_cases c105 : x280_101 = true
                                              · subst c105
                                                have H1 : (laws_FnPairsAndPerfect.l2 kj101 t335 t336 false t345 (t345.length : Int) 0) = some r := by rw [if_pos rfl] at H; exact H
                                                clear H
                                                have H := H1
                                                clear H1
                                                have H' := Aside0.mk H
                                                clear H
                                                obtain ⟨Ao106, co106, eo106⟩ := Kd.R_slice HO_36.out
                                                subst eo106
                                                go_wp2
                                                repeat (go_quiet (fail); try go_wp2)
                                                go_loopg [44, 283] kj101 (fun kq v44 v283 w' => ∃ (x44_9 : Bool) (x283_9 : Int), v44 = .bool x44_9 ∧ v283 = .int .i64 x283_9 ∧ Aside0 (laws_FnPairsAndPerfect.l2 kq t335 t336 x44_9 t345 (t345.length : Int) x283_9 = some r) ∧ Aside0 (kq ≤ kj101) ∧ Aside0 (Kd.R (Kd.int .i64) 3 w' w.heap.size (fun k_ => some k_ ≠ ((.slice Ao106 t345.length co106) : Value).ownBlock) (.slice Ao88 t336.length co88) t336) ∧ Aside0 (Kd.R (Kd.int .i64) 3 w' w.heap.size (fun k_ => some k_ ≠ ((.slice Ao88 t336.length co88) : Value).ownBlock) (.slice Ao106 t345.length co106) t345) ∧ Aside0 (Below w.heap.size w w'))
                                                case atStart => exact ⟨(false), (0), (by first | rfl | (simp; done) | (simp [*]; done)), (by first | rfl | (simp; done) | (simp [*]; done)), H', ⟨Nat.le_refl _⟩, ⟨by (with_reducible repeat (first | apply Kd.R_alloc | apply Kd.R_drewN | apply Kd.R_drew)); exact HO_31.out⟩, ⟨by (with_reducible repeat (first | apply Kd.R_alloc | apply Kd.R_drewN | apply Kd.R_drew)); exact HO_36.out⟩, ⟨by repeat (first | (with_reducible first | exact HB.out | apply below_alloc | apply pw_below_drewN | apply below_drew1) | exact HB.out)⟩⟩
                                                case round =>
                                                  clear H'
                                                  try clear c1
                                                  try clear c2
                                                  try clear p2
                                                  try clear c3
                                                  try clear p3
                                                  try clear q3
                                                  try clear hx3
                                                  try clear qi3
                                                  try clear c4
                                                  try clear c5
                                                  try clear c6
                                                  try clear p6
                                                  try clear c7
                                                  try clear c8
                                                  try clear c9
                                                  try clear c10
                                                  try clear c12
                                                  try clear c12b0
                                                  try clear c12b1
                                                  try clear c12b2
                                                  try clear c16
                                                  try clear c18
                                                  try clear c18b0
                                                  try clear c19
                                                  try clear c19b0
                                                  try clear c20
                                                  try clear c20b0
                                                  try clear c21
                                                  try clear c21b0
                                                  try clear c21b1
                                                  try clear c23
                                                  try clear c24
                                                  try clear c24b0
                                                  try clear c24b1
                                                  try clear c25
                                                  try clear c25b0
                                                  try clear c25b1
                                                  try clear c26
                                                  try clear c26b0
                                                  try clear c27
                                                  try clear c27b0
                                                  try clear c29
                                                  try clear c29b0
                                                  try clear c30
                                                  try clear c30b0
                                                  try clear p30
                                                  try clear q30
                                                  try clear hx30
                                                  try clear c31
                                                  try clear c31b0
                                                  try clear c31b1
                                                  try clear p31
                                                  try clear q31
                                                  try clear hx31
                                                  try clear qi31
                                                  try clear c32
                                                  try clear c32b0
                                                  try clear p35
                                                  try clear q35
                                                  try clear hx35
                                                  try clear c48
                                                  try clear c48b0
                                                  try clear c48b1
                                                  try clear c48b2
                                                  try clear c49
                                                  try clear c49b0
                                                  try clear c49b1
                                                  try clear c50
                                                  try clear c50b0
                                                  try clear c50b1
                                                  try clear c50b2
                                                  try clear c51
                                                  try clear c51b0
                                                  try clear c51b1
                                                  try clear c52
                                                  try clear c54
                                                  try clear c56
                                                  try clear c57
                                                  try clear c57b0
                                                  try clear c57b1
                                                  try clear c60
                                                  try clear c62
                                                  try clear c63
                                                  try clear c63b0
                                                  try clear c63b1
                                                  try clear p64
                                                  try clear c78
                                                  try clear c78b0
                                                  try clear c78b1
                                                  try clear c78b2
                                                  try clear c80
                                                  try clear c81
                                                  try clear c81b0
                                                  try clear c81b1
                                                  try clear c81b2
                                                  try clear c87
                                                  try clear c89
                                                  try clear c89b0
                                                  try clear c90
                                                  try clear c90b0
                                                  try clear c91
                                                  try clear c91b0
                                                  try clear c93
                                                  try clear c94
                                                  try clear c94b0
                                                  try clear c94b1
                                                  try clear c95
                                                  try clear c95b0
                                                  try clear c97
                                                  try clear c97b0
                                                  try clear c98
                                                  try clear c98b0
                                                  try clear c99
                                                  try clear c99b0
                                                  try clear c103
                                                  try clear c104
                                                  try clear c105
                                                  try clear hx309_0
                                                  try clear hx310_0
                                                  try clear hx313_0
                                                  try clear hx314_0
                                                  try clear hx315_0
                                                  try clear hx316_0
                                                  try clear hx317_0
                                                  try clear hx318_0
                                                  try clear hx355_0
                                                  try clear hx358_0
                                                  try clear p2
                                                  try clear p3
                                                  try clear p30
                                                  try clear p309
                                                  try clear p31
                                                  try clear p310
                                                  try clear p313
                                                  try clear p314
                                                  try clear p315
                                                  try clear p316
                                                  try clear p317
                                                  try clear p318
                                                  try clear p35
                                                  try clear p355
                                                  try clear p358
                                                  try clear p6
                                                  try clear p64
                                                  try clear q3
                                                  try clear q30
                                                  try clear q309
                                                  try clear q31
                                                  try clear q310
                                                  try clear q313
                                                  try clear q314
                                                  try clear q315
                                                  try clear q316
                                                  try clear q317
                                                  try clear q318
                                                  try clear q35
                                                  try clear q355
                                                  try clear q358
                                                  obtain ⟨x44_9, x283_9, rfl, rfl, HA, HK9, HO_31, HO_281, HB⟩ := hrel
                                                  cases gk with
                                                  | zero => exact absurd HA.out (by simp [laws_FnPairsAndPerfect.l2])
                                                  | succ k9 =>
                                                    have H := HA.out
                                                    clear HA
                                                    simp only [laws_FnPairsAndPerfect.l2] at H
                                                    by_cases c107 : x283_9 < (t345.length : Int)
                                                    · rw [if_pos c107] at H
                                                      have c107b0 : decide (x283_9 < (t345.length : Int)) = true := decide_eq_true c107
                                                      clear c107
                                                      by_cases c108 : 0 ≤ x283_9
                                                      · rw [if_pos c108] at H
                                                        have c108b0 : decide (0 ≤ x283_9) = true := decide_eq_true c108
                                                        clear c108
                                                        by_cases c109 : x283_9 < (t345.length : Int)
                                                        · rw [if_pos c109] at H
                                                          have c109b0 : decide (x283_9 < (t345.length : Int)) = true := decide_eq_true c109
                                                          clear c109
                                                          by_cases c110 : x44_9 = true
                                                          · subst c110
                                                            have H1 : (laws_FnPairsAndPerfect.l2 k9 t335 t336 true t345 (t345.length : Int) (wrap64 (x283_9 + 1))) = some r := by rw [if_pos rfl] at H; exact H
                                                            clear H
                                                            have H := H1
                                                            clear H1
                                                            as_aux_lemma =>
                                                              have H' := Aside0.mk H
                                                              clear H
                                                              have p359 : 0 ≤ (x283_9 : Int) := of_decide_eq_true (by first | (with_reducible assumption) | assumption)
                                                              have q359 : x283_9 < (t345.length : Int) := of_decide_eq_true (by first | (with_reducible assumption) | assumption)
                                                              obtain ⟨ad359, e359, hx359_0⟩ := Kd.at_int (Kd.R_reads' HO_281.out).2.2 x283_9 p359 q359
                                                              cases e359
                                                              replace p359 := eq_true p359
                                                              replace q359 := eq_true q359
                                                              go_wp2
                                                              repeat (go_quiet (fail); try go_wp2)
                                                              go_roundg k9
                                                              case measure => have := HJ7.out; have := HK2.out; have := HJ40.out; have := HJ52.out; have := HJ58.out; have := HJ70.out; have := HK7.out; have := HJ101.out; have := HK9.out; omega
                                                              case rel => exact ⟨(true), (wrap64 (x283_9 + 1)), (by first | rfl | (simp; done) | (simp [*]; done)), (by first | rfl | (simp; done) | (simp [*]; done)), H', ⟨by have := HJ7.out; have := HK2.out; have := HJ40.out; have := HJ52.out; have := HJ58.out; have := HJ70.out; have := HK7.out; have := HJ101.out; have := HK9.out; omega⟩, ⟨by (with_reducible repeat (first | apply Kd.R_alloc | apply Kd.R_drewN | apply Kd.R_drew)); exact HO_31.out⟩, ⟨by (with_reducible repeat (first | apply Kd.R_alloc | apply Kd.R_drewN | apply Kd.R_drew)); exact HO_281.out⟩, ⟨by repeat (first | (with_reducible first | exact HB.out | apply below_alloc | apply pw_below_drewN | apply below_drew1) | exact HB.out)⟩⟩
                                                          · replace c110 := Bool.eq_false_iff.mpr c110
                                                            subst c110
                                                            have H1 : (laws_FnPairsAndPerfect.l2 k9 t335 t336 ((rd t345 x283_9) == t335) t345 (t345.length : Int) (wrap64 (x283_9 + 1))) = some r := by rw [if_neg (show ¬ (false = true) by decide)] at H; exact H
                                                            clear H
                                                            have H := H1
                                                            clear H1
                                                            as_aux_lemma =>
                                                              have H' := Aside0.mk H
                                                              clear H
                                                              have p359 : 0 ≤ (x283_9 : Int) := of_decide_eq_true (by first | (with_reducible assumption) | assumption)
                                                              have q359 : x283_9 < (t345.length : Int) := of_decide_eq_true (by first | (with_reducible assumption) | assumption)
                                                              obtain ⟨ad359, e359, hx359_0⟩ := Kd.at_int (Kd.R_reads' HO_281.out).2.2 x283_9 p359 q359
                                                              cases e359
                                                              replace p359 := eq_true p359
                                                              replace q359 := eq_true q359
                                                              go_wp2
                                                              repeat (go_quiet (fail); try go_wp2)
                                                              go_roundg k9
                                                              case measure => have := HJ7.out; have := HK2.out; have := HJ40.out; have := HJ52.out; have := HJ58.out; have := HJ70.out; have := HK7.out; have := HJ101.out; have := HK9.out; omega
                                                              case rel => exact ⟨(((rd t345 x283_9) == t335)), (wrap64 (x283_9 + 1)), (by first | rfl | (simp; done) | (simp [*]; done)), (by first | rfl | (simp; done) | (simp [*]; done)), H', ⟨by have := HJ7.out; have := HK2.out; have := HJ40.out; have := HJ52.out; have := HJ58.out; have := HJ70.out; have := HK7.out; have := HJ101.out; have := HK9.out; omega⟩, ⟨by (with_reducible repeat (first | apply Kd.R_alloc | apply Kd.R_drewN | apply Kd.R_drew)); exact HO_31.out⟩, ⟨by (with_reducible repeat (first | apply Kd.R_alloc | apply Kd.R_drewN | apply Kd.R_drew)); exact HO_281.out⟩, ⟨by repeat (first | (with_reducible first | exact HB.out | apply below_alloc | apply pw_below_drewN | apply below_drew1) | exact HB.out)⟩⟩
                                                        · rw [if_neg c109] at H
                                                          exact absurd H (by simp)
                                                      · rw [if_neg c108] at H
                                                        exact absurd H (by simp)
                                                    · rw [if_neg c107] at H
                                                      have c107b0 : decide (x283_9 < (t345.length : Int)) = false := decide_eq_false c107
                                                      clear c107
                                                      as_aux_lemma =>
                                                        obtain rfl := Option.some.inj H
                                                        go_wp2
                                                        repeat (go_quiet (fail); try go_wp2)
                                                        go_ret
                                                        exact ⟨by first | rfl | (simp [errW_none, errW_some] <;> rfl) | (simp [*, errW_none, errW_some] <;> rfl), by repeat (first | (with_reducible first | exact HB.out | apply below_alloc | apply pw_below_drewN | apply below_drew1) | exact HB.out)⟩
                                              · replace c105 := Bool.eq_false_iff.mpr c105
                                                subst c105
                                                have H1 : (some true) = some r := by rw [if_neg (show ¬ (false = true) by decide)] at H; exact H
                                                clear H
                                                have H := H1
                                                clear H1
                                                as_aux_lemma =>
                                                  obtain rfl := Option.some.inj H
                                                  go_wp2
                                                  repeat (go_quiet (fail); try go_wp2)
                                                  go_ret
                                                  exact ⟨by first | rfl | (simp [errW_none, errW_some] <;> rfl) | (simp [*, errW_none, errW_some] <;> rfl), by repeat (first | (with_reducible first | exact HB.out | apply below_alloc | apply pw_below_drewN | apply below_drew1) | exact HB.out)⟩

/-- THE ONE PURE STATEMENT of laws_FnPairsAndPerfect: yours. -/
def laws_FnPairsAndPerfect.Pure : Prop := ∀ (l0 : List Int) (l1 : List Int), l0.length ≤ maxLen → l0.length * 1 ≤ 140737488351232 → (∀ x ∈ l0, (Lit.int .u8 x).wf = true) → l1.length ≤ maxLen → l1.length * 1 ≤ 140737488351232 → (∀ x ∈ l1, (Lit.int .u8 x).wf = true) → ∃ k, laws_FnPairsAndPerfect.f k l0 l1 = some true
theorem laws_FnPairsAndPerfect.walk (P : laws_FnPairsAndPerfect.Pure) (a0 : Option Addr) (len0 cap0 : Nat) (z0 : List Int) (a1 : Option Addr) (len1 cap1 : Nat) (z1 : List Int) (w : World) (w0 : (a0 = none ∧ len0 = 0 ∧ cap0 = 0 ∧ z0 = []) ∨ ∃ x, a0 = some x ∧ len0 ≤ cap0 ∧ cap0 ≤ maxLen ∧ z0.length = cap0 ∧ (∀ i, i < z0.length → w.cell? (x.add i) = some (.int .u8 (z0.getD i 0))) ∧ ∀ n ∈ z0, (Lit.int .u8 n).wf = true) (y0 : len0 * 1 ≤ 140737488351232) (w1 : (a1 = none ∧ len1 = 0 ∧ cap1 = 0 ∧ z1 = []) ∨ ∃ x, a1 = some x ∧ len1 ≤ cap1 ∧ cap1 ≤ maxLen ∧ z1.length = cap1 ∧ (∀ i, i < z1.length → w.cell? (x.add i) = some (.int .u8 (z1.getD i 0))) ∧ ∀ n ∈ z1, (Lit.int .u8 n).wf = true) (y1 : len1 * 1 ≤ 140737488351232) :
    Calls Try.prog 3 #[.slice a0 len0 cap0, .slice a1 len1 cap1] w fun e w' => e = .returned (.bool true) ∧ Below w.heap.size w w' := by
  obtain ⟨l0, rfl, hr0, hm0, hw0, hc0⟩ := ReadsInt.ofRowC w0
  obtain ⟨l1, rfl, hr1, hm1, hw1, hc1⟩ := ReadsInt.ofRowC w1
  obtain ⟨k, h⟩ := P l0 l1 hm0 y0 hw0 hm1 y1 hw1
  refine (laws_FnPairsAndPerfect.calls k _ _ l0 _ _ l1 true w (Kd.C_of_reads (d := (0 : Int)) (h1 := fun _ => rfl) hr0) hc0 (Kd.C_of_reads (d := (0 : Int)) (h1 := fun _ => rfl) hr1) hc1 h rfl).mono ?_
  rintro e w' ⟨rfl, hd⟩
  exact ⟨rfl, hd⟩

end Go.Proofs.Ytiheocddlopfcaa.PFnPairsAndPerfect
