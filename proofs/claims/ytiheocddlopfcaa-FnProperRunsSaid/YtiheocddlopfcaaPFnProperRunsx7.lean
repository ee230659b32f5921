-- out of the kit's print, turned by wip/own_print.py
import Derived.Test.YtiheocddlopfcaaPFnProperRunsx0
import Derived.Test.YtiheocddlopfcaaPFnProperRunsx1
import Derived.Test.YtiheocddlopfcaaPFnProperRunsx2
import Derived.Test.YtiheocddlopfcaaPFnProperRunsx4
import Derived.Test.YtiheocddlopfcaaPFnProperRunsx5
import Derived.Test.YtiheocddlopfcaaPFnProperRunsx6
namespace Go.Proofs.Ytiheocddlopfcaa.PFnProperRuns
open Go.RowKit Go.Proofs.YtiheocddlopfcaaW.PrintWords Go.Proofs.YtiheocddlopfcaaW.PrintLast Go.Proofs.YtiheocddlopfcaaW.PrintMore
attribute [local go_sem] max2_int min2_int max_two min_two max_three min_three max_four min_four   -- for this text's walks alone
set_option linter.unusedVariables false
set_option linter.unusedSimpArgs false

/-! ### laws_FnProperRuns: function 5 -/
mutual
def laws_FnProperRuns.j0 : Nat → List Int → Int → Int → Int → Bool → List Int → List Int → Bool → Bool → Option (Bool)
  | 0, _, _, _, _, _, _, _, _, _ => none
  | k + 1, x1, x5, x6, x7, x8, x11, x15, x16, x128 => if x128 = true then (some false) else (if x8 = true then (if 0 < (x11.length : Int) then (if (rd x11 0) = x5 then (laws_FnProperRuns.j1 k x1 x7 x11 x15 x16 (decide ((x11.length : Int) > x6))) else (laws_FnProperRuns.j1 k x1 x7 x11 x15 x16 true)) else (none)) else (laws_FnProperRuns.j3 k x1 x7 x15 x16))
def laws_FnProperRuns.j3 : Nat → List Int → Int → List Int → Bool → Option (Bool)
  | 0, _, _, _, _ => none
  | k + 1, x1, x7, x15, x16 => if x16 = true then (laws_FnProperRuns.l1 k x1 x7 x15 x15 (x15.length : Int) 0) else (laws_FnProperRuns.j6 k x1)
def laws_FnProperRuns.j6 : Nat → List Int → Option (Bool)
  | 0, _ => none
  | k + 1, x1 => (spec_DrawPartnerOf.f k x1).bind fun t377 => ((impl_PartnerOf.f k t377).bind fun bt378 => ((spec_PartnerOf.f k t377).bind fun bt380 => (if (bt378.2 != bt380.2) = true then (laws_FnProperRuns.j7 k t377 bt378.1 bt378.2 true) else (laws_FnProperRuns.j7 k t377 bt378.1 bt378.2 (bt378.1 != bt380.1)))))
def laws_FnProperRuns.j7 : Nat → Int → Int → Bool → Bool → Option (Bool)
  | 0, _, _, _, _ => none
  | k + 1, x30, x31, x32, x282 => if x282 = true then (some false) else (if x32 = true then ((impl_PartnerOf.f k x31).bind fun bt382 => (if bt382.2 = true then (if bt382.1 = x30 then (some (x31 != x30)) else (some false)) else (some false))) else (some true))
def laws_FnProperRuns.l1 : Nat → List Int → Int → List Int → List Int → Int → Int → Option (Bool)
  | 0, _, _, _, _, _, _ => none
  | k + 1, x1, x7, x15, x193, x194, x195 => if x195 < x194 then (if 0 ≤ x195 then (if x195 < (x193.length : Int) then ((impl_ProperSum.f k (rd x193 x195)).bind fun bt369 => (if bt369.2 = true then (if (x15.length : Int) = 0 then (none) else (if 0 ≤ (Int.tmod (wrap64 (x195 + 1)) (x15.length : Int)) then (if (Int.tmod (wrap64 (x195 + 1)) (x15.length : Int)) < (x15.length : Int) then (if bt369.1 = (rd x15 (Int.tmod (wrap64 (x195 + 1)) (x15.length : Int))) then (if 0 < (x15.length : Int) then (if (rd x193 x195) < (rd x15 0) then (some false) else (laws_FnProperRuns.l1 k x1 x7 x15 x193 x194 (wrap64 (x195 + 1)))) else (none)) else (some false)) else (none)) else (none))) else (some false))) else (none)) else (none)) else (if 0 < (x15.length : Int) then ((impl_PartnerOf.f k (rd x15 0)).bind fun bt374 => (if (bt374.2 != ((x15.length : Int) == 2)) = true then (laws_FnProperRuns.j5 k x1 x7 x15 true) else (if bt374.2 = true then (if 1 < (x15.length : Int) then (laws_FnProperRuns.j5 k x1 x7 x15 (bt374.1 != (rd x15 1))) else (none)) else (laws_FnProperRuns.j5 k x1 x7 x15 false)))) else (none))
def laws_FnProperRuns.j5 : Nat → List Int → Int → List Int → Bool → Option (Bool)
  | 0, _, _, _, _ => none
  | k + 1, x1, x7, x15, x248 => if x248 = true then (some false) else (if ((x7 == 1) != ((x15.length : Int) == 1)) = true then (some false) else (if ((x7 == 2) != ((x15.length : Int) == 2)) = true then (some false) else (laws_FnProperRuns.j6 k x1)))
def laws_FnProperRuns.j1 : Nat → List Int → Int → List Int → List Int → Bool → Bool → Option (Bool)
  | 0, _, _, _, _, _, _ => none
  | k + 1, x1, x7, x11, x15, x16, x140 => if x140 = true then (some false) else (laws_FnProperRuns.l0 k x1 x7 x11 x15 x16 1)
def laws_FnProperRuns.l0 : Nat → List Int → Int → List Int → List Int → Bool → Int → Option (Bool)
  | 0, _, _, _, _, _, _ => none
  | k + 1, x1, x7, x11, x15, x16, x19 => if x19 < (x11.length : Int) then (if 0 ≤ (wrap64 (x19 - 1)) then (if (wrap64 (x19 - 1)) < (x11.length : Int) then ((impl_ProperSum.f k (rd x11 (wrap64 (x19 - 1)))).bind fun bt362 => (if bt362.2 = true then (if 0 ≤ x19 then (if bt362.1 = (rd x11 x19) then (laws_FnProperRuns.l0 k x1 x7 x11 x15 x16 (wrap64 (x19 + 1))) else (some false)) else (none)) else (some false))) else (none)) else (none)) else (if 0 ≤ (wrap64 ((x11.length : Int) - 1)) then (if (wrap64 ((x11.length : Int) - 1)) < (x11.length : Int) then ((impl_ProperSum.f k (rd x11 (wrap64 ((x11.length : Int) - 1)))).bind fun bt366 => (if bt366.2 = true then (if ((x7 == 0) != (bt366.1 == 0)) = true then (some false) else (if ((x7 == 4) != (decide (bt366.1 > 1000000000))) = true then (some false) else (laws_FnProperRuns.j3 k x1 x7 x15 x16))) else (some false))) else (none)) else (none))
end
def laws_FnProperRuns.f (k : Nat) (l0 : List Int) (l1 : List Int) : Option (Bool) := (laws_big.f l0 l1).bind fun t335 => (if t335 = true then (some true) else ((spec_DrawEndOfRun.f k l0).bind fun bt336 => ((impl_EndOfRun.f k bt336.1 bt336.2).bind fun bt338 => ((spec_EndOfRun.f k bt336.1 bt336.2).bind fun bt340 => ((impl_ProperRun.f k bt336.1 bt336.2).bind fun bt342 => ((spec_ProperRun.f k bt336.1 bt336.2).bind fun bt346 => ((impl_CircleOf.f k bt336.1 bt336.2).bind fun bt350 => ((spec_CircleOf.f k bt336.1 bt336.2).bind fun bt354 => (if (bt338.2 != bt340.2) = true then (laws_FnProperRuns.j0 k l1 bt336.1 bt336.2 bt338.1 bt338.2 bt342.1 bt350.1 bt350.2 true) else (if bt338.1 = bt340.1 then (if (bt342.2 != bt346.2) = true then (laws_FnProperRuns.j0 k l1 bt336.1 bt336.2 bt338.1 bt338.2 bt342.1 bt350.1 bt350.2 true) else ((laws_qSame.f k bt342.1 bt346.1).bind fun t358 => (if t358 = true then (if (bt350.2 != bt354.2) = true then (laws_FnProperRuns.j0 k l1 bt336.1 bt336.2 bt338.1 bt338.2 bt342.1 bt350.1 bt350.2 true) else ((laws_qSame.f k bt350.1 bt354.1).bind fun t359 => (if t359 = true then (if (bt342.2 != bt338.2) = true then (laws_FnProperRuns.j0 k l1 bt336.1 bt336.2 bt338.1 bt338.2 bt342.1 bt350.1 bt350.2 true) else (if bt338.2 = true then (if bt338.1 ≥ 1 then (laws_FnProperRuns.j0 k l1 bt336.1 bt336.2 bt338.1 bt338.2 bt342.1 bt350.1 bt350.2 (bt350.2 != (decide (bt338.1 ≤ 3)))) else (laws_FnProperRuns.j0 k l1 bt336.1 bt336.2 bt338.1 bt338.2 bt342.1 bt350.1 bt350.2 (bt350.2 != false))) else (laws_FnProperRuns.j0 k l1 bt336.1 bt336.2 bt338.1 bt338.2 bt342.1 bt350.1 bt350.2 (bt350.2 != false)))) else (laws_FnProperRuns.j0 k l1 bt336.1 bt336.2 bt338.1 bt338.2 bt342.1 bt350.1 bt350.2 true)))) else (laws_FnProperRuns.j0 k l1 bt336.1 bt336.2 bt338.1 bt338.2 bt342.1 bt350.1 bt350.2 true)))) else (laws_FnProperRuns.j0 k l1 bt336.1 bt336.2 bt338.1 bt338.2 bt342.1 bt350.1 bt350.2 true)))))))))))
theorem laws_FnProperRuns.mono_l : ∀ k, (∀ y0 y1 y2 y3 y4 y5 y6 y7 y8, LeO (laws_FnProperRuns.j0 k y0 y1 y2 y3 y4 y5 y6 y7 y8) (laws_FnProperRuns.j0 (k + 1) y0 y1 y2 y3 y4 y5 y6 y7 y8)) ∧ (∀ y0 y1 y2 y3, LeO (laws_FnProperRuns.j3 k y0 y1 y2 y3) (laws_FnProperRuns.j3 (k + 1) y0 y1 y2 y3)) ∧ (∀ y0, LeO (laws_FnProperRuns.j6 k y0) (laws_FnProperRuns.j6 (k + 1) y0)) ∧ (∀ y0 y1 y2 y3, LeO (laws_FnProperRuns.j7 k y0 y1 y2 y3) (laws_FnProperRuns.j7 (k + 1) y0 y1 y2 y3)) ∧ (∀ y0 y1 y2 y3 y4 y5, LeO (laws_FnProperRuns.l1 k y0 y1 y2 y3 y4 y5) (laws_FnProperRuns.l1 (k + 1) y0 y1 y2 y3 y4 y5)) ∧ (∀ y0 y1 y2 y3, LeO (laws_FnProperRuns.j5 k y0 y1 y2 y3) (laws_FnProperRuns.j5 (k + 1) y0 y1 y2 y3)) ∧ (∀ y0 y1 y2 y3 y4 y5, LeO (laws_FnProperRuns.j1 k y0 y1 y2 y3 y4 y5) (laws_FnProperRuns.j1 (k + 1) y0 y1 y2 y3 y4 y5)) ∧ (∀ y0 y1 y2 y3 y4 y5, LeO (laws_FnProperRuns.l0 k y0 y1 y2 y3 y4 y5) (laws_FnProperRuns.l0 (k + 1) y0 y1 y2 y3 y4 y5))
  | 0 => ⟨fun _ _ _ _ _ _ _ _ _ r h => by simp [laws_FnProperRuns.j0] at h, fun _ _ _ _ r h => by simp [laws_FnProperRuns.j3] at h, fun _ r h => by simp [laws_FnProperRuns.j6] at h, fun _ _ _ _ r h => by simp [laws_FnProperRuns.j7] at h, fun _ _ _ _ _ _ r h => by simp [laws_FnProperRuns.l1] at h, fun _ _ _ _ r h => by simp [laws_FnProperRuns.j5] at h, fun _ _ _ _ _ _ r h => by simp [laws_FnProperRuns.j1] at h, fun _ _ _ _ _ _ r h => by simp [laws_FnProperRuns.l0] at h⟩
  | k + 1 => by
    obtain ⟨ih0, ih1, ih2, ih3, ih4, ih5, ih6, ih7⟩ := laws_FnProperRuns.mono_l k
    refine ⟨?_, ?_, ?_, ?_, ?_, ?_, ?_, ?_⟩
    · intro y0 y1 y2 y3 y4 y5 y6 y7 y8
      unfold laws_FnProperRuns.j0
      repeat' first
      | (with_reducible exact ih0 _ _ _ _ _ _ _ _ _)
      | (with_reducible exact ih1 _ _ _ _)
      | (with_reducible exact ih2 _)
      | (with_reducible exact ih3 _ _ _ _)
      | (with_reducible exact ih4 _ _ _ _ _ _)
      | (with_reducible exact ih5 _ _ _ _)
      | (with_reducible exact ih6 _ _ _ _ _ _)
      | (with_reducible exact ih7 _ _ _ _ _ _)
      | (with_reducible exact impl_CircleOf.mono _ _ _)
      | (with_reducible exact impl_EndOfRun.mono _ _ _)
      | (with_reducible exact impl_PartnerOf.mono _ _)
      | (with_reducible exact impl_ProperRun.mono _ _ _)
      | (with_reducible exact impl_ProperSum.mono _ _)
      | (with_reducible exact laws_qSame.mono _ _ _)
      | (with_reducible exact spec_CircleOf.mono _ _ _)
      | (with_reducible exact spec_DrawEndOfRun.mono _ _)
      | (with_reducible exact spec_DrawPartnerOf.mono _ _)
      | (with_reducible exact spec_EndOfRun.mono _ _ _)
      | (with_reducible exact spec_PartnerOf.mono _ _)
      | (with_reducible exact spec_ProperRun.mono _ _ _)
      | (with_reducible exact LeO.refl _)
      | (with_reducible exact LeO.none _)
      | (with_reducible refine LeO.ite ?_ ?_)
      | (with_reducible refine LeO.bind ?_ (fun _ => ?_))
      | exact ih0 _ _ _ _ _ _ _ _ _
      | exact ih1 _ _ _ _
      | exact ih2 _
      | exact ih3 _ _ _ _
      | exact ih4 _ _ _ _ _ _
      | exact ih5 _ _ _ _
      | exact ih6 _ _ _ _ _ _
      | exact ih7 _ _ _ _ _ _
      | exact impl_CircleOf.mono _ _ _
      | exact impl_EndOfRun.mono _ _ _
      | exact impl_PartnerOf.mono _ _
      | exact impl_ProperRun.mono _ _ _
      | exact impl_ProperSum.mono _ _
      | exact laws_qSame.mono _ _ _
      | exact spec_CircleOf.mono _ _ _
      | exact spec_DrawEndOfRun.mono _ _
      | exact spec_DrawPartnerOf.mono _ _
      | exact spec_EndOfRun.mono _ _ _
      | exact spec_PartnerOf.mono _ _
      | exact spec_ProperRun.mono _ _ _
      | exact LeO.none _
      | refine LeO.ite ?_ ?_
      | refine LeO.bind ?_ (fun _ => ?_)
    · intro y0 y1 y2 y3
      unfold laws_FnProperRuns.j3
      repeat' first
      | (with_reducible exact ih0 _ _ _ _ _ _ _ _ _)
      | (with_reducible exact ih1 _ _ _ _)
      | (with_reducible exact ih2 _)
      | (with_reducible exact ih3 _ _ _ _)
      | (with_reducible exact ih4 _ _ _ _ _ _)
      | (with_reducible exact ih5 _ _ _ _)
      | (with_reducible exact ih6 _ _ _ _ _ _)
      | (with_reducible exact ih7 _ _ _ _ _ _)
      | (with_reducible exact impl_CircleOf.mono _ _ _)
      | (with_reducible exact impl_EndOfRun.mono _ _ _)
      | (with_reducible exact impl_PartnerOf.mono _ _)
      | (with_reducible exact impl_ProperRun.mono _ _ _)
      | (with_reducible exact impl_ProperSum.mono _ _)
      | (with_reducible exact laws_qSame.mono _ _ _)
      | (with_reducible exact spec_CircleOf.mono _ _ _)
      | (with_reducible exact spec_DrawEndOfRun.mono _ _)
      | (with_reducible exact spec_DrawPartnerOf.mono _ _)
      | (with_reducible exact spec_EndOfRun.mono _ _ _)
      | (with_reducible exact spec_PartnerOf.mono _ _)
      | (with_reducible exact spec_ProperRun.mono _ _ _)
      | (with_reducible exact LeO.refl _)
      | (with_reducible exact LeO.none _)
      | (with_reducible refine LeO.ite ?_ ?_)
      | (with_reducible refine LeO.bind ?_ (fun _ => ?_))
      | exact ih0 _ _ _ _ _ _ _ _ _
      | exact ih1 _ _ _ _
      | exact ih2 _
      | exact ih3 _ _ _ _
      | exact ih4 _ _ _ _ _ _
      | exact ih5 _ _ _ _
      | exact ih6 _ _ _ _ _ _
      | exact ih7 _ _ _ _ _ _
      | exact impl_CircleOf.mono _ _ _
      | exact impl_EndOfRun.mono _ _ _
      | exact impl_PartnerOf.mono _ _
      | exact impl_ProperRun.mono _ _ _
      | exact impl_ProperSum.mono _ _
      | exact laws_qSame.mono _ _ _
      | exact spec_CircleOf.mono _ _ _
      | exact spec_DrawEndOfRun.mono _ _
      | exact spec_DrawPartnerOf.mono _ _
      | exact spec_EndOfRun.mono _ _ _
      | exact spec_PartnerOf.mono _ _
      | exact spec_ProperRun.mono _ _ _
      | exact LeO.none _
      | refine LeO.ite ?_ ?_
      | refine LeO.bind ?_ (fun _ => ?_)
    · intro y0
      unfold laws_FnProperRuns.j6
      repeat' first
      | (with_reducible exact ih0 _ _ _ _ _ _ _ _ _)
      | (with_reducible exact ih1 _ _ _ _)
      | (with_reducible exact ih2 _)
      | (with_reducible exact ih3 _ _ _ _)
      | (with_reducible exact ih4 _ _ _ _ _ _)
      | (with_reducible exact ih5 _ _ _ _)
      | (with_reducible exact ih6 _ _ _ _ _ _)
      | (with_reducible exact ih7 _ _ _ _ _ _)
      | (with_reducible exact impl_CircleOf.mono _ _ _)
      | (with_reducible exact impl_EndOfRun.mono _ _ _)
      | (with_reducible exact impl_PartnerOf.mono _ _)
      | (with_reducible exact impl_ProperRun.mono _ _ _)
      | (with_reducible exact impl_ProperSum.mono _ _)
      | (with_reducible exact laws_qSame.mono _ _ _)
      | (with_reducible exact spec_CircleOf.mono _ _ _)
      | (with_reducible exact spec_DrawEndOfRun.mono _ _)
      | (with_reducible exact spec_DrawPartnerOf.mono _ _)
      | (with_reducible exact spec_EndOfRun.mono _ _ _)
      | (with_reducible exact spec_PartnerOf.mono _ _)
      | (with_reducible exact spec_ProperRun.mono _ _ _)
      | (with_reducible exact LeO.refl _)
      | (with_reducible exact LeO.none _)
      | (with_reducible refine LeO.ite ?_ ?_)
      | (with_reducible refine LeO.bind ?_ (fun _ => ?_))
      | exact ih0 _ _ _ _ _ _ _ _ _
      | exact ih1 _ _ _ _
      | exact ih2 _
      | exact ih3 _ _ _ _
      | exact ih4 _ _ _ _ _ _
      | exact ih5 _ _ _ _
      | exact ih6 _ _ _ _ _ _
      | exact ih7 _ _ _ _ _ _
      | exact impl_CircleOf.mono _ _ _
      | exact impl_EndOfRun.mono _ _ _
      | exact impl_PartnerOf.mono _ _
      | exact impl_ProperRun.mono _ _ _
      | exact impl_ProperSum.mono _ _
      | exact laws_qSame.mono _ _ _
      | exact spec_CircleOf.mono _ _ _
      | exact spec_DrawEndOfRun.mono _ _
      | exact spec_DrawPartnerOf.mono _ _
      | exact spec_EndOfRun.mono _ _ _
      | exact spec_PartnerOf.mono _ _
      | exact spec_ProperRun.mono _ _ _
      | exact LeO.none _
      | refine LeO.ite ?_ ?_
      | refine LeO.bind ?_ (fun _ => ?_)
    · intro y0 y1 y2 y3
      unfold laws_FnProperRuns.j7
      repeat' first
      | (with_reducible exact ih0 _ _ _ _ _ _ _ _ _)
      | (with_reducible exact ih1 _ _ _ _)
      | (with_reducible exact ih2 _)
      | (with_reducible exact ih3 _ _ _ _)
      | (with_reducible exact ih4 _ _ _ _ _ _)
      | (with_reducible exact ih5 _ _ _ _)
      | (with_reducible exact ih6 _ _ _ _ _ _)
      | (with_reducible exact ih7 _ _ _ _ _ _)
      | (with_reducible exact impl_CircleOf.mono _ _ _)
      | (with_reducible exact impl_EndOfRun.mono _ _ _)
      | (with_reducible exact impl_PartnerOf.mono _ _)
      | (with_reducible exact impl_ProperRun.mono _ _ _)
      | (with_reducible exact impl_ProperSum.mono _ _)
      | (with_reducible exact laws_qSame.mono _ _ _)
      | (with_reducible exact spec_CircleOf.mono _ _ _)
      | (with_reducible exact spec_DrawEndOfRun.mono _ _)
      | (with_reducible exact spec_DrawPartnerOf.mono _ _)
      | (with_reducible exact spec_EndOfRun.mono _ _ _)
      | (with_reducible exact spec_PartnerOf.mono _ _)
      | (with_reducible exact spec_ProperRun.mono _ _ _)
      | (with_reducible exact LeO.refl _)
      | (with_reducible exact LeO.none _)
      | (with_reducible refine LeO.ite ?_ ?_)
      | (with_reducible refine LeO.bind ?_ (fun _ => ?_))
      | exact ih0 _ _ _ _ _ _ _ _ _
      | exact ih1 _ _ _ _
      | exact ih2 _
      | exact ih3 _ _ _ _
      | exact ih4 _ _ _ _ _ _
      | exact ih5 _ _ _ _
      | exact ih6 _ _ _ _ _ _
      | exact ih7 _ _ _ _ _ _
      | exact impl_CircleOf.mono _ _ _
      | exact impl_EndOfRun.mono _ _ _
      | exact impl_PartnerOf.mono _ _
      | exact impl_ProperRun.mono _ _ _
      | exact impl_ProperSum.mono _ _
      | exact laws_qSame.mono _ _ _
      | exact spec_CircleOf.mono _ _ _
      | exact spec_DrawEndOfRun.mono _ _
      | exact spec_DrawPartnerOf.mono _ _
      | exact spec_EndOfRun.mono _ _ _
      | exact spec_PartnerOf.mono _ _
      | exact spec_ProperRun.mono _ _ _
      | exact LeO.none _
      | refine LeO.ite ?_ ?_
      | refine LeO.bind ?_ (fun _ => ?_)
    · intro y0 y1 y2 y3 y4 y5
      unfold laws_FnProperRuns.l1
      repeat' first
      | (with_reducible exact ih0 _ _ _ _ _ _ _ _ _)
      | (with_reducible exact ih1 _ _ _ _)
      | (with_reducible exact ih2 _)
      | (with_reducible exact ih3 _ _ _ _)
      | (with_reducible exact ih4 _ _ _ _ _ _)
      | (with_reducible exact ih5 _ _ _ _)
      | (with_reducible exact ih6 _ _ _ _ _ _)
      | (with_reducible exact ih7 _ _ _ _ _ _)
      | (with_reducible exact impl_CircleOf.mono _ _ _)
      | (with_reducible exact impl_EndOfRun.mono _ _ _)
      | (with_reducible exact impl_PartnerOf.mono _ _)
      | (with_reducible exact impl_ProperRun.mono _ _ _)
      | (with_reducible exact impl_ProperSum.mono _ _)
      | (with_reducible exact laws_qSame.mono _ _ _)
      | (with_reducible exact spec_CircleOf.mono _ _ _)
      | (with_reducible exact spec_DrawEndOfRun.mono _ _)
      | (with_reducible exact spec_DrawPartnerOf.mono _ _)
      | (with_reducible exact spec_EndOfRun.mono _ _ _)
      | (with_reducible exact spec_PartnerOf.mono _ _)
      | (with_reducible exact spec_ProperRun.mono _ _ _)
      | (with_reducible exact LeO.refl _)
      | (with_reducible exact LeO.none _)
      | (with_reducible refine LeO.ite ?_ ?_)
      | (with_reducible refine LeO.bind ?_ (fun _ => ?_))
      | exact ih0 _ _ _ _ _ _ _ _ _
      | exact ih1 _ _ _ _
      | exact ih2 _
      | exact ih3 _ _ _ _
      | exact ih4 _ _ _ _ _ _
      | exact ih5 _ _ _ _
      | exact ih6 _ _ _ _ _ _
      | exact ih7 _ _ _ _ _ _
      | exact impl_CircleOf.mono _ _ _
      | exact impl_EndOfRun.mono _ _ _
      | exact impl_PartnerOf.mono _ _
      | exact impl_ProperRun.mono _ _ _
      | exact impl_ProperSum.mono _ _
      | exact laws_qSame.mono _ _ _
      | exact spec_CircleOf.mono _ _ _
      | exact spec_DrawEndOfRun.mono _ _
      | exact spec_DrawPartnerOf.mono _ _
      | exact spec_EndOfRun.mono _ _ _
      | exact spec_PartnerOf.mono _ _
      | exact spec_ProperRun.mono _ _ _
      | exact LeO.none _
      | refine LeO.ite ?_ ?_
      | refine LeO.bind ?_ (fun _ => ?_)
    · intro y0 y1 y2 y3
      unfold laws_FnProperRuns.j5
      repeat' first
      | (with_reducible exact ih0 _ _ _ _ _ _ _ _ _)
      | (with_reducible exact ih1 _ _ _ _)
      | (with_reducible exact ih2 _)
      | (with_reducible exact ih3 _ _ _ _)
      | (with_reducible exact ih4 _ _ _ _ _ _)
      | (with_reducible exact ih5 _ _ _ _)
      | (with_reducible exact ih6 _ _ _ _ _ _)
      | (with_reducible exact ih7 _ _ _ _ _ _)
      | (with_reducible exact impl_CircleOf.mono _ _ _)
      | (with_reducible exact impl_EndOfRun.mono _ _ _)
      | (with_reducible exact impl_PartnerOf.mono _ _)
      | (with_reducible exact impl_ProperRun.mono _ _ _)
      | (with_reducible exact impl_ProperSum.mono _ _)
      | (with_reducible exact laws_qSame.mono _ _ _)
      | (with_reducible exact spec_CircleOf.mono _ _ _)
      | (with_reducible exact spec_DrawEndOfRun.mono _ _)
      | (with_reducible exact spec_DrawPartnerOf.mono _ _)
      | (with_reducible exact spec_EndOfRun.mono _ _ _)
      | (with_reducible exact spec_PartnerOf.mono _ _)
      | (with_reducible exact spec_ProperRun.mono _ _ _)
      | (with_reducible exact LeO.refl _)
      | (with_reducible exact LeO.none _)
      | (with_reducible refine LeO.ite ?_ ?_)
      | (with_reducible refine LeO.bind ?_ (fun _ => ?_))
      | exact ih0 _ _ _ _ _ _ _ _ _
      | exact ih1 _ _ _ _
      | exact ih2 _
      | exact ih3 _ _ _ _
      | exact ih4 _ _ _ _ _ _
      | exact ih5 _ _ _ _
      | exact ih6 _ _ _ _ _ _
      | exact ih7 _ _ _ _ _ _
      | exact impl_CircleOf.mono _ _ _
      | exact impl_EndOfRun.mono _ _ _
      | exact impl_PartnerOf.mono _ _
      | exact impl_ProperRun.mono _ _ _
      | exact impl_ProperSum.mono _ _
      | exact laws_qSame.mono _ _ _
      | exact spec_CircleOf.mono _ _ _
      | exact spec_DrawEndOfRun.mono _ _
      | exact spec_DrawPartnerOf.mono _ _
      | exact spec_EndOfRun.mono _ _ _
      | exact spec_PartnerOf.mono _ _
      | exact spec_ProperRun.mono _ _ _
      | exact LeO.none _
      | refine LeO.ite ?_ ?_
      | refine LeO.bind ?_ (fun _ => ?_)
    · intro y0 y1 y2 y3 y4 y5
      unfold laws_FnProperRuns.j1
      repeat' first
      | (with_reducible exact ih0 _ _ _ _ _ _ _ _ _)
      | (with_reducible exact ih1 _ _ _ _)
      | (with_reducible exact ih2 _)
      | (with_reducible exact ih3 _ _ _ _)
      | (with_reducible exact ih4 _ _ _ _ _ _)
      | (with_reducible exact ih5 _ _ _ _)
      | (with_reducible exact ih6 _ _ _ _ _ _)
      | (with_reducible exact ih7 _ _ _ _ _ _)
      | (with_reducible exact impl_CircleOf.mono _ _ _)
      | (with_reducible exact impl_EndOfRun.mono _ _ _)
      | (with_reducible exact impl_PartnerOf.mono _ _)
      | (with_reducible exact impl_ProperRun.mono _ _ _)
      | (with_reducible exact impl_ProperSum.mono _ _)
      | (with_reducible exact laws_qSame.mono _ _ _)
      | (with_reducible exact spec_CircleOf.mono _ _ _)
      | (with_reducible exact spec_DrawEndOfRun.mono _ _)
      | (with_reducible exact spec_DrawPartnerOf.mono _ _)
      | (with_reducible exact spec_EndOfRun.mono _ _ _)
      | (with_reducible exact spec_PartnerOf.mono _ _)
      | (with_reducible exact spec_ProperRun.mono _ _ _)
      | (with_reducible exact LeO.refl _)
      | (with_reducible exact LeO.none _)
      | (with_reducible refine LeO.ite ?_ ?_)
      | (with_reducible refine LeO.bind ?_ (fun _ => ?_))
      | exact ih0 _ _ _ _ _ _ _ _ _
      | exact ih1 _ _ _ _
      | exact ih2 _
      | exact ih3 _ _ _ _
      | exact ih4 _ _ _ _ _ _
      | exact ih5 _ _ _ _
      | exact ih6 _ _ _ _ _ _
      | exact ih7 _ _ _ _ _ _
      | exact impl_CircleOf.mono _ _ _
      | exact impl_EndOfRun.mono _ _ _
      | exact impl_PartnerOf.mono _ _
      | exact impl_ProperRun.mono _ _ _
      | exact impl_ProperSum.mono _ _
      | exact laws_qSame.mono _ _ _
      | exact spec_CircleOf.mono _ _ _
      | exact spec_DrawEndOfRun.mono _ _
      | exact spec_DrawPartnerOf.mono _ _
      | exact spec_EndOfRun.mono _ _ _
      | exact spec_PartnerOf.mono _ _
      | exact spec_ProperRun.mono _ _ _
      | exact LeO.none _
      | refine LeO.ite ?_ ?_
      | refine LeO.bind ?_ (fun _ => ?_)
    · intro y0 y1 y2 y3 y4 y5
      unfold laws_FnProperRuns.l0
      repeat' first
      | (with_reducible exact ih0 _ _ _ _ _ _ _ _ _)
      | (with_reducible exact ih1 _ _ _ _)
      | (with_reducible exact ih2 _)
      | (with_reducible exact ih3 _ _ _ _)
      | (with_reducible exact ih4 _ _ _ _ _ _)
      | (with_reducible exact ih5 _ _ _ _)
      | (with_reducible exact ih6 _ _ _ _ _ _)
      | (with_reducible exact ih7 _ _ _ _ _ _)
      | (with_reducible exact impl_CircleOf.mono _ _ _)
      | (with_reducible exact impl_EndOfRun.mono _ _ _)
      | (with_reducible exact impl_PartnerOf.mono _ _)
      | (with_reducible exact impl_ProperRun.mono _ _ _)
      | (with_reducible exact impl_ProperSum.mono _ _)
      | (with_reducible exact laws_qSame.mono _ _ _)
      | (with_reducible exact spec_CircleOf.mono _ _ _)
      | (with_reducible exact spec_DrawEndOfRun.mono _ _)
      | (with_reducible exact spec_DrawPartnerOf.mono _ _)
      | (with_reducible exact spec_EndOfRun.mono _ _ _)
      | (with_reducible exact spec_PartnerOf.mono _ _)
      | (with_reducible exact spec_ProperRun.mono _ _ _)
      | (with_reducible exact LeO.refl _)
      | (with_reducible exact LeO.none _)
      | (with_reducible refine LeO.ite ?_ ?_)
      | (with_reducible refine LeO.bind ?_ (fun _ => ?_))
      | exact ih0 _ _ _ _ _ _ _ _ _
      | exact ih1 _ _ _ _
      | exact ih2 _
      | exact ih3 _ _ _ _
      | exact ih4 _ _ _ _ _ _
      | exact ih5 _ _ _ _
      | exact ih6 _ _ _ _ _ _
      | exact ih7 _ _ _ _ _ _
      | exact impl_CircleOf.mono _ _ _
      | exact impl_EndOfRun.mono _ _ _
      | exact impl_PartnerOf.mono _ _
      | exact impl_ProperRun.mono _ _ _
      | exact impl_ProperSum.mono _ _
      | exact laws_qSame.mono _ _ _
      | exact spec_CircleOf.mono _ _ _
      | exact spec_DrawEndOfRun.mono _ _
      | exact spec_DrawPartnerOf.mono _ _
      | exact spec_EndOfRun.mono _ _ _
      | exact spec_PartnerOf.mono _ _
      | exact spec_ProperRun.mono _ _ _
      | exact LeO.none _
      | refine LeO.ite ?_ ?_
      | refine LeO.bind ?_ (fun _ => ?_)
theorem laws_FnProperRuns.mono : ∀ a0 a1 k, LeO (laws_FnProperRuns.f k a0 a1) (laws_FnProperRuns.f (k + 1) a0 a1) := by
  intro a0 a1 k
  obtain ⟨ih0, ih1, ih2, ih3, ih4, ih5, ih6, ih7⟩ := laws_FnProperRuns.mono_l k
  unfold laws_FnProperRuns.f
  repeat' first
      | (with_reducible exact ih0 _ _ _ _ _ _ _ _ _)
      | (with_reducible exact ih1 _ _ _ _)
      | (with_reducible exact ih2 _)
      | (with_reducible exact ih3 _ _ _ _)
      | (with_reducible exact ih4 _ _ _ _ _ _)
      | (with_reducible exact ih5 _ _ _ _)
      | (with_reducible exact ih6 _ _ _ _ _ _)
      | (with_reducible exact ih7 _ _ _ _ _ _)
      | (with_reducible exact impl_CircleOf.mono _ _ _)
      | (with_reducible exact impl_EndOfRun.mono _ _ _)
      | (with_reducible exact impl_PartnerOf.mono _ _)
      | (with_reducible exact impl_ProperRun.mono _ _ _)
      | (with_reducible exact impl_ProperSum.mono _ _)
      | (with_reducible exact laws_qSame.mono _ _ _)
      | (with_reducible exact spec_CircleOf.mono _ _ _)
      | (with_reducible exact spec_DrawEndOfRun.mono _ _)
      | (with_reducible exact spec_DrawPartnerOf.mono _ _)
      | (with_reducible exact spec_EndOfRun.mono _ _ _)
      | (with_reducible exact spec_PartnerOf.mono _ _)
      | (with_reducible exact spec_ProperRun.mono _ _ _)
      | (with_reducible exact LeO.refl _)
      | (with_reducible exact LeO.none _)
      | (with_reducible refine LeO.ite ?_ ?_)
      | (with_reducible refine LeO.bind ?_ (fun _ => ?_))
      | exact ih0 _ _ _ _ _ _ _ _ _
      | exact ih1 _ _ _ _
      | exact ih2 _
      | exact ih3 _ _ _ _
      | exact ih4 _ _ _ _ _ _
      | exact ih5 _ _ _ _
      | exact ih6 _ _ _ _ _ _
      | exact ih7 _ _ _ _ _ _
      | exact impl_CircleOf.mono _ _ _
      | exact impl_EndOfRun.mono _ _ _
      | exact impl_PartnerOf.mono _ _
      | exact impl_ProperRun.mono _ _ _
      | exact impl_ProperSum.mono _ _
      | exact laws_qSame.mono _ _ _
      | exact spec_CircleOf.mono _ _ _
      | exact spec_DrawEndOfRun.mono _ _
      | exact spec_DrawPartnerOf.mono _ _
      | exact spec_EndOfRun.mono _ _ _
      | exact spec_PartnerOf.mono _ _
      | exact spec_ProperRun.mono _ _ _
      | exact LeO.none _
      | refine LeO.ite ?_ ?_
      | refine LeO.bind ?_ (fun _ => ?_)
theorem laws_FnProperRuns.j0_no {r : Bool} (hr : r = true) (k : Nat) (x1 : List Int) (x5 : Int) (x6 : Int) (x7 : Int) (x8 : Bool) (x11 : List Int) (x15 : List Int) (x16 : Bool) (h : laws_FnProperRuns.j0 k x1 x5 x6 x7 x8 x11 x15 x16 true = some r) : False := by
  subst hr
  cases k with
  | zero => simp [laws_FnProperRuns.j0] at h
  | succ k => simp [laws_FnProperRuns.j0] at h
theorem laws_FnProperRuns.j7_no {r : Bool} (hr : r = true) (k : Nat) (x30 : Int) (x31 : Int) (x32 : Bool) (h : laws_FnProperRuns.j7 k x30 x31 x32 true = some r) : False := by
  subst hr
  cases k with
  | zero => simp [laws_FnProperRuns.j7] at h
  | succ k => simp [laws_FnProperRuns.j7] at h
theorem laws_FnProperRuns.j5_no {r : Bool} (hr : r = true) (k : Nat) (x1 : List Int) (x7 : Int) (x15 : List Int) (h : laws_FnProperRuns.j5 k x1 x7 x15 true = some r) : False := by
  subst hr
  cases k with
  | zero => simp [laws_FnProperRuns.j5] at h
  | succ k => simp [laws_FnProperRuns.j5] at h
theorem laws_FnProperRuns.j1_no {r : Bool} (hr : r = true) (k : Nat) (x1 : List Int) (x7 : Int) (x11 : List Int) (x15 : List Int) (x16 : Bool) (h : laws_FnProperRuns.j1 k x1 x7 x11 x15 x16 true = some r) : False := by
  subst hr
  cases k with
  | zero => simp [laws_FnProperRuns.j1] at h
  | succ k => simp [laws_FnProperRuns.j1] at h
set_option maxHeartbeats 8000000 in
set_option maxRecDepth 100000 in
theorem laws_FnProperRuns.calls (k : Nat) (A0 : Option Addr) (c0 : Nat) (l0 : List Int) (A1 : Option Addr) (c1 : Nat) (l1 : List Int) (r : Bool) (w : World) (hr0 : Kd.C (Kd.int .u8) w A0 l0.length l0) (hc0 : l0.length ≤ c0) (hr1 : Kd.C (Kd.int .u8) w A1 l1.length l1) (hc1 : l1.length ≤ c1) (h : laws_FnProperRuns.f k l0 l1 = some r) (hr_ : r = true) :
    Calls Try.prog 5 #[.slice A0 l0.length c0, .slice A1 l1.length c1] w fun e w' => e = .returned (.bool r) ∧ Below w.heap.size w w' := by
  have HR0 := Aside0.mk hr0
  have HC0 := Aside0.mk hc0
  clear hr0 hc0
  have HR1 := Aside0.mk hr1
  have HC1 := Aside0.mk hc1
  clear hr1 hc1
  have HB := Aside0.mk (Below.refl w.heap.size w)
  have H : ((laws_big.f l0 l1).bind fun t335 => (if t335 = true then (some true) else ((spec_DrawEndOfRun.f k l0).bind fun bt336 => ((impl_EndOfRun.f k bt336.1 bt336.2).bind fun bt338 => ((spec_EndOfRun.f k bt336.1 bt336.2).bind fun bt340 => ((impl_ProperRun.f k bt336.1 bt336.2).bind fun bt342 => ((spec_ProperRun.f k bt336.1 bt336.2).bind fun bt346 => ((impl_CircleOf.f k bt336.1 bt336.2).bind fun bt350 => ((spec_CircleOf.f k bt336.1 bt336.2).bind fun bt354 => (if (bt338.2 != bt340.2) = true then (laws_FnProperRuns.j0 k l1 bt336.1 bt336.2 bt338.1 bt338.2 bt342.1 bt350.1 bt350.2 true) else (if bt338.1 = bt340.1 then (if (bt342.2 != bt346.2) = true then (laws_FnProperRuns.j0 k l1 bt336.1 bt336.2 bt338.1 bt338.2 bt342.1 bt350.1 bt350.2 true) else ((laws_qSame.f k bt342.1 bt346.1).bind fun t358 => (if t358 = true then (if (bt350.2 != bt354.2) = true then (laws_FnProperRuns.j0 k l1 bt336.1 bt336.2 bt338.1 bt338.2 bt342.1 bt350.1 bt350.2 true) else ((laws_qSame.f k bt350.1 bt354.1).bind fun t359 => (if t359 = true then (if (bt342.2 != bt338.2) = true then (laws_FnProperRuns.j0 k l1 bt336.1 bt336.2 bt338.1 bt338.2 bt342.1 bt350.1 bt350.2 true) else (if bt338.2 = true then (if bt338.1 ≥ 1 then (laws_FnProperRuns.j0 k l1 bt336.1 bt336.2 bt338.1 bt338.2 bt342.1 bt350.1 bt350.2 (bt350.2 != (decide (bt338.1 ≤ 3)))) else (laws_FnProperRuns.j0 k l1 bt336.1 bt336.2 bt338.1 bt338.2 bt342.1 bt350.1 bt350.2 (bt350.2 != false))) else (laws_FnProperRuns.j0 k l1 bt336.1 bt336.2 bt338.1 bt338.2 bt342.1 bt350.1 bt350.2 (bt350.2 != false)))) else (laws_FnProperRuns.j0 k l1 bt336.1 bt336.2 bt338.1 bt338.2 bt342.1 bt350.1 bt350.2 true)))) else (laws_FnProperRuns.j0 k l1 bt336.1 bt336.2 bt338.1 bt338.2 bt342.1 bt350.1 bt350.2 true)))) else (laws_FnProperRuns.j0 k l1 bt336.1 bt336.2 bt338.1 bt338.2 bt342.1 bt350.1 bt350.2 true)))))))))))) = some r := h
  clear h
  have HR_ := Aside0.mk hr_
  clear hr_
  replace H := Option.bind_eq_some_iff.mp H
  obtain ⟨t335, A30, H⟩ := H
  replace H : (if t335 = true then (some true) else ((spec_DrawEndOfRun.f k l0).bind fun bt336 => ((impl_EndOfRun.f k bt336.1 bt336.2).bind fun bt338 => ((spec_EndOfRun.f k bt336.1 bt336.2).bind fun bt340 => ((impl_ProperRun.f k bt336.1 bt336.2).bind fun bt342 => ((spec_ProperRun.f k bt336.1 bt336.2).bind fun bt346 => ((impl_CircleOf.f k bt336.1 bt336.2).bind fun bt350 => ((spec_CircleOf.f k bt336.1 bt336.2).bind fun bt354 => (if (bt338.2 != bt340.2) = true then (laws_FnProperRuns.j0 k l1 bt336.1 bt336.2 bt338.1 bt338.2 bt342.1 bt350.1 bt350.2 true) else (if bt338.1 = bt340.1 then (if (bt342.2 != bt346.2) = true then (laws_FnProperRuns.j0 k l1 bt336.1 bt336.2 bt338.1 bt338.2 bt342.1 bt350.1 bt350.2 true) else ((laws_qSame.f k bt342.1 bt346.1).bind fun t358 => (if t358 = true then (if (bt350.2 != bt354.2) = true then (laws_FnProperRuns.j0 k l1 bt336.1 bt336.2 bt338.1 bt338.2 bt342.1 bt350.1 bt350.2 true) else ((laws_qSame.f k bt350.1 bt354.1).bind fun t359 => (if t359 = true then (if (bt342.2 != bt338.2) = true then (laws_FnProperRuns.j0 k l1 bt336.1 bt336.2 bt338.1 bt338.2 bt342.1 bt350.1 bt350.2 true) else (if bt338.2 = true then (if bt338.1 ≥ 1 then (laws_FnProperRuns.j0 k l1 bt336.1 bt336.2 bt338.1 bt338.2 bt342.1 bt350.1 bt350.2 (bt350.2 != (decide (bt338.1 ≤ 3)))) else (laws_FnProperRuns.j0 k l1 bt336.1 bt336.2 bt338.1 bt338.2 bt342.1 bt350.1 bt350.2 (bt350.2 != false))) else (laws_FnProperRuns.j0 k l1 bt336.1 bt336.2 bt338.1 bt338.2 bt342.1 bt350.1 bt350.2 (bt350.2 != false)))) else (laws_FnProperRuns.j0 k l1 bt336.1 bt336.2 bt338.1 bt338.2 bt342.1 bt350.1 bt350.2 true)))) else (laws_FnProperRuns.j0 k l1 bt336.1 bt336.2 bt338.1 bt338.2 bt342.1 bt350.1 bt350.2 true)))) else (laws_FnProperRuns.j0 k l1 bt336.1 bt336.2 bt338.1 bt338.2 bt342.1 bt350.1 bt350.2 true))))))))))) = some r := H
  have A3 := Aside0.mk A30
  clear A30
  by_cases c4 : t335 = true
  · subst c4
    have H1 : (some true) = some r := by rw [if_pos rfl] at H; exact H
    clear H
    have H := H1
    clear H1
    as_aux_lemma =>
      obtain rfl := Option.some.inj H
      go_enter Try.func5, Try.ntmps5
      go_wp2_with (first | ((with_reducible refine gate_callee (f := 15) rfl ?_); refine goesL_ (some 39) rfl rfl Try.func15 (by kernel_rfl) rfl #[.slice A0 l0.length c0, .slice A1 l1.length c1] rfl (by (try simp only [List.map_toArray, List.map_cons, List.map_nil]); first | done | rfl | (simp only [List.length_drop, List.length_take]; rfl)) ?_; (with_reducible refine (laws_big.calls _ _ l0 _ _ l1 true _ ?side1 ?side2 ?side3 ?side4 A3.out).mono ?_); (case side1 => repeat (first | exact HR0.out | (with_reducible refine Kd.C_alloc ?_ _) | (with_reducible refine Kd.C_drewN ?_ _) | (with_reducible refine Kd.C_drew ?_))); (case side2 => exact HC0.out); (case side3 => repeat (first | exact HR1.out | (with_reducible refine Kd.C_alloc ?_ _) | (with_reducible refine Kd.C_drewN ?_ _) | (with_reducible refine Kd.C_drew ?_))); (case side4 => exact HC1.out); rintro e w' ⟨rfl, ⟨nd, rfl⟩⟩; refine ⟨_, rfl, ?_⟩))
      go_ret
      exact ⟨by first | rfl | (simp [errW_none, errW_some] <;> rfl) | (simp [*, errW_none, errW_some] <;> rfl), by repeat (first | (with_reducible first | exact HB.out | apply below_alloc | apply pw_below_drewN | apply below_drew1) | exact HB.out)⟩
  · replace c4 := Bool.eq_false_iff.mpr c4
    subst c4
    have H1 : ((spec_DrawEndOfRun.f k l0).bind fun bt336 => ((impl_EndOfRun.f k bt336.1 bt336.2).bind fun bt338 => ((spec_EndOfRun.f k bt336.1 bt336.2).bind fun bt340 => ((impl_ProperRun.f k bt336.1 bt336.2).bind fun bt342 => ((spec_ProperRun.f k bt336.1 bt336.2).bind fun bt346 => ((impl_CircleOf.f k bt336.1 bt336.2).bind fun bt350 => ((spec_CircleOf.f k bt336.1 bt336.2).bind fun bt354 => (if (bt338.2 != bt340.2) = true then (laws_FnProperRuns.j0 k l1 bt336.1 bt336.2 bt338.1 bt338.2 bt342.1 bt350.1 bt350.2 true) else (if bt338.1 = bt340.1 then (if (bt342.2 != bt346.2) = true then (laws_FnProperRuns.j0 k l1 bt336.1 bt336.2 bt338.1 bt338.2 bt342.1 bt350.1 bt350.2 true) else ((laws_qSame.f k bt342.1 bt346.1).bind fun t358 => (if t358 = true then (if (bt350.2 != bt354.2) = true then (laws_FnProperRuns.j0 k l1 bt336.1 bt336.2 bt338.1 bt338.2 bt342.1 bt350.1 bt350.2 true) else ((laws_qSame.f k bt350.1 bt354.1).bind fun t359 => (if t359 = true then (if (bt342.2 != bt338.2) = true then (laws_FnProperRuns.j0 k l1 bt336.1 bt336.2 bt338.1 bt338.2 bt342.1 bt350.1 bt350.2 true) else (if bt338.2 = true then (if bt338.1 ≥ 1 then (laws_FnProperRuns.j0 k l1 bt336.1 bt336.2 bt338.1 bt338.2 bt342.1 bt350.1 bt350.2 (bt350.2 != (decide (bt338.1 ≤ 3)))) else (laws_FnProperRuns.j0 k l1 bt336.1 bt336.2 bt338.1 bt338.2 bt342.1 bt350.1 bt350.2 (bt350.2 != false))) else (laws_FnProperRuns.j0 k l1 bt336.1 bt336.2 bt338.1 bt338.2 bt342.1 bt350.1 bt350.2 (bt350.2 != false)))) else (laws_FnProperRuns.j0 k l1 bt336.1 bt336.2 bt338.1 bt338.2 bt342.1 bt350.1 bt350.2 true)))) else (laws_FnProperRuns.j0 k l1 bt336.1 bt336.2 bt338.1 bt338.2 bt342.1 bt350.1 bt350.2 true)))) else (laws_FnProperRuns.j0 k l1 bt336.1 bt336.2 bt338.1 bt338.2 bt342.1 bt350.1 bt350.2 true)))))))))) = some r := by rw [if_neg (show ¬ (false = true) by decide)] at H; exact H
    clear H
    have H := H1
    clear H1
    replace H := Option.bind_eq_some_iff.mp H
    obtain ⟨⟨t336, t337⟩, A50, H⟩ := H
    replace H : ((impl_EndOfRun.f k t336 t337).bind fun bt338 => ((spec_EndOfRun.f k t336 t337).bind fun bt340 => ((impl_ProperRun.f k t336 t337).bind fun bt342 => ((spec_ProperRun.f k t336 t337).bind fun bt346 => ((impl_CircleOf.f k t336 t337).bind fun bt350 => ((spec_CircleOf.f k t336 t337).bind fun bt354 => (if (bt338.2 != bt340.2) = true then (laws_FnProperRuns.j0 k l1 t336 t337 bt338.1 bt338.2 bt342.1 bt350.1 bt350.2 true) else (if bt338.1 = bt340.1 then (if (bt342.2 != bt346.2) = true then (laws_FnProperRuns.j0 k l1 t336 t337 bt338.1 bt338.2 bt342.1 bt350.1 bt350.2 true) else ((laws_qSame.f k bt342.1 bt346.1).bind fun t358 => (if t358 = true then (if (bt350.2 != bt354.2) = true then (laws_FnProperRuns.j0 k l1 t336 t337 bt338.1 bt338.2 bt342.1 bt350.1 bt350.2 true) else ((laws_qSame.f k bt350.1 bt354.1).bind fun t359 => (if t359 = true then (if (bt342.2 != bt338.2) = true then (laws_FnProperRuns.j0 k l1 t336 t337 bt338.1 bt338.2 bt342.1 bt350.1 bt350.2 true) else (if bt338.2 = true then (if bt338.1 ≥ 1 then (laws_FnProperRuns.j0 k l1 t336 t337 bt338.1 bt338.2 bt342.1 bt350.1 bt350.2 (bt350.2 != (decide (bt338.1 ≤ 3)))) else (laws_FnProperRuns.j0 k l1 t336 t337 bt338.1 bt338.2 bt342.1 bt350.1 bt350.2 (bt350.2 != false))) else (laws_FnProperRuns.j0 k l1 t336 t337 bt338.1 bt338.2 bt342.1 bt350.1 bt350.2 (bt350.2 != false)))) else (laws_FnProperRuns.j0 k l1 t336 t337 bt338.1 bt338.2 bt342.1 bt350.1 bt350.2 true)))) else (laws_FnProperRuns.j0 k l1 t336 t337 bt338.1 bt338.2 bt342.1 bt350.1 bt350.2 true)))) else (laws_FnProperRuns.j0 k l1 t336 t337 bt338.1 bt338.2 bt342.1 bt350.1 bt350.2 true))))))))) = some r := H
    have A5 := Aside0.mk A50
    clear A50
    replace H := Option.bind_eq_some_iff.mp H
    obtain ⟨⟨t338, t339⟩, A60, H⟩ := H
    replace H : ((spec_EndOfRun.f k t336 t337).bind fun bt340 => ((impl_ProperRun.f k t336 t337).bind fun bt342 => ((spec_ProperRun.f k t336 t337).bind fun bt346 => ((impl_CircleOf.f k t336 t337).bind fun bt350 => ((spec_CircleOf.f k t336 t337).bind fun bt354 => (if (t339 != bt340.2) = true then (laws_FnProperRuns.j0 k l1 t336 t337 t338 t339 bt342.1 bt350.1 bt350.2 true) else (if t338 = bt340.1 then (if (bt342.2 != bt346.2) = true then (laws_FnProperRuns.j0 k l1 t336 t337 t338 t339 bt342.1 bt350.1 bt350.2 true) else ((laws_qSame.f k bt342.1 bt346.1).bind fun t358 => (if t358 = true then (if (bt350.2 != bt354.2) = true then (laws_FnProperRuns.j0 k l1 t336 t337 t338 t339 bt342.1 bt350.1 bt350.2 true) else ((laws_qSame.f k bt350.1 bt354.1).bind fun t359 => (if t359 = true then (if (bt342.2 != t339) = true then (laws_FnProperRuns.j0 k l1 t336 t337 t338 t339 bt342.1 bt350.1 bt350.2 true) else (if t339 = true then (if t338 ≥ 1 then (laws_FnProperRuns.j0 k l1 t336 t337 t338 t339 bt342.1 bt350.1 bt350.2 (bt350.2 != (decide (t338 ≤ 3)))) else (laws_FnProperRuns.j0 k l1 t336 t337 t338 t339 bt342.1 bt350.1 bt350.2 (bt350.2 != false))) else (laws_FnProperRuns.j0 k l1 t336 t337 t338 t339 bt342.1 bt350.1 bt350.2 (bt350.2 != false)))) else (laws_FnProperRuns.j0 k l1 t336 t337 t338 t339 bt342.1 bt350.1 bt350.2 true)))) else (laws_FnProperRuns.j0 k l1 t336 t337 t338 t339 bt342.1 bt350.1 bt350.2 true)))) else (laws_FnProperRuns.j0 k l1 t336 t337 t338 t339 bt342.1 bt350.1 bt350.2 true)))))))) = some r := H
    have A6 := Aside0.mk A60
    clear A60
    replace H := Option.bind_eq_some_iff.mp H
    obtain ⟨⟨t340, t341⟩, A70, H⟩ := H
    replace H : ((impl_ProperRun.f k t336 t337).bind fun bt342 => ((spec_ProperRun.f k t336 t337).bind fun bt346 => ((impl_CircleOf.f k t336 t337).bind fun bt350 => ((spec_CircleOf.f k t336 t337).bind fun bt354 => (if (t339 != t341) = true then (laws_FnProperRuns.j0 k l1 t336 t337 t338 t339 bt342.1 bt350.1 bt350.2 true) else (if t338 = t340 then (if (bt342.2 != bt346.2) = true then (laws_FnProperRuns.j0 k l1 t336 t337 t338 t339 bt342.1 bt350.1 bt350.2 true) else ((laws_qSame.f k bt342.1 bt346.1).bind fun t358 => (if t358 = true then (if (bt350.2 != bt354.2) = true then (laws_FnProperRuns.j0 k l1 t336 t337 t338 t339 bt342.1 bt350.1 bt350.2 true) else ((laws_qSame.f k bt350.1 bt354.1).bind fun t359 => (if t359 = true then (if (bt342.2 != t339) = true then (laws_FnProperRuns.j0 k l1 t336 t337 t338 t339 bt342.1 bt350.1 bt350.2 true) else (if t339 = true then (if t338 ≥ 1 then (laws_FnProperRuns.j0 k l1 t336 t337 t338 t339 bt342.1 bt350.1 bt350.2 (bt350.2 != (decide (t338 ≤ 3)))) else (laws_FnProperRuns.j0 k l1 t336 t337 t338 t339 bt342.1 bt350.1 bt350.2 (bt350.2 != false))) else (laws_FnProperRuns.j0 k l1 t336 t337 t338 t339 bt342.1 bt350.1 bt350.2 (bt350.2 != false)))) else (laws_FnProperRuns.j0 k l1 t336 t337 t338 t339 bt342.1 bt350.1 bt350.2 true)))) else (laws_FnProperRuns.j0 k l1 t336 t337 t338 t339 bt342.1 bt350.1 bt350.2 true)))) else (laws_FnProperRuns.j0 k l1 t336 t337 t338 t339 bt342.1 bt350.1 bt350.2 true))))))) = some r := H
    have A7 := Aside0.mk A70
    clear A70
    replace H := Option.bind_eq_some_iff.mp H
    obtain ⟨⟨t342, t343⟩, A80, H⟩ := H
    replace H : ((spec_ProperRun.f k t336 t337).bind fun bt346 => ((impl_CircleOf.f k t336 t337).bind fun bt350 => ((spec_CircleOf.f k t336 t337).bind fun bt354 => (if (t339 != t341) = true then (laws_FnProperRuns.j0 k l1 t336 t337 t338 t339 t342 bt350.1 bt350.2 true) else (if t338 = t340 then (if (t343 != bt346.2) = true then (laws_FnProperRuns.j0 k l1 t336 t337 t338 t339 t342 bt350.1 bt350.2 true) else ((laws_qSame.f k t342 bt346.1).bind fun t358 => (if t358 = true then (if (bt350.2 != bt354.2) = true then (laws_FnProperRuns.j0 k l1 t336 t337 t338 t339 t342 bt350.1 bt350.2 true) else ((laws_qSame.f k bt350.1 bt354.1).bind fun t359 => (if t359 = true then (if (t343 != t339) = true then (laws_FnProperRuns.j0 k l1 t336 t337 t338 t339 t342 bt350.1 bt350.2 true) else (if t339 = true then (if t338 ≥ 1 then (laws_FnProperRuns.j0 k l1 t336 t337 t338 t339 t342 bt350.1 bt350.2 (bt350.2 != (decide (t338 ≤ 3)))) else (laws_FnProperRuns.j0 k l1 t336 t337 t338 t339 t342 bt350.1 bt350.2 (bt350.2 != false))) else (laws_FnProperRuns.j0 k l1 t336 t337 t338 t339 t342 bt350.1 bt350.2 (bt350.2 != false)))) else (laws_FnProperRuns.j0 k l1 t336 t337 t338 t339 t342 bt350.1 bt350.2 true)))) else (laws_FnProperRuns.j0 k l1 t336 t337 t338 t339 t342 bt350.1 bt350.2 true)))) else (laws_FnProperRuns.j0 k l1 t336 t337 t338 t339 t342 bt350.1 bt350.2 true)))))) = some r := H
    have A8 := Aside0.mk A80
    clear A80
    replace H := Option.bind_eq_some_iff.mp H
    obtain ⟨⟨t346, t347⟩, A90, H⟩ := H
    replace H : ((impl_CircleOf.f k t336 t337).bind fun bt350 => ((spec_CircleOf.f k t336 t337).bind fun bt354 => (if (t339 != t341) = true then (laws_FnProperRuns.j0 k l1 t336 t337 t338 t339 t342 bt350.1 bt350.2 true) else (if t338 = t340 then (if (t343 != t347) = true then (laws_FnProperRuns.j0 k l1 t336 t337 t338 t339 t342 bt350.1 bt350.2 true) else ((laws_qSame.f k t342 t346).bind fun t358 => (if t358 = true then (if (bt350.2 != bt354.2) = true then (laws_FnProperRuns.j0 k l1 t336 t337 t338 t339 t342 bt350.1 bt350.2 true) else ((laws_qSame.f k bt350.1 bt354.1).bind fun t359 => (if t359 = true then (if (t343 != t339) = true then (laws_FnProperRuns.j0 k l1 t336 t337 t338 t339 t342 bt350.1 bt350.2 true) else (if t339 = true then (if t338 ≥ 1 then (laws_FnProperRuns.j0 k l1 t336 t337 t338 t339 t342 bt350.1 bt350.2 (bt350.2 != (decide (t338 ≤ 3)))) else (laws_FnProperRuns.j0 k l1 t336 t337 t338 t339 t342 bt350.1 bt350.2 (bt350.2 != false))) else (laws_FnProperRuns.j0 k l1 t336 t337 t338 t339 t342 bt350.1 bt350.2 (bt350.2 != false)))) else (laws_FnProperRuns.j0 k l1 t336 t337 t338 t339 t342 bt350.1 bt350.2 true)))) else (laws_FnProperRuns.j0 k l1 t336 t337 t338 t339 t342 bt350.1 bt350.2 true)))) else (laws_FnProperRuns.j0 k l1 t336 t337 t338 t339 t342 bt350.1 bt350.2 true))))) = some r := H
    have A9 := Aside0.mk A90
    clear A90
    replace H := Option.bind_eq_some_iff.mp H
    obtain ⟨⟨t350, t351⟩, A100, H⟩ := H
    replace H : ((spec_CircleOf.f k t336 t337).bind fun bt354 => (if (t339 != t341) = true then (laws_FnProperRuns.j0 k l1 t336 t337 t338 t339 t342 t350 t351 true) else (if t338 = t340 then (if (t343 != t347) = true then (laws_FnProperRuns.j0 k l1 t336 t337 t338 t339 t342 t350 t351 true) else ((laws_qSame.f k t342 t346).bind fun t358 => (if t358 = true then (if (t351 != bt354.2) = true then (laws_FnProperRuns.j0 k l1 t336 t337 t338 t339 t342 t350 t351 true) else ((laws_qSame.f k t350 bt354.1).bind fun t359 => (if t359 = true then (if (t343 != t339) = true then (laws_FnProperRuns.j0 k l1 t336 t337 t338 t339 t342 t350 t351 true) else (if t339 = true then (if t338 ≥ 1 then (laws_FnProperRuns.j0 k l1 t336 t337 t338 t339 t342 t350 t351 (t351 != (decide (t338 ≤ 3)))) else (laws_FnProperRuns.j0 k l1 t336 t337 t338 t339 t342 t350 t351 (t351 != false))) else (laws_FnProperRuns.j0 k l1 t336 t337 t338 t339 t342 t350 t351 (t351 != false)))) else (laws_FnProperRuns.j0 k l1 t336 t337 t338 t339 t342 t350 t351 true)))) else (laws_FnProperRuns.j0 k l1 t336 t337 t338 t339 t342 t350 t351 true)))) else (laws_FnProperRuns.j0 k l1 t336 t337 t338 t339 t342 t350 t351 true)))) = some r := H
    have A10 := Aside0.mk A100
    clear A100
    replace H := Option.bind_eq_some_iff.mp H
    obtain ⟨⟨t354, t355⟩, A110, H⟩ := H
    replace H : (if (t339 != t341) = true then (laws_FnProperRuns.j0 k l1 t336 t337 t338 t339 t342 t350 t351 true) else (if t338 = t340 then (if (t343 != t347) = true then (laws_FnProperRuns.j0 k l1 t336 t337 t338 t339 t342 t350 t351 true) else ((laws_qSame.f k t342 t346).bind fun t358 => (if t358 = true then (if (t351 != t355) = true then (laws_FnProperRuns.j0 k l1 t336 t337 t338 t339 t342 t350 t351 true) else ((laws_qSame.f k t350 t354).bind fun t359 => (if t359 = true then (if (t343 != t339) = true then (laws_FnProperRuns.j0 k l1 t336 t337 t338 t339 t342 t350 t351 true) else (if t339 = true then (if t338 ≥ 1 then (laws_FnProperRuns.j0 k l1 t336 t337 t338 t339 t342 t350 t351 (t351 != (decide (t338 ≤ 3)))) else (laws_FnProperRuns.j0 k l1 t336 t337 t338 t339 t342 t350 t351 (t351 != false))) else (laws_FnProperRuns.j0 k l1 t336 t337 t338 t339 t342 t350 t351 (t351 != false)))) else (laws_FnProperRuns.j0 k l1 t336 t337 t338 t339 t342 t350 t351 true)))) else (laws_FnProperRuns.j0 k l1 t336 t337 t338 t339 t342 t350 t351 true)))) else (laws_FnProperRuns.j0 k l1 t336 t337 t338 t339 t342 t350 t351 true))) = some r := H
    have A11 := Aside0.mk A110
    clear A110
    have HC12 := Aside0.mk H
    clear H
    go_enter Try.func5, Try.ntmps5
    go_upto_region 10 with (first | ((with_reducible refine gate_callee (f := 15) rfl ?_); refine goesL_ (some 39) rfl rfl Try.func15 (by kernel_rfl) rfl #[.slice A0 l0.length c0, .slice A1 l1.length c1] rfl (by (try simp only [List.map_toArray, List.map_cons, List.map_nil]); first | done | rfl | (simp only [List.length_drop, List.length_take]; rfl)) ?_; (with_reducible refine (laws_big.calls _ _ l0 _ _ l1 false _ ?side1 ?side2 ?side3 ?side4 A3.out).mono ?_); (case side1 => repeat (first | exact HR0.out | (with_reducible refine Kd.C_alloc ?_ _) | (with_reducible refine Kd.C_drewN ?_ _) | (with_reducible refine Kd.C_drew ?_))); (case side2 => exact HC0.out); (case side3 => repeat (first | exact HR1.out | (with_reducible refine Kd.C_alloc ?_ _) | (with_reducible refine Kd.C_drewN ?_ _) | (with_reducible refine Kd.C_drew ?_))); (case side4 => exact HC1.out); rintro e w' ⟨rfl, ⟨nd, rfl⟩⟩; refine ⟨_, rfl, ?_⟩) | ((with_reducible refine gate_callee (f := 47) rfl ?_); refine goesL_ (some 42) rfl rfl Try.func47 (by kernel_rfl) rfl #[.slice A0 l0.length c0] rfl (by (try simp only [List.map_toArray, List.map_cons, List.map_nil]); first | done | rfl | (simp only [List.length_drop, List.length_take]; rfl)) ?_; (with_reducible refine (spec_DrawEndOfRun.calls k _ _ l0 t336 t337 _ ?side1 ?side2 A5.out).mono ?_); (case side1 => repeat (first | exact HR0.out | (with_reducible refine Kd.C_alloc ?_ _) | (with_reducible refine Kd.C_drewN ?_ _) | (with_reducible refine Kd.C_drew ?_))); (case side2 => exact HC0.out); rintro e w13 ⟨rfl, hb⟩; refine ⟨_, rfl, ?_⟩; have n0_ := Aside0.mk (below_step (by repeat (first | (with_reducible first | exact HB.out | apply below_alloc | apply pw_below_drewN | apply below_drew1) | exact HB.out)) hb); clear HB; have HB := n0_; clear n0_; (try clear hb); (try clear hb2); (try clear hk); (try clear hi)) | ((with_reducible refine gate_callee (f := 48) rfl ?_); refine goesL_ (some 48) rfl rfl Try.func48 (by kernel_rfl) rfl #[.int .i64 t336, .int .i64 t337] rfl (by (try simp only [List.map_toArray, List.map_cons, List.map_nil]); first | done | rfl | (simp only [List.length_drop, List.length_take]; rfl)) ?_; (with_reducible refine (impl_EndOfRun.calls k t336 t337 t338 t339 _ A6.out).mono ?_); rintro e w14 ⟨rfl, hb⟩; refine ⟨_, rfl, ?_⟩; have n0_ := Aside0.mk (below_step (by repeat (first | (with_reducible first | exact HB.out | apply below_alloc | apply pw_below_drewN | apply below_drew1) | exact HB.out)) hb); clear HB; have HB := n0_; clear n0_; (try clear hb); (try clear hb2); (try clear hk); (try clear hi)) | ((with_reducible refine gate_callee (f := 49) rfl ?_); refine goesL_ (some 54) rfl rfl Try.func49 (by kernel_rfl) rfl #[.int .i64 t336, .int .i64 t337] rfl (by (try simp only [List.map_toArray, List.map_cons, List.map_nil]); first | done | rfl | (simp only [List.length_drop, List.length_take]; rfl)) ?_; (with_reducible refine (spec_EndOfRun.calls k t336 t337 t340 t341 _ A7.out).mono ?_); rintro e w15 ⟨rfl, hb⟩; refine ⟨_, rfl, ?_⟩; have n0_ := Aside0.mk (below_step (by repeat (first | (with_reducible first | exact HB.out | apply below_alloc | apply pw_below_drewN | apply below_drew1) | exact HB.out)) hb); clear HB; have HB := n0_; clear n0_; (try clear hb); (try clear hb2); (try clear hk); (try clear hi)) | ((with_reducible refine gate_callee (f := 50) rfl ?_); refine goesL_ (some 60) rfl rfl Try.func50 (by kernel_rfl) rfl #[.int .i64 t336, .int .i64 t337] rfl (by (try simp only [List.map_toArray, List.map_cons, List.map_nil]); first | done | rfl | (simp only [List.length_drop, List.length_take]; rfl)) ?_; (with_reducible refine (impl_ProperRun.calls k t336 t337 t342 t343 _ A8.out).mono ?_); rintro e w16 ⟨v344, rfl, ho0, hb⟩; refine ⟨_, rfl, ?_⟩; have n0_ := Aside0.mk (Kd.R_lower ho0 (below_size (by repeat (first | (with_reducible first | exact HB.out | apply below_alloc | apply pw_below_drewN | apply below_drew1) | exact HB.out)))); have n1_ := Aside0.mk (below_step (by repeat (first | (with_reducible first | exact HB.out | apply below_alloc | apply pw_below_drewN | apply below_drew1) | exact HB.out)) hb); clear HB; have HO345 := n0_; have HB := n1_; clear n0_ n1_; (try clear hb); (try clear hb2); (try clear hk); (try clear hi); (try clear ho0)) | ((with_reducible refine gate_callee (f := 51) rfl ?_); refine goesL_ (some 66) rfl rfl Try.func51 (by kernel_rfl) rfl #[.int .i64 t336, .int .i64 t337] rfl (by (try simp only [List.map_toArray, List.map_cons, List.map_nil]); first | done | rfl | (simp only [List.length_drop, List.length_take]; rfl)) ?_; (with_reducible refine (spec_ProperRun.calls k t336 t337 t346 t347 _ A9.out).mono ?_); rintro e w17 ⟨v348, rfl, ho0, hb⟩; refine ⟨_, rfl, ?_⟩; have n0_ := Aside0.mk (Kd.R_elder' (by (with_reducible repeat (first | apply Kd.R_alloc | apply Kd.R_drewN | apply Kd.R_drew)); exact HO345.out) (Kd.R_base ho0) hb); have n1_ := Aside0.mk (Kd.R_lower (Kd.R_new' ho0 (Kd.R_lt (by (with_reducible repeat (first | apply Kd.R_alloc | apply Kd.R_drewN | apply Kd.R_drew)); exact HO345.out))) (below_size (by repeat (first | (with_reducible first | exact HB.out | apply below_alloc | apply pw_below_drewN | apply below_drew1) | exact HB.out)))); have n2_ := Aside0.mk (below_step (by repeat (first | (with_reducible first | exact HB.out | apply below_alloc | apply pw_below_drewN | apply below_drew1) | exact HB.out)) hb); clear HO345; clear HB; have HO345 := n0_; have HO349 := n1_; have HB := n2_; clear n0_ n1_ n2_; (try clear hb); (try clear hb2); (try clear hk); (try clear hi); (try clear ho0)) | ((with_reducible refine gate_callee (f := 52) rfl ?_); refine goesL_ (some 72) rfl rfl Try.func52 (by kernel_rfl) rfl #[.int .i64 t336, .int .i64 t337] rfl (by (try simp only [List.map_toArray, List.map_cons, List.map_nil]); first | done | rfl | (simp only [List.length_drop, List.length_take]; rfl)) ?_; (with_reducible refine (impl_CircleOf.calls k t336 t337 t350 t351 _ A10.out).mono ?_); rintro e w18 ⟨v352, rfl, ho0, hb⟩; refine ⟨_, rfl, ?_⟩; have n0_ := Aside0.mk (Kd.R_elder' (by (with_reducible repeat (first | apply Kd.R_alloc | apply Kd.R_drewN | apply Kd.R_drew)); exact HO345.out) (Kd.R_base ho0) hb); have n1_ := Aside0.mk (Kd.R_elder' (by (with_reducible repeat (first | apply Kd.R_alloc | apply Kd.R_drewN | apply Kd.R_drew)); exact HO349.out) (Kd.R_base ho0) hb); have n2_ := Aside0.mk (Kd.R_lower (Kd.R_new' (Kd.R_new' ho0 (Kd.R_lt (by (with_reducible repeat (first | apply Kd.R_alloc | apply Kd.R_drewN | apply Kd.R_drew)); exact HO345.out))) (Kd.R_lt (by (with_reducible repeat (first | apply Kd.R_alloc | apply Kd.R_drewN | apply Kd.R_drew)); exact HO349.out))) (below_size (by repeat (first | (with_reducible first | exact HB.out | apply below_alloc | apply pw_below_drewN | apply below_drew1) | exact HB.out)))); have n3_ := Aside0.mk (below_step (by repeat (first | (with_reducible first | exact HB.out | apply below_alloc | apply pw_below_drewN | apply below_drew1) | exact HB.out)) hb); clear HO345; clear HO349; clear HB; have HO345 := n0_; have HO349 := n1_; have HO353 := n2_; have HB := n3_; clear n0_ n1_ n2_ n3_; (try clear hb); (try clear hb2); (try clear hk); (try clear hi); (try clear ho0)) | ((with_reducible refine gate_callee (f := 53) rfl ?_); refine goesL_ (some 78) rfl rfl Try.func53 (by kernel_rfl) rfl #[.int .i64 t336, .int .i64 t337] rfl (by (try simp only [List.map_toArray, List.map_cons, List.map_nil]); first | done | rfl | (simp only [List.length_drop, List.length_take]; rfl)) ?_; (with_reducible refine (spec_CircleOf.calls k t336 t337 t354 t355 _ A11.out).mono ?_); rintro e w19 ⟨v356, rfl, ho0, hb⟩; refine ⟨_, rfl, ?_⟩; have n0_ := Aside0.mk (Kd.R_elder' (by (with_reducible repeat (first | apply Kd.R_alloc | apply Kd.R_drewN | apply Kd.R_drew)); exact HO345.out) (Kd.R_base ho0) hb); have n1_ := Aside0.mk (Kd.R_elder' (by (with_reducible repeat (first | apply Kd.R_alloc | apply Kd.R_drewN | apply Kd.R_drew)); exact HO349.out) (Kd.R_base ho0) hb); have n2_ := Aside0.mk (Kd.R_elder' (by (with_reducible repeat (first | apply Kd.R_alloc | apply Kd.R_drewN | apply Kd.R_drew)); exact HO353.out) (Kd.R_base ho0) hb); have n3_ := Aside0.mk (Kd.R_lower (Kd.R_new' (Kd.R_new' (Kd.R_new' ho0 (Kd.R_lt (by (with_reducible repeat (first | apply Kd.R_alloc | apply Kd.R_drewN | apply Kd.R_drew)); exact HO345.out))) (Kd.R_lt (by (with_reducible repeat (first | apply Kd.R_alloc | apply Kd.R_drewN | apply Kd.R_drew)); exact HO349.out))) (Kd.R_lt (by (with_reducible repeat (first | apply Kd.R_alloc | apply Kd.R_drewN | apply Kd.R_drew)); exact HO353.out))) (below_size (by repeat (first | (with_reducible first | exact HB.out | apply below_alloc | apply pw_below_drewN | apply below_drew1) | exact HB.out)))); have n4_ := Aside0.mk (below_step (by repeat (first | (with_reducible first | exact HB.out | apply below_alloc | apply pw_below_drewN | apply below_drew1) | exact HB.out)) hb); clear HO345; clear HO349; clear HO353; clear HB; have HO345 := n0_; have HO349 := n1_; have HO353 := n2_; have HO357 := n3_; have HB := n4_; clear n0_ n1_ n2_ n3_ n4_; (try clear hb); (try clear hb2); (try clear hk); (try clear hi); (try clear ho0)))
    (try simp only [Act.put, List.setIfInBounds_toArray, List.set_cons_zero, List.set_cons_succ])
    go_cut [128] (fun v128 wc => ∃ (kq : Nat) (x128_11 : Bool), v128 = .bool x128_11 ∧ Aside0 (laws_FnProperRuns.j0 kq l1 t336 t337 t338 t339 t342 t350 t351 x128_11 = some r) ∧ Aside0 (kq ≤ k) ∧ Aside0 (Kd.R (Kd.int .i64) 3 wc w.heap.size (fun k_ => some k_ ≠ (v352 : Value).ownBlock) v344 t342) ∧ Aside0 (Kd.R (Kd.int .i64) 3 wc w.heap.size (fun k_ => some k_ ≠ (v344 : Value).ownBlock) v352 t350) ∧ Aside0 (Below w.heap.size w wc))
    case first =>
      as_aux_lemma =>
      have H := HC12.out
      clear HC12
      by_cases c20 : (t339 != t341) = true
      · rw [if_pos c20] at H
        have c20b0 : (t339 != t341) = true := c20
        (try (have c20b1 : decide (t339 = t341) = false := by simpa using c20))
        (try (have c20b2 : (t339 == t341) = false := by simpa using c20))
        (try (have c20b3 : ¬ (t339 = t341) := by simpa using c20))
        clear c20
        (first | rw [c20b0] | (simp only [i64_w, i32_w]; rw [c20b0]) | skip)
        exact (laws_FnProperRuns.j0_no HR_.out _ _ _ _ _ _ _ _ _ H).elim
      · rw [if_neg c20] at H
        have c20b0 : (t339 != t341) = false := by simpa using c20
        (try (have c20b1 : decide (t339 = t341) = true := by simpa using c20))
        (try (have c20b2 : (t339 == t341) = true := by simpa using c20))
        clear c20
        (first | rw [c20b0] | (simp only [i64_w, i32_w]; rw [c20b0]) | skip)
        by_cases c21 : t338 = t340
        · rw [if_pos c21] at H
          have c21b0 : (t338 == t340) = true := beq_iff_eq.mpr c21
          have c21b1 : (t338 != t340) = false := bne_eq_false_iff_eq.mpr c21
          clear c21
          by_cases c22 : (t343 != t347) = true
          · rw [if_pos c22] at H
            have c22b0 : (t343 != t347) = true := c22
            (try (have c22b1 : decide (t343 = t347) = false := by simpa using c22))
            (try (have c22b2 : (t343 == t347) = false := by simpa using c22))
            (try (have c22b3 : ¬ (t343 = t347) := by simpa using c22))
            clear c22
            exact (laws_FnProperRuns.j0_no HR_.out _ _ _ _ _ _ _ _ _ H).elim
          · rw [if_neg c22] at H
            have c22b0 : (t343 != t347) = false := by simpa using c22
            (try (have c22b1 : decide (t343 = t347) = true := by simpa using c22))
            (try (have c22b2 : (t343 == t347) = true := by simpa using c22))
            clear c22
            replace H := Option.bind_eq_some_iff.mp H
            obtain ⟨t358, A230, H⟩ := H
            replace H : (if t358 = true then (if (t351 != t355) = true then (laws_FnProperRuns.j0 k l1 t336 t337 t338 t339 t342 t350 t351 true) else ((laws_qSame.f k t350 t354).bind fun t359 => (if t359 = true then (if (t343 != t339) = true then (laws_FnProperRuns.j0 k l1 t336 t337 t338 t339 t342 t350 t351 true) else (if t339 = true then (if t338 ≥ 1 then (laws_FnProperRuns.j0 k l1 t336 t337 t338 t339 t342 t350 t351 (t351 != (decide (t338 ≤ 3)))) else (laws_FnProperRuns.j0 k l1 t336 t337 t338 t339 t342 t350 t351 (t351 != false))) else (laws_FnProperRuns.j0 k l1 t336 t337 t338 t339 t342 t350 t351 (t351 != false)))) else (laws_FnProperRuns.j0 k l1 t336 t337 t338 t339 t342 t350 t351 true)))) else (laws_FnProperRuns.j0 k l1 t336 t337 t338 t339 t342 t350 t351 true)) = some r := H
            have A23 := Aside0.mk A230
            clear A230
            by_cases c24 : t358 = true
            · subst c24
              have H1 : (if (t351 != t355) = true then (laws_FnProperRuns.j0 k l1 t336 t337 t338 t339 t342 t350 t351 true) else ((laws_qSame.f k t350 t354).bind fun t359 => (if t359 = true then (if (t343 != t339) = true then (laws_FnProperRuns.j0 k l1 t336 t337 t338 t339 t342 t350 t351 true) else (if t339 = true then (if t338 ≥ 1 then (laws_FnProperRuns.j0 k l1 t336 t337 t338 t339 t342 t350 t351 (t351 != (decide (t338 ≤ 3)))) else (laws_FnProperRuns.j0 k l1 t336 t337 t338 t339 t342 t350 t351 (t351 != false))) else (laws_FnProperRuns.j0 k l1 t336 t337 t338 t339 t342 t350 t351 (t351 != false)))) else (laws_FnProperRuns.j0 k l1 t336 t337 t338 t339 t342 t350 t351 true)))) = some r := by rw [if_pos rfl] at H; exact H
              clear H
              have H := H1
              clear H1
              by_cases c25 : (t351 != t355) = true
              · rw [if_pos c25] at H
                have c25b0 : (t351 != t355) = true := c25
                (try (have c25b1 : decide (t351 = t355) = false := by simpa using c25))
                (try (have c25b2 : (t351 == t355) = false := by simpa using c25))
                (try (have c25b3 : ¬ (t351 = t355) := by simpa using c25))
                clear c25
                exact (laws_FnProperRuns.j0_no HR_.out _ _ _ _ _ _ _ _ _ H).elim
              · rw [if_neg c25] at H
                have c25b0 : (t351 != t355) = false := by simpa using c25
                (try (have c25b1 : decide (t351 = t355) = true := by simpa using c25))
                (try (have c25b2 : (t351 == t355) = true := by simpa using c25))
                clear c25
                replace H := Option.bind_eq_some_iff.mp H
                obtain ⟨t359, A260, H⟩ := H
                replace H : (if t359 = true then (if (t343 != t339) = true then (laws_FnProperRuns.j0 k l1 t336 t337 t338 t339 t342 t350 t351 true) else (if t339 = true then (if t338 ≥ 1 then (laws_FnProperRuns.j0 k l1 t336 t337 t338 t339 t342 t350 t351 (t351 != (decide (t338 ≤ 3)))) else (laws_FnProperRuns.j0 k l1 t336 t337 t338 t339 t342 t350 t351 (t351 != false))) else (laws_FnProperRuns.j0 k l1 t336 t337 t338 t339 t342 t350 t351 (t351 != false)))) else (laws_FnProperRuns.j0 k l1 t336 t337 t338 t339 t342 t350 t351 true)) = some r := H
                have A26 := Aside0.mk A260
                clear A260
                by_cases c27 : t359 = true
                · subst c27
                  have H1 : (if (t343 != t339) = true then (laws_FnProperRuns.j0 k l1 t336 t337 t338 t339 t342 t350 t351 true) else (if t339 = true then (if t338 ≥ 1 then (laws_FnProperRuns.j0 k l1 t336 t337 t338 t339 t342 t350 t351 (t351 != (decide (t338 ≤ 3)))) else (laws_FnProperRuns.j0 k l1 t336 t337 t338 t339 t342 t350 t351 (t351 != false))) else (laws_FnProperRuns.j0 k l1 t336 t337 t338 t339 t342 t350 t351 (t351 != false)))) = some r := by rw [if_pos rfl] at H; exact H
                  clear H
                  have H := H1
                  clear H1
                  by_cases c28 : (t343 != t339) = true
                  · rw [if_pos c28] at H
                    have c28b0 : (t343 != t339) = true := c28
                    (try (have c28b1 : decide (t343 = t339) = false := by simpa using c28))
                    (try (have c28b2 : (t343 == t339) = false := by simpa using c28))
                    (try (have c28b3 : ¬ (t343 = t339) := by simpa using c28))
                    clear c28
                    exact (laws_FnProperRuns.j0_no HR_.out _ _ _ _ _ _ _ _ _ H).elim
                  · rw [if_neg c28] at H
                    have c28b0 : (t343 != t339) = false := by simpa using c28
                    (try (have c28b1 : decide (t343 = t339) = true := by simpa using c28))
                    (try (have c28b2 : (t343 == t339) = true := by simpa using c28))
                    clear c28
                    by_cases c29 : t339 = true
                    · subst c29
                      have H1 : (if t338 ≥ 1 then (laws_FnProperRuns.j0 k l1 t336 t337 t338 true t342 t350 t351 (t351 != (decide (t338 ≤ 3)))) else (laws_FnProperRuns.j0 k l1 t336 t337 t338 true t342 t350 t351 (t351 != false))) = some r := by rw [if_pos rfl] at H; exact H
                      clear H
                      have H := H1
                      clear H1
                      by_cases c30 : t338 ≥ 1
                      · rw [if_pos c30] at H
                        have c30b0 : decide (1 ≤ t338) = true := decide_eq_true c30
                        clear c30
                        as_aux_lemma =>
                          have H' := Aside0.mk H
                          clear H
                          obtain ⟨Ao31, co31, eo31⟩ := Kd.R_slice HO345.out
                          subst eo31
                          obtain ⟨Ao32, co32, eo32⟩ := Kd.R_slice HO349.out
                          subst eo32
                          go_wp2_with (first | (go_at_call 34; (with_reducible refine (laws_qSame.calls k _ _ t342 _ _ t346 true _ ?side1 ?side2 ?side3 ?side4 A23.out).mono ?_); (case side1 => repeat (first | exact (Kd.R_reads' HO345.out).2.2 | (with_reducible refine Kd.C_alloc ?_ _) | (with_reducible refine Kd.C_drewN ?_ _) | (with_reducible refine Kd.C_drew ?_))); (case side2 => exact (Kd.R_reads' HO345.out).2.1); (case side3 => repeat (first | exact (Kd.R_reads' HO349.out).2.2 | (with_reducible refine Kd.C_alloc ?_ _) | (with_reducible refine Kd.C_drewN ?_ _) | (with_reducible refine Kd.C_drew ?_))); (case side4 => exact (Kd.R_reads' HO349.out).2.1); rintro e w' ⟨rfl, ⟨nd, rfl⟩⟩; obtain ⟨Ao33, co33, eo33⟩ := Kd.R_slice HO353.out; subst eo33; obtain ⟨Ao34, co34, eo34⟩ := Kd.R_slice HO357.out; subst eo34) | (go_at_call 34; (with_reducible refine (laws_qSame.calls k _ _ t350 _ _ t354 true _ ?side1 ?side2 ?side3 ?side4 A26.out).mono ?_); (case side1 => repeat (first | exact (Kd.R_reads' HO353.out).2.2 | (with_reducible refine Kd.C_alloc ?_ _) | (with_reducible refine Kd.C_drewN ?_ _) | (with_reducible refine Kd.C_drew ?_))); (case side2 => exact (Kd.R_reads' HO353.out).2.1); (case side3 => repeat (first | exact (Kd.R_reads' HO357.out).2.2 | (with_reducible refine Kd.C_alloc ?_ _) | (with_reducible refine Kd.C_drewN ?_ _) | (with_reducible refine Kd.C_drew ?_))); (case side4 => exact (Kd.R_reads' HO357.out).2.1); rintro e w' ⟨rfl, ⟨nd, rfl⟩⟩))
                          go_meet
                          case rel => exact ⟨_, ((t351 != (decide (t338 ≤ 3)))), (by first | rfl | (simp; done) | (simp [*]; done)), H', ⟨by first | omega | exact Nat.le_refl _⟩, ⟨by (with_reducible repeat (first | apply Kd.R_alloc | apply Kd.R_drewN | apply Kd.R_drew)); exact Kd.R_mono HO345.out (fun _ hk => hk.1.2)⟩, ⟨by (with_reducible repeat (first | apply Kd.R_alloc | apply Kd.R_drewN | apply Kd.R_drew)); exact Kd.R_mono HO353.out (fun _ hk => hk.1.1.2)⟩, ⟨by repeat (first | (with_reducible first | exact HB.out | apply below_alloc | apply pw_below_drewN | apply below_drew1) | exact HB.out)⟩⟩
                      · rw [if_neg c30] at H
                        have c30b0 : decide (1 ≤ t338) = false := decide_eq_false c30
                        clear c30
                        as_aux_lemma =>
                          have H' := Aside0.mk H
                          clear H
                          obtain ⟨Ao35, co35, eo35⟩ := Kd.R_slice HO345.out
                          subst eo35
                          obtain ⟨Ao36, co36, eo36⟩ := Kd.R_slice HO349.out
                          subst eo36
                          go_wp2_with (first | (go_at_call 34; (with_reducible refine (laws_qSame.calls k _ _ t342 _ _ t346 true _ ?side1 ?side2 ?side3 ?side4 A23.out).mono ?_); (case side1 => repeat (first | exact (Kd.R_reads' HO345.out).2.2 | (with_reducible refine Kd.C_alloc ?_ _) | (with_reducible refine Kd.C_drewN ?_ _) | (with_reducible refine Kd.C_drew ?_))); (case side2 => exact (Kd.R_reads' HO345.out).2.1); (case side3 => repeat (first | exact (Kd.R_reads' HO349.out).2.2 | (with_reducible refine Kd.C_alloc ?_ _) | (with_reducible refine Kd.C_drewN ?_ _) | (with_reducible refine Kd.C_drew ?_))); (case side4 => exact (Kd.R_reads' HO349.out).2.1); rintro e w' ⟨rfl, ⟨nd, rfl⟩⟩; obtain ⟨Ao37, co37, eo37⟩ := Kd.R_slice HO353.out; subst eo37; obtain ⟨Ao38, co38, eo38⟩ := Kd.R_slice HO357.out; subst eo38) | (go_at_call 34; (with_reducible refine (laws_qSame.calls k _ _ t350 _ _ t354 true _ ?side1 ?side2 ?side3 ?side4 A26.out).mono ?_); (case side1 => repeat (first | exact (Kd.R_reads' HO353.out).2.2 | (with_reducible refine Kd.C_alloc ?_ _) | (with_reducible refine Kd.C_drewN ?_ _) | (with_reducible refine Kd.C_drew ?_))); (case side2 => exact (Kd.R_reads' HO353.out).2.1); (case side3 => repeat (first | exact (Kd.R_reads' HO357.out).2.2 | (with_reducible refine Kd.C_alloc ?_ _) | (with_reducible refine Kd.C_drewN ?_ _) | (with_reducible refine Kd.C_drew ?_))); (case side4 => exact (Kd.R_reads' HO357.out).2.1); rintro e w' ⟨rfl, ⟨nd, rfl⟩⟩))
                          go_meet
                          case rel => exact ⟨_, ((t351 != false)), (by first | rfl | (simp; done) | (simp [*]; done)), H', ⟨by first | omega | exact Nat.le_refl _⟩, ⟨by (with_reducible repeat (first | apply Kd.R_alloc | apply Kd.R_drewN | apply Kd.R_drew)); exact Kd.R_mono HO345.out (fun _ hk => hk.1.2)⟩, ⟨by (with_reducible repeat (first | apply Kd.R_alloc | apply Kd.R_drewN | apply Kd.R_drew)); exact Kd.R_mono HO353.out (fun _ hk => hk.1.1.2)⟩, ⟨by repeat (first | (with_reducible first | exact HB.out | apply below_alloc | apply pw_below_drewN | apply below_drew1) | exact HB.out)⟩⟩
                    · replace c29 := Bool.eq_false_iff.mpr c29
                      subst c29
                      have H1 : (laws_FnProperRuns.j0 k l1 t336 t337 t338 false t342 t350 t351 (t351 != false)) = some r := by rw [if_neg (show ¬ (false = true) by decide)] at H; exact H
                      clear H
                      have H := H1
                      clear H1
                      as_aux_lemma =>
                        have H' := Aside0.mk H
                        clear H
                        obtain ⟨Ao39, co39, eo39⟩ := Kd.R_slice HO345.out
                        subst eo39
                        obtain ⟨Ao40, co40, eo40⟩ := Kd.R_slice HO349.out
                        subst eo40
                        go_wp2_with (first | (go_at_call 34; (with_reducible refine (laws_qSame.calls k _ _ t342 _ _ t346 true _ ?side1 ?side2 ?side3 ?side4 A23.out).mono ?_); (case side1 => repeat (first | exact (Kd.R_reads' HO345.out).2.2 | (with_reducible refine Kd.C_alloc ?_ _) | (with_reducible refine Kd.C_drewN ?_ _) | (with_reducible refine Kd.C_drew ?_))); (case side2 => exact (Kd.R_reads' HO345.out).2.1); (case side3 => repeat (first | exact (Kd.R_reads' HO349.out).2.2 | (with_reducible refine Kd.C_alloc ?_ _) | (with_reducible refine Kd.C_drewN ?_ _) | (with_reducible refine Kd.C_drew ?_))); (case side4 => exact (Kd.R_reads' HO349.out).2.1); rintro e w' ⟨rfl, ⟨nd, rfl⟩⟩; obtain ⟨Ao41, co41, eo41⟩ := Kd.R_slice HO353.out; subst eo41; obtain ⟨Ao42, co42, eo42⟩ := Kd.R_slice HO357.out; subst eo42) | (go_at_call 34; (with_reducible refine (laws_qSame.calls k _ _ t350 _ _ t354 true _ ?side1 ?side2 ?side3 ?side4 A26.out).mono ?_); (case side1 => repeat (first | exact (Kd.R_reads' HO353.out).2.2 | (with_reducible refine Kd.C_alloc ?_ _) | (with_reducible refine Kd.C_drewN ?_ _) | (with_reducible refine Kd.C_drew ?_))); (case side2 => exact (Kd.R_reads' HO353.out).2.1); (case side3 => repeat (first | exact (Kd.R_reads' HO357.out).2.2 | (with_reducible refine Kd.C_alloc ?_ _) | (with_reducible refine Kd.C_drewN ?_ _) | (with_reducible refine Kd.C_drew ?_))); (case side4 => exact (Kd.R_reads' HO357.out).2.1); rintro e w' ⟨rfl, ⟨nd, rfl⟩⟩))
                        go_meet
                        case rel => exact ⟨_, ((t351 != false)), (by first | rfl | (simp; done) | (simp [*]; done)), H', ⟨by first | omega | exact Nat.le_refl _⟩, ⟨by (with_reducible repeat (first | apply Kd.R_alloc | apply Kd.R_drewN | apply Kd.R_drew)); exact Kd.R_mono HO345.out (fun _ hk => hk.1.2)⟩, ⟨by (with_reducible repeat (first | apply Kd.R_alloc | apply Kd.R_drewN | apply Kd.R_drew)); exact Kd.R_mono HO353.out (fun _ hk => hk.1.1.2)⟩, ⟨by repeat (first | (with_reducible first | exact HB.out | apply below_alloc | apply pw_below_drewN | apply below_drew1) | exact HB.out)⟩⟩
                · replace c27 := Bool.eq_false_iff.mpr c27
                  subst c27
                  have H1 : (laws_FnProperRuns.j0 k l1 t336 t337 t338 t339 t342 t350 t351 true) = some r := by rw [if_neg (show ¬ (false = true) by decide)] at H; exact H
                  clear H
                  have H := H1
                  clear H1
                  exact (laws_FnProperRuns.j0_no HR_.out _ _ _ _ _ _ _ _ _ H).elim
            · replace c24 := Bool.eq_false_iff.mpr c24
              subst c24
              have H1 : (laws_FnProperRuns.j0 k l1 t336 t337 t338 t339 t342 t350 t351 true) = some r := by rw [if_neg (show ¬ (false = true) by decide)] at H; exact H
              clear H
              have H := H1
              clear H1
              exact (laws_FnProperRuns.j0_no HR_.out _ _ _ _ _ _ _ _ _ H).elim
        · rw [if_neg c21] at H
          have c21b0 : (t338 == t340) = false := beq_eq_false_iff_ne.mpr c21
          have c21b1 : (t338 != t340) = true := bne_iff_ne.mpr c21
          exact (laws_FnProperRuns.j0_no HR_.out _ _ _ _ _ _ _ _ _ H).elim
    case rest =>
      as_aux_lemma =>
      clear HC12
      try clear c1
      try clear c2
      try clear p2
      try clear c3
      try clear c4
      try clear c5
      try clear c15
      try clear c20
      try clear c20b0
      try clear c20b1
      try clear c20b2
      try clear c21
      try clear c21b0
      try clear c21b1
      try clear c22
      try clear c22b0
      try clear c22b1
      try clear c22b2
      try clear c24
      try clear c25
      try clear c25b0
      try clear c25b1
      try clear c25b2
      try clear c27
      try clear c28
      try clear c28b0
      try clear c28b1
      try clear c28b2
      try clear c29
      try clear c30
      try clear c30b0
      obtain ⟨kq, x128_11, rfl, HA, HJ11, HO_11, HO_15, HB⟩ := hcut
      cases kq with
      | zero => exact absurd HA.out (by simp [laws_FnProperRuns.j0])
      | succ kj11 =>
        have H := HA.out
        clear HA
        simp only [laws_FnProperRuns.j0] at H
        by_cases c43 : x128_11 = true
        · subst c43
          have H1 : (some false) = some r := by rw [if_pos rfl] at H; exact H
          clear H
          have H := H1
          clear H1
          exact absurd (Option.some.inj H) (by rw [HR_.out]; decide)
        · replace c43 := Bool.eq_false_iff.mpr c43
          subst c43
          have H1 : (if t339 = true then (if 0 < (t342.length : Int) then (if (rd t342 0) = t336 then (laws_FnProperRuns.j1 kj11 l1 t338 t342 t350 t351 (decide ((t342.length : Int) > t337))) else (laws_FnProperRuns.j1 kj11 l1 t338 t342 t350 t351 true)) else (none)) else (laws_FnProperRuns.j3 kj11 l1 t338 t350 t351)) = some r := by rw [if_neg (show ¬ (false = true) by decide)] at H; exact H
          clear H
          have H := H1
          clear H1
          have HC44 := Aside0.mk H
          clear H
          go_upto_if 129 with (fail)
          go_cut [] (fun wc => ∃ (kq : Nat), Aside0 (laws_FnProperRuns.j3 kq l1 t338 t350 t351 = some r) ∧ Aside0 (kq ≤ kj11) ∧ Aside0 (Kd.R (Kd.int .i64) 3 wc w.heap.size (fun _ => True) v352 t350) ∧ Aside0 (Below w.heap.size w wc))
          case first =>
            as_aux_lemma =>
            have H := HC44.out
            clear HC44
            by_cases c45 : t339 = true
            · subst c45
              have H1 : (if 0 < (t342.length : Int) then (if (rd t342 0) = t336 then (laws_FnProperRuns.j1 kj11 l1 t338 t342 t350 t351 (decide ((t342.length : Int) > t337))) else (laws_FnProperRuns.j1 kj11 l1 t338 t342 t350 t351 true)) else (none)) = some r := by rw [if_pos rfl] at H; exact H
              clear H
              have H := H1
              clear H1
              have HC46 := Aside0.mk H
              clear H
              go_upto_region 13 with (fail)
              go_cut [140] (fun v140 wc => ∃ (kq : Nat) (x140_45 : Bool), v140 = .bool x140_45 ∧ Aside0 (laws_FnProperRuns.j1 kq l1 t338 t342 t350 t351 x140_45 = some r) ∧ Aside0 (kq ≤ kj11) ∧ Aside0 (Kd.R (Kd.int .i64) 3 wc w.heap.size (fun k_ => some k_ ≠ (v352 : Value).ownBlock) v344 t342) ∧ Aside0 (Kd.R (Kd.int .i64) 3 wc w.heap.size (fun k_ => some k_ ≠ (v344 : Value).ownBlock) v352 t350) ∧ Aside0 (Below w.heap.size w wc))
              case first =>
                as_aux_lemma =>
                have H := HC46.out
                clear HC46
                by_cases c47 : 0 < (t342.length : Int)
                · rw [if_pos c47] at H
                  have c47b0 : decide (0 < (t342.length : Int)) = true := decide_eq_true c47
                  have c47b1 : decide (0 < t342.length) = true := decide_eq_true (by omega)
                  clear c47
                  (first | rw [c47b0] | (simp only [i64_w, i32_w]; rw [c47b0]) | skip)
                  by_cases c48 : (rd t342 0) = t336
                  · rw [if_pos c48] at H
                    have c48b0 : ((rd t342 0) == t336) = true := beq_iff_eq.mpr c48
                    have c48b1 : ((rd t342 0) != t336) = false := bne_eq_false_iff_eq.mpr c48
                    clear c48
                    as_aux_lemma =>
                      have H' := Aside0.mk H
                      clear H
                      obtain ⟨Ao49, co49, eo49⟩ := Kd.R_slice HO_11.out
                      subst eo49
                      have p360 : 0 ≤ (0 : Int) := (by omega)
                      have q360 : 0 < (t342.length : Int) := of_decide_eq_true (by first | (with_reducible assumption) | assumption)
                      obtain ⟨ad360, e360, hx360_0⟩ := Kd.at_int (Kd.R_reads' HO_11.out).2.2 0 p360 q360
                      cases e360
                      have qi360 : (0 < t342.length) = True := eq_true (by omega)
                      (try rw [show ((0 : Int)).toNat = 0 from rfl] at hx360_0)
                      (try rw [Addr.add_zero'] at hx360_0)
                      replace p360 := eq_true p360
                      replace q360 := eq_true q360
                      go_wp2
                      go_meet
                      case rel => exact ⟨_, (decide ((t342.length : Int) > t337)), (by first | rfl | (simp; done) | (simp [*]; done)), H', ⟨by have := HJ11.out; first | omega | exact Nat.le_refl _⟩, ⟨by (with_reducible repeat (first | apply Kd.R_alloc | apply Kd.R_drewN | apply Kd.R_drew)); exact HO_11.out⟩, ⟨by (with_reducible repeat (first | apply Kd.R_alloc | apply Kd.R_drewN | apply Kd.R_drew)); exact HO_15.out⟩, ⟨by repeat (first | (with_reducible first | exact HB.out | apply below_alloc | apply pw_below_drewN | apply below_drew1) | exact HB.out)⟩⟩
                  · rw [if_neg c48] at H
                    have c48b0 : ((rd t342 0) == t336) = false := beq_eq_false_iff_ne.mpr c48
                    have c48b1 : ((rd t342 0) != t336) = true := bne_iff_ne.mpr c48
                    exact (laws_FnProperRuns.j1_no HR_.out _ _ _ _ _ _ H).elim
                · rw [if_neg c47] at H
                  exact absurd H (by simp)
              case rest =>
                as_aux_lemma =>
                clear HC46
                try clear c1
                try clear c2
                try clear p2
                try clear c3
                try clear p3
                try clear q3
                try clear hx3
                try clear qi3
                try clear c4
                try clear c5
                try clear c15
                try clear c20
                try clear c20b0
                try clear c20b1
                try clear c20b2
                try clear c21
                try clear c21b0
                try clear c21b1
                try clear c22
                try clear c22b0
                try clear c22b1
                try clear c22b2
                try clear c24
                try clear c25
                try clear c25b0
                try clear c25b1
                try clear c25b2
                try clear c27
                try clear c28
                try clear c28b0
                try clear c28b1
                try clear c28b2
                try clear c29
                try clear c30
                try clear c30b0
                try clear p36
                try clear q36
                try clear hx36
                try clear qi36
                try clear c43
                try clear c45
                try clear c47
                try clear c47b0
                try clear c47b1
                try clear c48
                try clear c48b0
                try clear c48b1
                try clear c49
                try clear hx360_0
                try clear p2
                try clear p360
                try clear q360
                obtain ⟨kq, x140_45, rfl, HA, HJ45, HO_11, HO_15, HB⟩ := hcut
                cases kq with
                | zero => exact absurd HA.out (by simp [laws_FnProperRuns.j1])
                | succ kj45 =>
                  have H := HA.out
                  clear HA
                  simp only [laws_FnProperRuns.j1] at H
                  by_cases c50 : x140_45 = true
                  · subst c50
                    have H1 : (some false) = some r := by rw [if_pos rfl] at H; exact H
                    clear H
                    have H := H1
                    clear H1
                    exact absurd (Option.some.inj H) (by rw [HR_.out]; decide)
                  · replace c50 := Bool.eq_false_iff.mpr c50
                    subst c50
                    have H1 : (laws_FnProperRuns.l0 kj45 l1 t338 t342 t350 t351 1) = some r := by rw [if_neg (show ¬ (false = true) by decide)] at H; exact H
                    clear H
                    have H := H1
                    clear H1
                    have H' := Aside0.mk H
                    clear H
                    go_wp2
                    go_loopg [19] kj45 (fun kq v19 w' => ∃ (x19_3 : Int), v19 = .int .i64 x19_3 ∧ Aside0 (laws_FnProperRuns.l0 kq l1 t338 t342 t350 t351 x19_3 = some r) ∧ Aside0 (kq ≤ kj45) ∧ Aside0 (Kd.R (Kd.int .i64) 3 w' w.heap.size (fun k_ => some k_ ≠ (v352 : Value).ownBlock) v344 t342) ∧ Aside0 (Kd.R (Kd.int .i64) 3 w' w.heap.size (fun k_ => some k_ ≠ (v344 : Value).ownBlock) v352 t350) ∧ Aside0 (Below w.heap.size w w'))
                    case atStart => exact ⟨(1), (by first | rfl | (simp; done) | (simp [*]; done)), H', ⟨Nat.le_refl _⟩, ⟨by (with_reducible repeat (first | apply Kd.R_alloc | apply Kd.R_drewN | apply Kd.R_drew)); exact HO_11.out⟩, ⟨by (with_reducible repeat (first | apply Kd.R_alloc | apply Kd.R_drewN | apply Kd.R_drew)); exact HO_15.out⟩, ⟨by repeat (first | (with_reducible first | exact HB.out | apply below_alloc | apply pw_below_drewN | apply below_drew1) | exact HB.out)⟩⟩
                    case round =>
                      as_aux_lemma =>
                      clear H'
                      try clear c1
                      try clear c2
                      try clear p2
                      try clear c3
                      try clear p3
                      try clear q3
                      try clear hx3
                      try clear qi3
                      try clear c4
                      try clear c5
                      try clear c15
                      try clear c20
                      try clear c20b0
                      try clear c20b1
                      try clear c20b2
                      try clear c21
                      try clear c21b0
                      try clear c21b1
                      try clear c22
                      try clear c22b0
                      try clear c22b1
                      try clear c22b2
                      try clear c24
                      try clear c25
                      try clear c25b0
                      try clear c25b1
                      try clear c25b2
                      try clear c27
                      try clear c28
                      try clear c28b0
                      try clear c28b1
                      try clear c28b2
                      try clear c29
                      try clear c30
                      try clear c30b0
                      try clear p36
                      try clear q36
                      try clear hx36
                      try clear qi36
                      try clear c43
                      try clear c45
                      try clear c47
                      try clear c47b0
                      try clear c47b1
                      try clear c48
                      try clear c48b0
                      try clear c48b1
                      try clear c49
                      try clear c50
                      try clear hx360_0
                      try clear p2
                      try clear p3
                      try clear p36
                      try clear p360
                      try clear q3
                      try clear q36
                      try clear q360
                      obtain ⟨x19_3, rfl, HA, HK3, HO_11, HO_15, HB⟩ := hrel
                      cases gk with
                      | zero => exact absurd HA.out (by simp [laws_FnProperRuns.l0])
                      | succ k3 =>
                        have H := HA.out
                        clear HA
                        simp only [laws_FnProperRuns.l0] at H
                        by_cases c51 : x19_3 < (t342.length : Int)
                        · rw [if_pos c51] at H
                          have c51b0 : decide (x19_3 < (t342.length : Int)) = true := decide_eq_true c51
                          clear c51
                          obtain ⟨ji52, hji52⟩ : ∃ j_ : Int, (wrap64 (x19_3 - 1)) = j_ := ⟨_, rfl⟩
                          replace H : (if 0 ≤ (ji52) then (if (ji52) < (t342.length : Int) then ((impl_ProperSum.f k3 (rd t342 (ji52))).bind fun bt362 => (if bt362.2 = true then (if 0 ≤ x19_3 then (if bt362.1 = (rd t342 x19_3) then (laws_FnProperRuns.l0 k3 l1 t338 t342 t350 t351 (wrap64 (x19_3 + 1))) else (some false)) else (none)) else (some false))) else (none)) else (none)) = some r := by first | (rw [hji52] at H; exact H) | (simp only [hji52] at H ⊢; exact H)
                          have hji52w : (IntKind.i64.wrap (x19_3 - 1)) = ji52 := (i64_w _).trans hji52
                          by_cases c53 : 0 ≤ (ji52)
                          · rw [if_pos c53] at H
                            have c53b0 : decide (0 ≤ (ji52)) = true := decide_eq_true c53
                            clear c53
                            by_cases c54 : (ji52) < (t342.length : Int)
                            · rw [if_pos c54] at H
                              have c54b0 : decide ((ji52) < (t342.length : Int)) = true := decide_eq_true c54
                              clear c54
                              replace H := Option.bind_eq_some_iff.mp H
                              obtain ⟨⟨t362, t363⟩, A550, H⟩ := H
                              replace H : (if t363 = true then (if 0 ≤ x19_3 then (if t362 = (rd t342 x19_3) then (laws_FnProperRuns.l0 k3 l1 t338 t342 t350 t351 (wrap64 (x19_3 + 1))) else (some false)) else (none)) else (some false)) = some r := H
                              have A55 := Aside0.mk A550
                              clear A550
                              by_cases c56 : t363 = true
                              · subst c56
                                have H1 : (if 0 ≤ x19_3 then (if t362 = (rd t342 x19_3) then (laws_FnProperRuns.l0 k3 l1 t338 t342 t350 t351 (wrap64 (x19_3 + 1))) else (some false)) else (none)) = some r := by rw [if_pos rfl] at H; exact H
                                clear H
                                have H := H1
                                clear H1
                                by_cases c57 : 0 ≤ x19_3
                                · rw [if_pos c57] at H
                                  have c57b0 : decide (0 ≤ x19_3) = true := decide_eq_true c57
                                  clear c57
                                  by_cases c58 : t362 = (rd t342 x19_3)
                                  · rw [if_pos c58] at H
                                    have c58b0 : (t362 == (rd t342 x19_3)) = true := beq_iff_eq.mpr c58
                                    have c58b1 : (t362 != (rd t342 x19_3)) = false := bne_eq_false_iff_eq.mpr c58
                                    clear c58
                                    as_aux_lemma =>
                                      have H' := Aside0.mk H
                                      clear H
                                      obtain ⟨Ao59, co59, eo59⟩ := Kd.R_slice HO_11.out
                                      subst eo59
                                      have p361 : 0 ≤ ((ji52) : Int) := of_decide_eq_true (by first | (with_reducible assumption) | assumption)
                                      have q361 : (ji52) < (t342.length : Int) := of_decide_eq_true (by first | (with_reducible assumption) | assumption)
                                      obtain ⟨ad361, e361, hx361_0⟩ := Kd.at_int (Kd.R_reads' HO_11.out).2.2 (ji52) p361 q361
                                      cases e361
                                      replace p361 := eq_true p361
                                      replace q361 := eq_true q361
                                      go_wp2_with (first | ((with_reducible refine gate_callee (f := 35) rfl ?_); refine goesL_ (some 153) rfl rfl Try.func35 (by kernel_rfl) rfl #[.int .i64 (rd t342 (ji52))] rfl (by (try simp only [List.map_toArray, List.map_cons, List.map_nil]); first | done | (simp only [hji52]; rfl) | rfl | (simp only [List.length_drop, List.length_take]; rfl)) ?_; (with_reducible refine (impl_ProperSum.calls k3 (rd t342 (ji52)) t362 true _ A55.out).mono ?_); rintro e w60 ⟨rfl, hb⟩; refine ⟨_, rfl, ?_⟩; have n0_ := Aside0.mk (Kd.R_below (by (with_reducible repeat (first | apply Kd.R_alloc | apply Kd.R_drewN | apply Kd.R_drew)); exact HO_11.out) hb); have n1_ := Aside0.mk (Kd.R_below (by (with_reducible repeat (first | apply Kd.R_alloc | apply Kd.R_drewN | apply Kd.R_drew)); exact HO_15.out) hb); have n2_ := Aside0.mk (below_step (by repeat (first | (with_reducible first | exact HB.out | apply below_alloc | apply pw_below_drewN | apply below_drew1) | exact HB.out)) hb); clear HO_11; clear HO_15; clear HB; have HO_11 := n0_; have HO_15 := n1_; have HB := n2_; clear n0_ n1_ n2_; (try clear hb); (try clear hb2); (try clear hk); (try clear hi); have p364 : 0 ≤ (x19_3 : Int) := of_decide_eq_true (by first | (with_reducible assumption) | assumption); have q364 : x19_3 < (t342.length : Int) := of_decide_eq_true (by first | (with_reducible assumption) | assumption); obtain ⟨ad364, e364, hx364_0⟩ := Kd.at_int (Kd.R_reads' HO_11.out).2.2 x19_3 p364 q364; obtain rfl : ad361 = ad364 := (by injection e364); replace p364 := eq_true p364; replace q364 := eq_true q364))
                                      go_roundg k3
                                      case measure => have := HJ11.out; have := HJ45.out; have := HK3.out; omega
                                      case rel => exact ⟨(wrap64 (x19_3 + 1)), (by first | rfl | (simp; done) | (simp [*]; done)), H', ⟨by have := HJ11.out; have := HJ45.out; have := HK3.out; omega⟩, ⟨by (with_reducible repeat (first | apply Kd.R_alloc | apply Kd.R_drewN | apply Kd.R_drew)); exact HO_11.out⟩, ⟨by (with_reducible repeat (first | apply Kd.R_alloc | apply Kd.R_drewN | apply Kd.R_drew)); exact HO_15.out⟩, ⟨by repeat (first | (with_reducible first | exact HB.out | apply below_alloc | apply pw_below_drewN | apply below_drew1) | exact HB.out)⟩⟩
                                  · rw [if_neg c58] at H
                                    have c58b0 : (t362 == (rd t342 x19_3)) = false := beq_eq_false_iff_ne.mpr c58
                                    have c58b1 : (t362 != (rd t342 x19_3)) = true := bne_iff_ne.mpr c58
                                    exact absurd (Option.some.inj H) (by rw [HR_.out]; decide)
                                · rw [if_neg c57] at H
                                  exact absurd H (by simp)
                              · replace c56 := Bool.eq_false_iff.mpr c56
                                subst c56
                                have H1 : (some false) = some r := by rw [if_neg (show ¬ (false = true) by decide)] at H; exact H
                                clear H
                                have H := H1
                                clear H1
                                exact absurd (Option.some.inj H) (by rw [HR_.out]; decide)
                            · rw [if_neg c54] at H
                              exact absurd H (by simp)
                          · rw [if_neg c53] at H
                            exact absurd H (by simp)
                        · rw [if_neg c51] at H
                          have c51b0 : decide (x19_3 < (t342.length : Int)) = false := decide_eq_false c51
                          clear c51
                          obtain ⟨ji61, hji61⟩ : ∃ j_ : Int, (wrap64 ((t342.length : Int) - 1)) = j_ := ⟨_, rfl⟩
                          replace H : (if 0 ≤ (ji61) then (if (ji61) < (t342.length : Int) then ((impl_ProperSum.f k3 (rd t342 (ji61))).bind fun bt366 => (if bt366.2 = true then (if ((t338 == 0) != (bt366.1 == 0)) = true then (some false) else (if ((t338 == 4) != (decide (bt366.1 > 1000000000))) = true then (some false) else (laws_FnProperRuns.j3 k3 l1 t338 t350 t351))) else (some false))) else (none)) else (none)) = some r := by first | (rw [hji61] at H; exact H) | (simp only [hji61] at H ⊢; exact H)
                          have hji61w : (IntKind.i64.wrap ((t342.length : Int) - 1)) = ji61 := (i64_w _).trans hji61
                          by_cases c62 : 0 ≤ (ji61)
                          · rw [if_pos c62] at H
                            have c62b0 : decide (0 ≤ (ji61)) = true := decide_eq_true c62
                            clear c62
                            by_cases c63 : (ji61) < (t342.length : Int)
                            · rw [if_pos c63] at H
                              have c63b0 : decide ((ji61) < (t342.length : Int)) = true := decide_eq_true c63
                              clear c63
                              replace H := Option.bind_eq_some_iff.mp H
                              obtain ⟨⟨t366, t367⟩, A640, H⟩ := H
                              replace H : (if t367 = true then (if ((t338 == 0) != (t366 == 0)) = true then (some false) else (if ((t338 == 4) != (decide (t366 > 1000000000))) = true then (some false) else (laws_FnProperRuns.j3 k3 l1 t338 t350 t351))) else (some false)) = some r := H
                              have A64 := Aside0.mk A640
                              clear A640
                              by_cases c65 : t367 = true
                              · subst c65
                                have H1 : (if ((t338 == 0) != (t366 == 0)) = true then (some false) else (if ((t338 == 4) != (decide (t366 > 1000000000))) = true then (some false) else (laws_FnProperRuns.j3 k3 l1 t338 t350 t351))) = some r := by rw [if_pos rfl] at H; exact H
                                clear H
                                have H := H1
                                clear H1
                                by_cases c66 : ((t338 == 0) != (t366 == 0)) = true
                                · rw [if_pos c66] at H
                                  have c66b0 : ((t338 == 0) != (t366 == 0)) = true := c66
                                  (try (have c66b1 : decide ((t338 == 0) = (t366 == 0)) = false := by simpa using c66))
                                  (try (have c66b2 : ((t338 == 0) == (t366 == 0)) = false := by simpa using c66))
                                  (try (have c66b3 : ¬ ((t338 == 0) = (t366 == 0)) := by simpa using c66))
                                  clear c66
                                  exact absurd (Option.some.inj H) (by rw [HR_.out]; decide)
                                · rw [if_neg c66] at H
                                  have c66b0 : ((t338 == 0) != (t366 == 0)) = false := by simpa using c66
                                  (try (have c66b1 : decide ((t338 == 0) = (t366 == 0)) = true := by simpa using c66))
                                  (try (have c66b2 : ((t338 == 0) == (t366 == 0)) = true := by simpa using c66))
                                  clear c66
                                  by_cases c67 : ((t338 == 4) != (decide (t366 > 1000000000))) = true
                                  · rw [if_pos c67] at H
                                    have c67b0 : ((t338 == 4) != (decide (t366 > 1000000000))) = true := c67
                                    (try (have c67b1 : decide ((t338 == 4) = (decide (t366 > 1000000000))) = false := by simpa using c67))
                                    (try (have c67b2 : ((t338 == 4) == (decide (t366 > 1000000000))) = false := by simpa using c67))
                                    (try (have c67b3 : ¬ ((t338 == 4) = (decide (t366 > 1000000000))) := by simpa using c67))
                                    clear c67
                                    exact absurd (Option.some.inj H) (by rw [HR_.out]; decide)
                                  · rw [if_neg c67] at H
                                    have c67b0 : ((t338 == 4) != (decide (t366 > 1000000000))) = false := by simpa using c67
                                    (try (have c67b1 : decide ((t338 == 4) = (decide (t366 > 1000000000))) = true := by simpa using c67))
                                    (try (have c67b2 : ((t338 == 4) == (decide (t366 > 1000000000))) = true := by simpa using c67))
                                    clear c67
                                    as_aux_lemma =>
                                      have H' := Aside0.mk H
                                      clear H
                                      obtain ⟨Ao68, co68, eo68⟩ := Kd.R_slice HO_11.out
                                      subst eo68
                                      have p365 : 0 ≤ ((ji61) : Int) := of_decide_eq_true (by first | (with_reducible assumption) | assumption)
                                      have q365 : (ji61) < (t342.length : Int) := of_decide_eq_true (by first | (with_reducible assumption) | assumption)
                                      obtain ⟨ad365, e365, hx365_0⟩ := Kd.at_int (Kd.R_reads' HO_11.out).2.2 (ji61) p365 q365
                                      cases e365
                                      replace p365 := eq_true p365
                                      replace q365 := eq_true q365
                                      go_wp2_with (first | ((with_reducible refine gate_callee (f := 35) rfl ?_); refine goesL_ (some 173) rfl rfl Try.func35 (by kernel_rfl) rfl #[.int .i64 (rd t342 (ji61))] rfl (by (try simp only [List.map_toArray, List.map_cons, List.map_nil]); first | done | (simp only [hji61]; rfl) | rfl | (simp only [List.length_drop, List.length_take]; rfl)) ?_; (with_reducible refine (impl_ProperSum.calls k3 (rd t342 (ji61)) t366 true _ A64.out).mono ?_); rintro e w69 ⟨rfl, hb⟩; refine ⟨_, rfl, ?_⟩; have n0_ := Aside0.mk (Kd.R_below (by (with_reducible repeat (first | apply Kd.R_alloc | apply Kd.R_drewN | apply Kd.R_drew)); exact HO_11.out) hb); have n1_ := Aside0.mk (Kd.R_below (by (with_reducible repeat (first | apply Kd.R_alloc | apply Kd.R_drewN | apply Kd.R_drew)); exact HO_15.out) hb); have n2_ := Aside0.mk (below_step (by repeat (first | (with_reducible first | exact HB.out | apply below_alloc | apply pw_below_drewN | apply below_drew1) | exact HB.out)) hb); clear HO_11; clear HO_15; clear HB; have HO_11 := n0_; have HO_15 := n1_; have HB := n2_; clear n0_ n1_ n2_; (try clear hb); (try clear hb2); (try clear hk); (try clear hi)))
                                      go_meet
                                      case rel => exact ⟨_, H', ⟨by have := HJ11.out; have := HJ45.out; have := HK3.out; first | omega | exact Nat.le_refl _⟩, ⟨by (with_reducible repeat (first | apply Kd.R_alloc | apply Kd.R_drewN | apply Kd.R_drew)); exact Kd.R_mono HO_15.out (fun _ hk => trivial)⟩, ⟨by repeat (first | (with_reducible first | exact HB.out | apply below_alloc | apply pw_below_drewN | apply below_drew1) | exact HB.out)⟩⟩
                              · replace c65 := Bool.eq_false_iff.mpr c65
                                subst c65
                                have H1 : (some false) = some r := by rw [if_neg (show ¬ (false = true) by decide)] at H; exact H
                                clear H
                                have H := H1
                                clear H1
                                exact absurd (Option.some.inj H) (by rw [HR_.out]; decide)
                            · rw [if_neg c63] at H
                              exact absurd H (by simp)
                          · rw [if_neg c62] at H
                            exact absurd H (by simp)
            · replace c45 := Bool.eq_false_iff.mpr c45
              subst c45
              have H1 : (laws_FnProperRuns.j3 kj11 l1 t338 t350 t351) = some r := by rw [if_neg (show ¬ (false = true) by decide)] at H; exact H
              clear H
              have H := H1
              clear H1
              as_aux_lemma =>
                have H' := Aside0.mk H
                clear H
                go_wp2
                go_meet
                case rel => exact ⟨_, H', ⟨by have := HJ11.out; first | omega | exact Nat.le_refl _⟩, ⟨by (with_reducible repeat (first | apply Kd.R_alloc | apply Kd.R_drewN | apply Kd.R_drew)); exact Kd.R_mono HO_15.out (fun _ hk => trivial)⟩, ⟨by repeat (first | (with_reducible first | exact HB.out | apply below_alloc | apply pw_below_drewN | apply below_drew1) | exact HB.out)⟩⟩
          case rest =>
            as_aux_lemma =>
            clear HC44
            try clear c1
            try clear c2
            try clear p2
            try clear c3
            try clear p3
            try clear q3
            try clear hx3
            try clear qi3
            try clear c4
            try clear c5
            try clear c6
            try clear p6
            try clear c15
            try clear c20
            try clear c20b0
            try clear c20b1
            try clear c20b2
            try clear c21
            try clear c21b0
            try clear c21b1
            try clear c22
            try clear c22b0
            try clear c22b1
            try clear c22b2
            try clear c24
            try clear c25
            try clear c25b0
            try clear c25b1
            try clear c25b2
            try clear c27
            try clear c28
            try clear c28b0
            try clear c28b1
            try clear c28b2
            try clear c29
            try clear c30
            try clear c30b0
            try clear c35
            try clear p36
            try clear q36
            try clear hx36
            try clear qi36
            try clear c43
            try clear c45
            try clear c47
            try clear c47b0
            try clear c47b1
            try clear c48
            try clear c48b0
            try clear c48b1
            try clear c49
            try clear c50
            try clear c51
            try clear c51b0
            try clear c52
            try clear c53
            try clear c53b0
            try clear c54
            try clear c54b0
            try clear c56
            try clear c57
            try clear c57b0
            try clear c58
            try clear c58b0
            try clear c58b1
            try clear c62
            try clear c62b0
            try clear c63
            try clear c63b0
            try clear p64
            try clear c65
            try clear c66
            try clear c66b0
            try clear c66b1
            try clear c66b2
            try clear c67
            try clear c67b0
            try clear c67b1
            try clear c67b2
            try clear hx360_0
            try clear hx361_0
            try clear hx364_0
            try clear hx365_0
            try clear p2
            try clear p3
            try clear p36
            try clear p360
            try clear p361
            try clear p364
            try clear p365
            try clear q3
            try clear q36
            try clear q360
            try clear q361
            try clear q364
            try clear q365
            obtain ⟨kq, HA, HJ43, HO_15, HB⟩ := hcut
            cases kq with
            | zero => exact absurd HA.out (by simp [laws_FnProperRuns.j3])
            | succ kj43 =>
              have H := HA.out
              clear HA
              simp only [laws_FnProperRuns.j3] at H
              have HC70 := Aside0.mk H
              clear H
              go_upto_if 192 with (fail)
              go_cut [] (fun wc => ∃ (kq : Nat), Aside0 (laws_FnProperRuns.j6 kq l1 = some r) ∧ Aside0 (kq ≤ kj43) ∧ Aside0 (Below w.heap.size w wc))
              case first =>
                as_aux_lemma =>
                have H := HC70.out
                clear HC70
                by_cases c71 : t351 = true
                · subst c71
                  have H1 : (laws_FnProperRuns.l1 kj43 l1 t338 t350 t350 (t350.length : Int) 0) = some r := by rw [if_pos rfl] at H; exact H
                  clear H
                  have H := H1
                  clear H1
                  have H' := Aside0.mk H
                  clear H
                  obtain ⟨Ao72, co72, eo72⟩ := Kd.R_slice HO_15.out
                  subst eo72
                  go_wp2
                  go_loopg [195] kj43 (fun kq v195 w' => ∃ (x195_3 : Int), v195 = .int .i64 x195_3 ∧ Aside0 (laws_FnProperRuns.l1 kq l1 t338 t350 t350 (t350.length : Int) x195_3 = some r) ∧ Aside0 (kq ≤ kj43) ∧ Aside0 (Kd.R (Kd.int .i64) 3 w' w.heap.size (fun _ => True) (.slice Ao72 t350.length co72) t350) ∧ Aside0 (Kd.R (Kd.int .i64) 3 w' w.heap.size (fun _ => True) (.slice Ao72 t350.length co72) t350) ∧ Aside0 (Below w.heap.size w w'))
                  case atStart => exact ⟨(0), (by first | rfl | (simp; done) | (simp [*]; done)), H', ⟨Nat.le_refl _⟩, ⟨by (with_reducible repeat (first | apply Kd.R_alloc | apply Kd.R_drewN | apply Kd.R_drew)); exact HO_15.out⟩, ⟨by (with_reducible repeat (first | apply Kd.R_alloc | apply Kd.R_drewN | apply Kd.R_drew)); exact HO_15.out⟩, ⟨by repeat (first | (with_reducible first | exact HB.out | apply below_alloc | apply pw_below_drewN | apply below_drew1) | exact HB.out)⟩⟩
                  case round =>
                    as_aux_lemma =>
                    clear H'
                    try clear c1
                    try clear c2
                    try clear p2
                    try clear c3
                    try clear p3
                    try clear q3
                    try clear hx3
                    try clear qi3
                    try clear c4
                    try clear c5
                    try clear c6
                    try clear p6
                    try clear c7
                    try clear c15
                    try clear c20
                    try clear c20b0
                    try clear c20b1
                    try clear c20b2
                    try clear c21
                    try clear c21b0
                    try clear c21b1
                    try clear c22
                    try clear c22b0
                    try clear c22b1
                    try clear c22b2
                    try clear c24
                    try clear c25
                    try clear c25b0
                    try clear c25b1
                    try clear c25b2
                    try clear c27
                    try clear c28
                    try clear c28b0
                    try clear c28b1
                    try clear c28b2
                    try clear c29
                    try clear c30
                    try clear c30b0
                    try clear c35
                    try clear p36
                    try clear q36
                    try clear hx36
                    try clear qi36
                    try clear c43
                    try clear c45
                    try clear c47
                    try clear c47b0
                    try clear c47b1
                    try clear c48
                    try clear c48b0
                    try clear c48b1
                    try clear c49
                    try clear c50
                    try clear c51
                    try clear c51b0
                    try clear c52
                    try clear c53
                    try clear c53b0
                    try clear c54
                    try clear c54b0
                    try clear c56
                    try clear c57
                    try clear c57b0
                    try clear c58
                    try clear c58b0
                    try clear c58b1
                    try clear c62
                    try clear c62b0
                    try clear c63
                    try clear c63b0
                    try clear p64
                    try clear c65
                    try clear c66
                    try clear c66b0
                    try clear c66b1
                    try clear c66b2
                    try clear c67
                    try clear c67b0
                    try clear c67b1
                    try clear c67b2
                    try clear c71
                    try clear hx360_0
                    try clear hx361_0
                    try clear hx364_0
                    try clear hx365_0
                    try clear p2
                    try clear p3
                    try clear p36
                    try clear p360
                    try clear p361
                    try clear p364
                    try clear p365
                    try clear p6
                    try clear p64
                    try clear q3
                    try clear q36
                    try clear q360
                    try clear q361
                    try clear q364
                    try clear q365
                    obtain ⟨x195_3, rfl, HA, HK3, HO_15, HO_193, HB⟩ := hrel
                    cases gk with
                    | zero => exact absurd HA.out (by simp [laws_FnProperRuns.l1])
                    | succ k3 =>
                      have H := HA.out
                      clear HA
                      simp only [laws_FnProperRuns.l1] at H
                      by_cases c73 : x195_3 < (t350.length : Int)
                      · rw [if_pos c73] at H
                        have c73b0 : decide (x195_3 < (t350.length : Int)) = true := decide_eq_true c73
                        clear c73
                        (first | rw [c73b0] | (simp only [i64_w, i32_w]; rw [c73b0]) | skip)
                        by_cases c74 : 0 ≤ x195_3
                        · rw [if_pos c74] at H
                          have c74b0 : decide (0 ≤ x195_3) = true := decide_eq_true c74
                          clear c74
                          by_cases c75 : x195_3 < (t350.length : Int)
                          · rw [if_pos c75] at H
                            have c75b0 : decide (x195_3 < (t350.length : Int)) = true := decide_eq_true c75
                            clear c75
                            replace H := Option.bind_eq_some_iff.mp H
                            obtain ⟨⟨t369, t370⟩, A760, H⟩ := H
                            replace H : (if t370 = true then (if (t350.length : Int) = 0 then (none) else (if 0 ≤ (Int.tmod (wrap64 (x195_3 + 1)) (t350.length : Int)) then (if (Int.tmod (wrap64 (x195_3 + 1)) (t350.length : Int)) < (t350.length : Int) then (if t369 = (rd t350 (Int.tmod (wrap64 (x195_3 + 1)) (t350.length : Int))) then (if 0 < (t350.length : Int) then (if (rd t350 x195_3) < (rd t350 0) then (some false) else (laws_FnProperRuns.l1 k3 l1 t338 t350 t350 (t350.length : Int) (wrap64 (x195_3 + 1)))) else (none)) else (some false)) else (none)) else (none))) else (some false)) = some r := H
                            have A76 := Aside0.mk A760
                            clear A760
                            by_cases c77 : t370 = true
                            · subst c77
                              have H1 : (if (t350.length : Int) = 0 then (none) else (if 0 ≤ (Int.tmod (wrap64 (x195_3 + 1)) (t350.length : Int)) then (if (Int.tmod (wrap64 (x195_3 + 1)) (t350.length : Int)) < (t350.length : Int) then (if t369 = (rd t350 (Int.tmod (wrap64 (x195_3 + 1)) (t350.length : Int))) then (if 0 < (t350.length : Int) then (if (rd t350 x195_3) < (rd t350 0) then (some false) else (laws_FnProperRuns.l1 k3 l1 t338 t350 t350 (t350.length : Int) (wrap64 (x195_3 + 1)))) else (none)) else (some false)) else (none)) else (none))) = some r := by rw [if_pos rfl] at H; exact H
                              clear H
                              have H := H1
                              clear H1
                              by_cases c78 : (t350.length : Int) = 0
                              · rw [if_pos c78] at H
                                exact absurd H (by simp)
                              · rw [if_neg c78] at H
                                have c78b0 : ((t350.length : Int) == 0) = false := beq_eq_false_iff_ne.mpr c78
                                have c78b1 : ((t350.length : Int) != 0) = true := bne_iff_ne.mpr c78
                                have c78b2 : ¬ (t350 = []) := fun h_ => c78 (by rw [h_]; rfl)
                                obtain ⟨ji79, hji79⟩ : ∃ j_ : Int, (Int.tmod (wrap64 (x195_3 + 1)) (t350.length : Int)) = j_ := ⟨_, rfl⟩
                                replace H : (if 0 ≤ (ji79) then (if (ji79) < (t350.length : Int) then (if t369 = (rd t350 (ji79)) then (if 0 < (t350.length : Int) then (if (rd t350 x195_3) < (rd t350 0) then (some false) else (laws_FnProperRuns.l1 k3 l1 t338 t350 t350 (t350.length : Int) (wrap64 (x195_3 + 1)))) else (none)) else (some false)) else (none)) else (none)) = some r := by first | (rw [hji79] at H; exact H) | (simp only [hji79] at H ⊢; exact H)
                                (try rw [hji79] at A76)
                                by_cases c80 : 0 ≤ (ji79)
                                · rw [if_pos c80] at H
                                  have c80b0 : decide (0 ≤ (ji79)) = true := decide_eq_true c80
                                  clear c80
                                  by_cases c81 : (ji79) < (t350.length : Int)
                                  · rw [if_pos c81] at H
                                    have c81b0 : decide ((ji79) < (t350.length : Int)) = true := decide_eq_true c81
                                    clear c81
                                    by_cases c82 : t369 = (rd t350 (ji79))
                                    · rw [if_pos c82] at H
                                      have c82b0 : (t369 == (rd t350 (ji79))) = true := beq_iff_eq.mpr c82
                                      have c82b1 : (t369 != (rd t350 (ji79))) = false := bne_eq_false_iff_eq.mpr c82
                                      clear c82
                                      by_cases c83 : 0 < (t350.length : Int)
                                      · rw [if_pos c83] at H
                                        have c83b0 : decide (0 < (t350.length : Int)) = true := decide_eq_true c83
                                        have c83b1 : decide (0 < t350.length) = true := decide_eq_true (by omega)
                                        clear c83
                                        by_cases c84 : (rd t350 x195_3) < (rd t350 0)
                                        · rw [if_pos c84] at H
                                          have c84b0 : decide ((rd t350 x195_3) < (rd t350 0)) = true := decide_eq_true c84
                                          clear c84
                                          exact absurd (Option.some.inj H) (by rw [HR_.out]; decide)
                                        · rw [if_neg c84] at H
                                          have c84b0 : decide ((rd t350 x195_3) < (rd t350 0)) = false := decide_eq_false c84
                                          clear c84
                                          as_aux_lemma =>
                                            have H' := Aside0.mk H
                                            clear H
                                            have p368 : 0 ≤ (x195_3 : Int) := of_decide_eq_true (by first | (with_reducible assumption) | assumption)
                                            have q368 : x195_3 < (t350.length : Int) := of_decide_eq_true (by first | (with_reducible assumption) | assumption)
                                            obtain ⟨ad368, e368, hx368_0⟩ := Kd.at_int (Kd.R_reads' HO_193.out).2.2 x195_3 p368 q368
                                            cases e368
                                            replace p368 := eq_true p368
                                            replace q368 := eq_true q368
                                            go_wp2_with (first | ((with_reducible refine gate_callee (f := 35) rfl ?_); refine goesL_ (some 202) rfl rfl Try.func35 (by kernel_rfl) rfl #[.int .i64 (rd t350 x195_3)] rfl (by (try simp only [List.map_toArray, List.map_cons, List.map_nil]); first | done | rfl | (simp only [List.length_drop, List.length_take]; rfl)) ?_; (with_reducible refine (impl_ProperSum.calls k3 (rd t350 x195_3) t369 true _ A76.out).mono ?_); rintro e w85 ⟨rfl, hb⟩; refine ⟨_, rfl, ?_⟩; have n0_ := Aside0.mk (Kd.R_below (by (with_reducible repeat (first | apply Kd.R_alloc | apply Kd.R_drewN | apply Kd.R_drew)); exact HO_15.out) hb); have n1_ := Aside0.mk (Kd.R_below (by (with_reducible repeat (first | apply Kd.R_alloc | apply Kd.R_drewN | apply Kd.R_drew)); exact HO_193.out) hb); have n2_ := Aside0.mk (below_step (by repeat (first | (with_reducible first | exact HB.out | apply below_alloc | apply pw_below_drewN | apply below_drew1) | exact HB.out)) hb); clear HO_15; clear HO_193; clear HB; have HO_15 := n0_; have HO_193 := n1_; have HB := n2_; clear n0_ n1_ n2_; (try clear hb); (try clear hb2); (try clear hk); (try clear hi); have p371 : 0 ≤ ((ji79) : Int) := of_decide_eq_true (by first | (with_reducible assumption) | assumption); have q371 : (ji79) < (t350.length : Int) := of_decide_eq_true (by first | (with_reducible assumption) | assumption); obtain ⟨ad371, e371, hx371_0⟩ := Kd.at_int (Kd.R_reads' HO_15.out).2.2 (ji79) p371 q371; obtain rfl : ad368 = ad371 := (by injection e371); replace p371 := eq_true p371; replace q371 := eq_true q371; have p372 : 0 ≤ (0 : Int) := (by omega); have q372 : 0 < (t350.length : Int) := of_decide_eq_true (by first | (with_reducible assumption) | assumption); obtain ⟨ad372, e372, hx372_0⟩ := Kd.at_int (Kd.R_reads' HO_15.out).2.2 0 p372 q372; obtain rfl : ad368 = ad372 := (by injection e372); have qi372 : (0 < t350.length) = True := eq_true (by omega); (try rw [show ((0 : Int)).toNat = 0 from rfl] at hx372_0); (try rw [Addr.add_zero'] at hx372_0); replace p372 := eq_true p372; replace q372 := eq_true q372))
                                            go_roundg k3
                                            case measure => have := HJ11.out; have := HJ43.out; have := HK3.out; omega
                                            case rel => exact ⟨(wrap64 (x195_3 + 1)), (by first | rfl | (simp; done) | (simp [*]; done)), H', ⟨by have := HJ11.out; have := HJ43.out; have := HK3.out; omega⟩, ⟨by (with_reducible repeat (first | apply Kd.R_alloc | apply Kd.R_drewN | apply Kd.R_drew)); exact HO_15.out⟩, ⟨by (with_reducible repeat (first | apply Kd.R_alloc | apply Kd.R_drewN | apply Kd.R_drew)); exact HO_193.out⟩, ⟨by repeat (first | (with_reducible first | exact HB.out | apply below_alloc | apply pw_below_drewN | apply below_drew1) | exact HB.out)⟩⟩
                                      · rw [if_neg c83] at H
                                        exact absurd H (by simp)
                                    · rw [if_neg c82] at H
                                      have c82b0 : (t369 == (rd t350 (ji79))) = false := beq_eq_false_iff_ne.mpr c82
                                      have c82b1 : (t369 != (rd t350 (ji79))) = true := bne_iff_ne.mpr c82
                                      exact absurd (Option.some.inj H) (by rw [HR_.out]; decide)
                                  · rw [if_neg c81] at H
                                    exact absurd H (by simp)
                                · rw [if_neg c80] at H
                                  exact absurd H (by simp)
                            · replace c77 := Bool.eq_false_iff.mpr c77
                              subst c77
                              have H1 : (some false) = some r := by rw [if_neg (show ¬ (false = true) by decide)] at H; exact H
                              clear H
                              have H := H1
                              clear H1
                              exact absurd (Option.some.inj H) (by rw [HR_.out]; decide)
                          · rw [if_neg c75] at H
                            exact absurd H (by simp)
                        · rw [if_neg c74] at H
                          exact absurd H (by simp)
                      · rw [if_neg c73] at H
                        have c73b0 : decide (x195_3 < (t350.length : Int)) = false := decide_eq_false c73
                        clear c73
                        (first | rw [c73b0] | (simp only [i64_w, i32_w]; rw [c73b0]) | skip)
                        by_cases c86 : 0 < (t350.length : Int)
                        · rw [if_pos c86] at H
                          have c86b0 : decide (0 < (t350.length : Int)) = true := decide_eq_true c86
                          have c86b1 : decide (0 < t350.length) = true := decide_eq_true (by omega)
                          clear c86
                          replace H := Option.bind_eq_some_iff.mp H
                          obtain ⟨⟨t374, t375⟩, A870, H⟩ := H
                          replace H : (if (t375 != ((t350.length : Int) == 2)) = true then (laws_FnProperRuns.j5 k3 l1 t338 t350 true) else (if t375 = true then (if 1 < (t350.length : Int) then (laws_FnProperRuns.j5 k3 l1 t338 t350 (t374 != (rd t350 1))) else (none)) else (laws_FnProperRuns.j5 k3 l1 t338 t350 false))) = some r := H
                          have A87 := Aside0.mk A870
                          clear A870
                          have HC88 := Aside0.mk H
                          clear H
                          have p373 : 0 ≤ (0 : Int) := (by omega)
                          have q373 : 0 < (t350.length : Int) := of_decide_eq_true (by first | (with_reducible assumption) | assumption)
                          obtain ⟨ad373, e373, hx373_0⟩ := Kd.at_int (Kd.R_reads' HO_15.out).2.2 0 p373 q373
                          cases e373
                          have qi373 : (0 < t350.length) = True := eq_true (by omega)
                          (try rw [show ((0 : Int)).toNat = 0 from rfl] at hx373_0)
                          (try rw [Addr.add_zero'] at hx373_0)
                          replace p373 := eq_true p373
                          replace q373 := eq_true q373
                          go_upto_region 33 with (first | ((with_reducible refine gate_callee (f := 20) rfl ?_); refine goesL_ (some 231) rfl rfl Try.func20 (by kernel_rfl) rfl #[.int .i64 (rd t350 0)] rfl (by (try simp only [List.map_toArray, List.map_cons, List.map_nil]); first | done | rfl | (simp only [List.length_drop, List.length_take]; rfl)) ?_; (with_reducible refine (impl_PartnerOf.calls k3 (rd t350 0) t374 t375 _ A87.out).mono ?_); rintro e w89 ⟨rfl, hb⟩; refine ⟨_, rfl, ?_⟩; have n0_ := Aside0.mk (Kd.R_below (by (with_reducible repeat (first | apply Kd.R_alloc | apply Kd.R_drewN | apply Kd.R_drew)); exact HO_15.out) hb); have n1_ := Aside0.mk (Kd.R_below (by (with_reducible repeat (first | apply Kd.R_alloc | apply Kd.R_drewN | apply Kd.R_drew)); exact HO_193.out) hb); have n2_ := Aside0.mk (below_step (by repeat (first | (with_reducible first | exact HB.out | apply below_alloc | apply pw_below_drewN | apply below_drew1) | exact HB.out)) hb); clear HO_15; clear HO_193; clear HB; have HO_15 := n0_; have HO_193 := n1_; have HB := n2_; clear n0_ n1_ n2_; (try clear hb); (try clear hb2); (try clear hk); (try clear hi)))
                          (try simp only [Act.put, List.setIfInBounds_toArray, List.set_cons_zero, List.set_cons_succ])
                          go_cut [248] (fun v248 wc => ∃ (kq : Nat) (x248_87 : Bool), v248 = .bool x248_87 ∧ Aside0 (laws_FnProperRuns.j5 kq l1 t338 t350 x248_87 = some r) ∧ Aside0 (kq ≤ k3) ∧ Aside0 (Kd.R (Kd.int .i64) 3 wc w.heap.size (fun _ => True) (.slice (some ad373) t350.length co72) t350) ∧ Aside0 (Below w.heap.size w wc))
                          case first =>
                            as_aux_lemma =>
                            have H := HC88.out
                            clear HC88
                            by_cases c90 : (t375 != ((t350.length : Int) == 2)) = true
                            · rw [if_pos c90] at H
                              have c90b0 : (t375 != ((t350.length : Int) == 2)) = true := c90
                              (try (have c90b1 : decide (t375 = ((t350.length : Int) == 2)) = false := by simpa using c90))
                              (try (have c90b2 : (t375 == ((t350.length : Int) == 2)) = false := by simpa using c90))
                              (try (have c90b3 : ¬ (t375 = ((t350.length : Int) == 2)) := by simpa using c90))
                              clear c90
                              (first | rw [c90b0] | (simp only [i64_w, i32_w]; rw [c90b0]) | skip)
                              exact (laws_FnProperRuns.j5_no HR_.out _ _ _ _ H).elim
                            · rw [if_neg c90] at H
                              have c90b0 : (t375 != ((t350.length : Int) == 2)) = false := by simpa using c90
                              (try (have c90b1 : decide (t375 = ((t350.length : Int) == 2)) = true := by simpa using c90))
                              (try (have c90b2 : (t375 == ((t350.length : Int) == 2)) = true := by simpa using c90))
                              clear c90
                              (first | rw [c90b0] | (simp only [i64_w, i32_w]; rw [c90b0]) | skip)
                              by_cases c91 : t375 = true
                              · subst c91
                                have H1 : (if 1 < (t350.length : Int) then (laws_FnProperRuns.j5 k3 l1 t338 t350 (t374 != (rd t350 1))) else (none)) = some r := by rw [if_pos rfl] at H; exact H
                                clear H
                                have H := H1
                                clear H1
                                by_cases c92 : 1 < (t350.length : Int)
                                · rw [if_pos c92] at H
                                  have c92b0 : decide (1 < (t350.length : Int)) = true := decide_eq_true c92
                                  have c92b1 : decide (1 < t350.length) = true := decide_eq_true (by omega)
                                  clear c92
                                  as_aux_lemma =>
                                    have H' := Aside0.mk H
                                    clear H
                                    have p376 : 0 ≤ (1 : Int) := (by omega)
                                    have q376 : 1 < (t350.length : Int) := of_decide_eq_true (by first | (with_reducible assumption) | assumption)
                                    obtain ⟨ad376, e376, hx376_0⟩ := Kd.at_int (Kd.R_reads' HO_15.out).2.2 1 p376 q376
                                    obtain rfl : ad373 = ad376 := (by injection e376)
                                    (try simp only [show (1 : Int).toNat = 1 from rfl, Nat.reduceMul, Nat.reduceEqDiff, Go.Addr.add, ↓reduceIte] at hx376_0)
                                    have qi376 : (1 < t350.length) = True := eq_true (by omega)
                                    (try rw [show ((1 : Int)).toNat = 1 from rfl] at hx376_0)
                                    replace p376 := eq_true p376
                                    replace q376 := eq_true q376
                                    go_wp2
                                    go_meet
                                    case rel => exact ⟨_, ((t374 != (rd t350 1))), (by first | rfl | (simp; done) | (simp [*]; done)), H', ⟨by have := HJ11.out; have := HJ43.out; have := HK3.out; first | omega | exact Nat.le_refl _⟩, ⟨by (with_reducible repeat (first | apply Kd.R_alloc | apply Kd.R_drewN | apply Kd.R_drew)); exact HO_15.out⟩, ⟨by repeat (first | (with_reducible first | exact HB.out | apply below_alloc | apply pw_below_drewN | apply below_drew1) | exact HB.out)⟩⟩
                                · rw [if_neg c92] at H
                                  exact absurd H (by simp)
                              · replace c91 := Bool.eq_false_iff.mpr c91
                                subst c91
                                have H1 : (laws_FnProperRuns.j5 k3 l1 t338 t350 false) = some r := by rw [if_neg (show ¬ (false = true) by decide)] at H; exact H
                                clear H
                                have H := H1
                                clear H1
                                as_aux_lemma =>
                                  have H' := Aside0.mk H
                                  clear H
                                  go_wp2
                                  go_meet
                                  case rel => exact ⟨_, (false), (by first | rfl | (simp; done) | (simp [*]; done)), H', ⟨by have := HJ11.out; have := HJ43.out; have := HK3.out; first | omega | exact Nat.le_refl _⟩, ⟨by (with_reducible repeat (first | apply Kd.R_alloc | apply Kd.R_drewN | apply Kd.R_drew)); exact HO_15.out⟩, ⟨by repeat (first | (with_reducible first | exact HB.out | apply below_alloc | apply pw_below_drewN | apply below_drew1) | exact HB.out)⟩⟩
                          case rest =>
                            as_aux_lemma =>
                            clear HC88
                            try clear c1
                            try clear c2
                            try clear p2
                            try clear c3
                            try clear p3
                            try clear q3
                            try clear hx3
                            try clear qi3
                            try clear c4
                            try clear c5
                            try clear c6
                            try clear p6
                            try clear c7
                            try clear c8
                            try clear c9
                            try clear c15
                            try clear c20
                            try clear c20b0
                            try clear c20b1
                            try clear c20b2
                            try clear c21
                            try clear c21b0
                            try clear c21b1
                            try clear c22
                            try clear c22b0
                            try clear c22b1
                            try clear c22b2
                            try clear c24
                            try clear c25
                            try clear c25b0
                            try clear c25b1
                            try clear c25b2
                            try clear c27
                            try clear c28
                            try clear c28b0
                            try clear c28b1
                            try clear c28b2
                            try clear c29
                            try clear c30
                            try clear c30b0
                            try clear c35
                            try clear p36
                            try clear q36
                            try clear hx36
                            try clear qi36
                            try clear p37
                            try clear q37
                            try clear hx37
                            try clear qi37
                            try clear c43
                            try clear c45
                            try clear c47
                            try clear c47b0
                            try clear c47b1
                            try clear c48
                            try clear c48b0
                            try clear c48b1
                            try clear c49
                            try clear c50
                            try clear c51
                            try clear c51b0
                            try clear c52
                            try clear c53
                            try clear c53b0
                            try clear c54
                            try clear c54b0
                            try clear c56
                            try clear c57
                            try clear c57b0
                            try clear c58
                            try clear c58b0
                            try clear c58b1
                            try clear c62
                            try clear c62b0
                            try clear c63
                            try clear c63b0
                            try clear p64
                            try clear c65
                            try clear c66
                            try clear c66b0
                            try clear c66b1
                            try clear c66b2
                            try clear c67
                            try clear c67b0
                            try clear c67b1
                            try clear c67b2
                            try clear c71
                            try clear c73
                            try clear c73b0
                            try clear c74
                            try clear c74b0
                            try clear c75
                            try clear c75b0
                            try clear c77
                            try clear c78
                            try clear c78b0
                            try clear c78b1
                            try clear c78b2
                            try clear c80
                            try clear c80b0
                            try clear c81
                            try clear c81b0
                            try clear c82
                            try clear c82b0
                            try clear c82b1
                            try clear c83
                            try clear c83b0
                            try clear c83b1
                            try clear c84
                            try clear c84b0
                            try clear c86
                            try clear c86b0
                            try clear c86b1
                            try clear c90
                            try clear c90b0
                            try clear c90b1
                            try clear c90b2
                            try clear c91
                            try clear c92
                            try clear c92b0
                            try clear c92b1
                            try clear hx360_0
                            try clear hx361_0
                            try clear hx364_0
                            try clear hx365_0
                            try clear hx368_0
                            try clear hx371_0
                            try clear hx372_0
                            try clear hx373_0
                            try clear hx376_0
                            try clear p2
                            try clear p3
                            try clear p36
                            try clear p360
                            try clear p361
                            try clear p364
                            try clear p365
                            try clear p368
                            try clear p371
                            try clear p372
                            try clear p373
                            try clear p376
                            try clear p6
                            try clear p64
                            try clear q3
                            try clear q36
                            try clear q360
                            try clear q361
                            try clear q364
                            try clear q365
                            try clear q368
                            try clear q371
                            try clear q372
                            try clear q373
                            try clear q376
                            obtain ⟨kq, x248_87, rfl, HA, HJ87, HO_15, HB⟩ := hcut
                            cases kq with
                            | zero => exact absurd HA.out (by simp [laws_FnProperRuns.j5])
                            | succ kj87 =>
                              have H := HA.out
                              clear HA
                              simp only [laws_FnProperRuns.j5] at H
                              by_cases c93 : x248_87 = true
                              · subst c93
                                have H1 : (some false) = some r := by rw [if_pos rfl] at H; exact H
                                clear H
                                have H := H1
                                clear H1
                                exact absurd (Option.some.inj H) (by rw [HR_.out]; decide)
                              · replace c93 := Bool.eq_false_iff.mpr c93
                                subst c93
                                have H1 : (if ((t338 == 1) != ((t350.length : Int) == 1)) = true then (some false) else (if ((t338 == 2) != ((t350.length : Int) == 2)) = true then (some false) else (laws_FnProperRuns.j6 kj87 l1))) = some r := by rw [if_neg (show ¬ (false = true) by decide)] at H; exact H
                                clear H
                                have H := H1
                                clear H1
                                by_cases c94 : ((t338 == 1) != ((t350.length : Int) == 1)) = true
                                · rw [if_pos c94] at H
                                  have c94b0 : ((t338 == 1) != ((t350.length : Int) == 1)) = true := c94
                                  (try (have c94b1 : decide ((t338 == 1) = ((t350.length : Int) == 1)) = false := by simpa using c94))
                                  (try (have c94b2 : ((t338 == 1) == ((t350.length : Int) == 1)) = false := by simpa using c94))
                                  (try (have c94b3 : ¬ ((t338 == 1) = ((t350.length : Int) == 1)) := by simpa using c94))
                                  clear c94
                                  exact absurd (Option.some.inj H) (by rw [HR_.out]; decide)
                                · rw [if_neg c94] at H
                                  have c94b0 : ((t338 == 1) != ((t350.length : Int) == 1)) = false := by simpa using c94
                                  (try (have c94b1 : decide ((t338 == 1) = ((t350.length : Int) == 1)) = true := by simpa using c94))
                                  (try (have c94b2 : ((t338 == 1) == ((t350.length : Int) == 1)) = true := by simpa using c94))
                                  clear c94
                                  by_cases c95 : ((t338 == 2) != ((t350.length : Int) == 2)) = true
                                  · rw [if_pos c95] at H
                                    have c95b0 : ((t338 == 2) != ((t350.length : Int) == 2)) = true := c95
                                    (try (have c95b1 : decide ((t338 == 2) = ((t350.length : Int) == 2)) = false := by simpa using c95))
                                    (try (have c95b2 : ((t338 == 2) == ((t350.length : Int) == 2)) = false := by simpa using c95))
                                    (try (have c95b3 : ¬ ((t338 == 2) = ((t350.length : Int) == 2)) := by simpa using c95))
                                    clear c95
                                    exact absurd (Option.some.inj H) (by rw [HR_.out]; decide)
                                  · rw [if_neg c95] at H
                                    have c95b0 : ((t338 == 2) != ((t350.length : Int) == 2)) = false := by simpa using c95
                                    (try (have c95b1 : decide ((t338 == 2) = ((t350.length : Int) == 2)) = true := by simpa using c95))
                                    (try (have c95b2 : ((t338 == 2) == ((t350.length : Int) == 2)) = true := by simpa using c95))
                                    clear c95
                                    as_aux_lemma =>
                                      have H' := Aside0.mk H
                                      clear H
                                      go_wp2
                                      go_meet
                                      case rel => exact ⟨_, H', ⟨by have := HJ11.out; have := HJ43.out; have := HK3.out; have := HJ87.out; first | omega | exact Nat.le_refl _⟩, ⟨by repeat (first | (with_reducible first | exact HB.out | apply below_alloc | apply pw_below_drewN | apply below_drew1) | exact HB.out)⟩⟩
                        · rw [if_neg c86] at H
                          exact absurd H (by simp)
                · replace c71 := Bool.eq_false_iff.mpr c71
                  subst c71
                  have H1 : (laws_FnProperRuns.j6 kj43 l1) = some r := by rw [if_neg (show ¬ (false = true) by decide)] at H; exact H
                  clear H
                  have H := H1
                  clear H1
                  as_aux_lemma =>
                    have H' := Aside0.mk H
                    clear H
                    go_wp2
                    go_meet
                    case rel => exact ⟨_, H', ⟨by have := HJ11.out; have := HJ43.out; first | omega | exact Nat.le_refl _⟩, ⟨by repeat (first | (with_reducible first | exact HB.out | apply below_alloc | apply pw_below_drewN | apply below_drew1) | exact HB.out)⟩⟩
              case rest =>
                as_aux_lemma =>
                clear HC70
                try clear c1
                try clear c2
                try clear p2
                try clear c3
                try clear p3
                try clear q3
                try clear hx3
                try clear qi3
                try clear c4
                try clear c5
                try clear c6
                try clear p6
                try clear c7
                try clear c8
                try clear c9
                try clear c15
                try clear c20
                try clear c20b0
                try clear c20b1
                try clear c20b2
                try clear c21
                try clear c21b0
                try clear c21b1
                try clear c22
                try clear c22b0
                try clear c22b1
                try clear c22b2
                try clear c24
                try clear c25
                try clear c25b0
                try clear c25b1
                try clear c25b2
                try clear c27
                try clear c28
                try clear c28b0
                try clear c28b1
                try clear c28b2
                try clear c29
                try clear c30
                try clear c30b0
                try clear c35
                try clear p36
                try clear q36
                try clear hx36
                try clear qi36
                try clear p37
                try clear q37
                try clear hx37
                try clear qi37
                try clear c43
                try clear c45
                try clear c47
                try clear c47b0
                try clear c47b1
                try clear c48
                try clear c48b0
                try clear c48b1
                try clear c49
                try clear c50
                try clear c51
                try clear c51b0
                try clear c52
                try clear c53
                try clear c53b0
                try clear c54
                try clear c54b0
                try clear c56
                try clear c57
                try clear c57b0
                try clear c58
                try clear c58b0
                try clear c58b1
                try clear c62
                try clear c62b0
                try clear c63
                try clear c63b0
                try clear p64
                try clear c65
                try clear c66
                try clear c66b0
                try clear c66b1
                try clear c66b2
                try clear c67
                try clear c67b0
                try clear c67b1
                try clear c67b2
                try clear c71
                try clear c73
                try clear c73b0
                try clear c74
                try clear c74b0
                try clear c75
                try clear c75b0
                try clear c77
                try clear c78
                try clear c78b0
                try clear c78b1
                try clear c78b2
                try clear c80
                try clear c80b0
                try clear c81
                try clear c81b0
                try clear c82
                try clear c82b0
                try clear c82b1
                try clear c83
                try clear c83b0
                try clear c83b1
                try clear c84
                try clear c84b0
                try clear c86
                try clear c86b0
                try clear c86b1
                try clear c90
                try clear c90b0
                try clear c90b1
                try clear c90b2
                try clear c91
                try clear c92
                try clear c92b0
                try clear c92b1
                try clear c93
                try clear c94
                try clear c94b0
                try clear c94b1
                try clear c94b2
                try clear c95
                try clear c95b0
                try clear c95b1
                try clear c95b2
                try clear hx360_0
                try clear hx361_0
                try clear hx364_0
                try clear hx365_0
                try clear hx368_0
                try clear hx371_0
                try clear hx372_0
                try clear hx373_0
                try clear hx376_0
                try clear p2
                try clear p3
                try clear p36
                try clear p360
                try clear p361
                try clear p364
                try clear p365
                try clear p368
                try clear p37
                try clear p371
                try clear p372
                try clear p373
                try clear p376
                try clear p6
                try clear p64
                try clear q3
                try clear q36
                try clear q360
                try clear q361
                try clear q364
                try clear q365
                try clear q368
                try clear q37
                try clear q371
                try clear q372
                try clear q373
                try clear q376
                obtain ⟨kq, HA, HJ69, HB⟩ := hcut
                cases kq with
                | zero => exact absurd HA.out (by simp [laws_FnProperRuns.j6])
                | succ kj69 =>
                  have H := HA.out
                  clear HA
                  simp only [laws_FnProperRuns.j6] at H
                  replace H := Option.bind_eq_some_iff.mp H
                  obtain ⟨t377, A960, H⟩ := H
                  replace H : ((impl_PartnerOf.f kj69 t377).bind fun bt378 => ((spec_PartnerOf.f kj69 t377).bind fun bt380 => (if (bt378.2 != bt380.2) = true then (laws_FnProperRuns.j7 kj69 t377 bt378.1 bt378.2 true) else (laws_FnProperRuns.j7 kj69 t377 bt378.1 bt378.2 (bt378.1 != bt380.1))))) = some r := H
                  have A96 := Aside0.mk A960
                  clear A960
                  replace H := Option.bind_eq_some_iff.mp H
                  obtain ⟨⟨t378, t379⟩, A970, H⟩ := H
                  replace H : ((spec_PartnerOf.f kj69 t377).bind fun bt380 => (if (t379 != bt380.2) = true then (laws_FnProperRuns.j7 kj69 t377 t378 t379 true) else (laws_FnProperRuns.j7 kj69 t377 t378 t379 (t378 != bt380.1)))) = some r := H
                  have A97 := Aside0.mk A970
                  clear A970
                  replace H := Option.bind_eq_some_iff.mp H
                  obtain ⟨⟨t380, t381⟩, A980, H⟩ := H
                  replace H : (if (t379 != t381) = true then (laws_FnProperRuns.j7 kj69 t377 t378 t379 true) else (laws_FnProperRuns.j7 kj69 t377 t378 t379 (t378 != t380))) = some r := H
                  have A98 := Aside0.mk A980
                  clear A980
                  have HC99 := Aside0.mk H
                  clear H
                  go_upto_region 40 with (first | ((with_reducible refine gate_callee (f := 54) rfl ?_); refine goesL_ (some 264) rfl rfl Try.func54 (by kernel_rfl) rfl #[.slice A1 l1.length c1] rfl (by (try simp only [List.map_toArray, List.map_cons, List.map_nil]); first | done | rfl | (simp only [List.length_drop, List.length_take]; rfl)) ?_; (with_reducible refine (spec_DrawPartnerOf.calls kj69 _ _ l1 t377 _ ?side1 ?side2 A96.out).mono ?_); (case side1 => repeat (first | exact (Kd.C_below HR1.out HB.out) | (with_reducible refine Kd.C_alloc ?_ _) | (with_reducible refine Kd.C_drewN ?_ _) | (with_reducible refine Kd.C_drew ?_))); (case side2 => exact HC1.out); rintro e w100 ⟨rfl, hb⟩; refine ⟨_, rfl, ?_⟩; have n0_ := Aside0.mk (below_step (by repeat (first | (with_reducible first | exact HB.out | apply below_alloc | apply pw_below_drewN | apply below_drew1) | exact HB.out)) hb); clear HB; have HB := n0_; clear n0_; (try clear hb); (try clear hb2); (try clear hk); (try clear hi)) | ((with_reducible refine gate_callee (f := 20) rfl ?_); refine goesL_ (some 267) rfl rfl Try.func20 (by kernel_rfl) rfl #[.int .i64 t377] rfl (by (try simp only [List.map_toArray, List.map_cons, List.map_nil]); first | done | rfl | (simp only [List.length_drop, List.length_take]; rfl)) ?_; (with_reducible refine (impl_PartnerOf.calls kj69 t377 t378 t379 _ A97.out).mono ?_); rintro e w101 ⟨rfl, hb⟩; refine ⟨_, rfl, ?_⟩; have n0_ := Aside0.mk (below_step (by repeat (first | (with_reducible first | exact HB.out | apply below_alloc | apply pw_below_drewN | apply below_drew1) | exact HB.out)) hb); clear HB; have HB := n0_; clear n0_; (try clear hb); (try clear hb2); (try clear hk); (try clear hi)) | ((with_reducible refine gate_callee (f := 55) rfl ?_); refine goesL_ (some 272) rfl rfl Try.func55 (by kernel_rfl) rfl #[.int .i64 t377] rfl (by (try simp only [List.map_toArray, List.map_cons, List.map_nil]); first | done | rfl | (simp only [List.length_drop, List.length_take]; rfl)) ?_; (with_reducible refine (spec_PartnerOf.calls kj69 t377 t380 t381 _ A98.out).mono ?_); rintro e w102 ⟨rfl, hb⟩; refine ⟨_, rfl, ?_⟩; have n0_ := Aside0.mk (below_step (by repeat (first | (with_reducible first | exact HB.out | apply below_alloc | apply pw_below_drewN | apply below_drew1) | exact HB.out)) hb); clear HB; have HB := n0_; clear n0_; (try clear hb); (try clear hb2); (try clear hk); (try clear hi)))
                  (try simp only [Act.put, List.setIfInBounds_toArray, List.set_cons_zero, List.set_cons_succ])
                  go_cut [282] (fun v282 wc => ∃ (kq : Nat) (x282_98 : Bool), v282 = .bool x282_98 ∧ Aside0 (laws_FnProperRuns.j7 kq t377 t378 t379 x282_98 = some r) ∧ Aside0 (kq ≤ kj69) ∧ Aside0 (Below w.heap.size w wc))
                  case first =>
                    as_aux_lemma =>
                    have H := HC99.out
                    clear HC99
                    by_cases c103 : (t379 != t381) = true
                    · rw [if_pos c103] at H
                      have c103b0 : (t379 != t381) = true := c103
                      (try (have c103b1 : decide (t379 = t381) = false := by simpa using c103))
                      (try (have c103b2 : (t379 == t381) = false := by simpa using c103))
                      (try (have c103b3 : ¬ (t379 = t381) := by simpa using c103))
                      clear c103
                      (first | rw [c103b0] | (simp only [i64_w, i32_w]; rw [c103b0]) | skip)
                      exact (laws_FnProperRuns.j7_no HR_.out _ _ _ _ H).elim
                    · rw [if_neg c103] at H
                      have c103b0 : (t379 != t381) = false := by simpa using c103
                      (try (have c103b1 : decide (t379 = t381) = true := by simpa using c103))
                      (try (have c103b2 : (t379 == t381) = true := by simpa using c103))
                      clear c103
                      (first | rw [c103b0] | (simp only [i64_w, i32_w]; rw [c103b0]) | skip)
                      as_aux_lemma =>
                        have H' := Aside0.mk H
                        clear H
                        go_wp2
                        go_meet
                        case rel => exact ⟨_, ((t378 != t380)), (by first | rfl | (simp; done) | (simp [*]; done)), H', ⟨by have := HJ11.out; have := HJ43.out; have := HJ69.out; first | omega | exact Nat.le_refl _⟩, ⟨by repeat (first | (with_reducible first | exact HB.out | apply below_alloc | apply pw_below_drewN | apply below_drew1) | exact HB.out)⟩⟩
                  case rest =>
                    as_aux_lemma =>
                    clear HC99
                    try clear c1
                    try clear c2
                    try clear p2
                    try clear c3
                    try clear p3
                    try clear q3
                    try clear hx3
                    try clear qi3
                    try clear c4
                    try clear c5
                    try clear c6
                    try clear p6
                    try clear c7
                    try clear c8
                    try clear c9
                    try clear c10
                    try clear c15
                    try clear c20
                    try clear c20b0
                    try clear c20b1
                    try clear c20b2
                    try clear c21
                    try clear c21b0
                    try clear c21b1
                    try clear c22
                    try clear c22b0
                    try clear c22b1
                    try clear c22b2
                    try clear c24
                    try clear c25
                    try clear c25b0
                    try clear c25b1
                    try clear c25b2
                    try clear c27
                    try clear c28
                    try clear c28b0
                    try clear c28b1
                    try clear c28b2
                    try clear c29
                    try clear c30
                    try clear c30b0
                    try clear c35
                    try clear p36
                    try clear q36
                    try clear hx36
                    try clear qi36
                    try clear p37
                    try clear q37
                    try clear hx37
                    try clear qi37
                    try clear c43
                    try clear c45
                    try clear c47
                    try clear c47b0
                    try clear c47b1
                    try clear c48
                    try clear c48b0
                    try clear c48b1
                    try clear c49
                    try clear c50
                    try clear c51
                    try clear c51b0
                    try clear c52
                    try clear c53
                    try clear c53b0
                    try clear c54
                    try clear c54b0
                    try clear c55
                    try clear c56
                    try clear c57
                    try clear c57b0
                    try clear c58
                    try clear c58b0
                    try clear c58b1
                    try clear c62
                    try clear c62b0
                    try clear c63
                    try clear c63b0
                    try clear p64
                    try clear c65
                    try clear c66
                    try clear c66b0
                    try clear c66b1
                    try clear c66b2
                    try clear c67
                    try clear c67b0
                    try clear c67b1
                    try clear c67b2
                    try clear c71
                    try clear c73
                    try clear c73b0
                    try clear c74
                    try clear c74b0
                    try clear c75
                    try clear c75b0
                    try clear c77
                    try clear c78
                    try clear c78b0
                    try clear c78b1
                    try clear c78b2
                    try clear c80
                    try clear c80b0
                    try clear c81
                    try clear c81b0
                    try clear c82
                    try clear c82b0
                    try clear c82b1
                    try clear c83
                    try clear c83b0
                    try clear c83b1
                    try clear c84
                    try clear c84b0
                    try clear c86
                    try clear c86b0
                    try clear c86b1
                    try clear c90
                    try clear c90b0
                    try clear c90b1
                    try clear c90b2
                    try clear c91
                    try clear c92
                    try clear c92b0
                    try clear c92b1
                    try clear c93
                    try clear c94
                    try clear c94b0
                    try clear c94b1
                    try clear c94b2
                    try clear c95
                    try clear c95b0
                    try clear c95b1
                    try clear c95b2
                    try clear c103
                    try clear c103b0
                    try clear c103b1
                    try clear c103b2
                    try clear hx360_0
                    try clear hx361_0
                    try clear hx364_0
                    try clear hx365_0
                    try clear hx368_0
                    try clear hx371_0
                    try clear hx372_0
                    try clear hx373_0
                    try clear hx376_0
                    try clear p2
                    try clear p3
                    try clear p36
                    try clear p360
                    try clear p361
                    try clear p364
                    try clear p365
                    try clear p368
                    try clear p37
                    try clear p371
                    try clear p372
                    try clear p373
                    try clear p376
                    try clear p6
                    try clear p64
                    try clear q3
                    try clear q36
                    try clear q360
                    try clear q361
                    try clear q364
                    try clear q365
                    try clear q368
                    try clear q37
                    try clear q371
                    try clear q372
                    try clear q373
                    try clear q376
                    obtain ⟨kq, x282_98, rfl, HA, HJ98, HB⟩ := hcut
                    cases kq with
                    | zero => exact absurd HA.out (by simp [laws_FnProperRuns.j7])
                    | succ kj98 =>
                      have H := HA.out
                      clear HA
                      simp only [laws_FnProperRuns.j7] at H
                      by_cases c104 : x282_98 = true
                      · subst c104
                        have H1 : (some false) = some r := by rw [if_pos rfl] at H; exact H
                        clear H
                        have H := H1
                        clear H1
                        exact absurd (Option.some.inj H) (by rw [HR_.out]; decide)
                      · replace c104 := Bool.eq_false_iff.mpr c104
                        subst c104
                        have H1 : (if t379 = true then ((impl_PartnerOf.f kj98 t378).bind fun bt382 => (if bt382.2 = true then (if bt382.1 = t377 then (some (t378 != t377)) else (some false)) else (some false))) else (some true)) = some r := by rw [if_neg (show ¬ (false = true) by decide)] at H; exact H
                        clear H
                        have H := H1
                        clear H1
                        by_cases c105 : t379 = true
                        · subst c105
                          have H1 : ((impl_PartnerOf.f kj98 t378).bind fun bt382 => (if bt382.2 = true then (if bt382.1 = t377 then (some (t378 != t377)) else (some false)) else (some false))) = some r := by rw [if_pos rfl] at H; exact H
                          clear H
                          have H := H1
                          clear H1
                          replace H := Option.bind_eq_some_iff.mp H
                          obtain ⟨⟨t382, t383⟩, A1060, H⟩ := H
                          replace H : (if t383 = true then (if t382 = t377 then (some (t378 != t377)) else (some false)) else (some false)) = some r := H
                          have A106 := Aside0.mk A1060
                          clear A1060
                          by_cases c107 : t383 = true
                          · subst c107
                            have H1 : (if t382 = t377 then (some (t378 != t377)) else (some false)) = some r := by rw [if_pos rfl] at H; exact H
                            clear H
                            have H := H1
                            clear H1
                            by_cases c108 : t382 = t377
                            · rw [if_pos c108] at H
                              have c108b0 : (t382 == t377) = true := beq_iff_eq.mpr c108
                              have c108b1 : (t382 != t377) = false := bne_eq_false_iff_eq.mpr c108
                              clear c108
                              as_aux_lemma =>
                                obtain rfl := Option.some.inj H
                                go_wp2_with (first | ((with_reducible refine gate_callee (f := 20) rfl ?_); refine goesL_ (some 286) rfl rfl Try.func20 (by kernel_rfl) rfl #[.int .i64 t378] rfl (by (try simp only [List.map_toArray, List.map_cons, List.map_nil]); first | done | rfl | (simp only [List.length_drop, List.length_take]; rfl)) ?_; (with_reducible refine (impl_PartnerOf.calls kj98 t378 t382 true _ A106.out).mono ?_); rintro e w109 ⟨rfl, hb⟩; refine ⟨_, rfl, ?_⟩; have n0_ := Aside0.mk (below_step (by repeat (first | (with_reducible first | exact HB.out | apply below_alloc | apply pw_below_drewN | apply below_drew1) | exact HB.out)) hb); clear HB; have HB := n0_; clear n0_; (try clear hb); (try clear hb2); (try clear hk); (try clear hi)))
                                go_ret
                                exact ⟨by first | rfl | (simp [errW_none, errW_some] <;> rfl) | (simp [*, errW_none, errW_some] <;> rfl), by repeat (first | (with_reducible first | exact HB.out | apply below_alloc | apply pw_below_drewN | apply below_drew1) | exact HB.out)⟩
                            · rw [if_neg c108] at H
                              have c108b0 : (t382 == t377) = false := beq_eq_false_iff_ne.mpr c108
                              have c108b1 : (t382 != t377) = true := bne_iff_ne.mpr c108
                              exact absurd (Option.some.inj H) (by rw [HR_.out]; decide)
                          · replace c107 := Bool.eq_false_iff.mpr c107
                            subst c107
                            have H1 : (some false) = some r := by rw [if_neg (show ¬ (false = true) by decide)] at H; exact H
                            clear H
                            have H := H1
                            clear H1
                            exact absurd (Option.some.inj H) (by rw [HR_.out]; decide)
                        · replace c105 := Bool.eq_false_iff.mpr c105
                          subst c105
                          have H1 : (some true) = some r := by rw [if_neg (show ¬ (false = true) by decide)] at H; exact H
                          clear H
                          have H := H1
                          clear H1
                          as_aux_lemma =>
                            obtain rfl := Option.some.inj H
                            go_wp2
                            go_ret
                            exact ⟨by first | rfl | (simp [errW_none, errW_some] <;> rfl) | (simp [*, errW_none, errW_some] <;> rfl), by repeat (first | (with_reducible first | exact HB.out | apply below_alloc | apply pw_below_drewN | apply below_drew1) | exact HB.out)⟩

/-- THE ONE PURE STATEMENT of laws_FnProperRuns: yours. -/
def laws_FnProperRuns.Pure : Prop := ∀ (l0 : List Int) (l1 : List Int), l0.length ≤ maxLen → l0.length * 1 ≤ 140737488351232 → (∀ x ∈ l0, (Lit.int .u8 x).wf = true) → l1.length ≤ maxLen → l1.length * 1 ≤ 140737488351232 → (∀ x ∈ l1, (Lit.int .u8 x).wf = true) → ∃ k, laws_FnProperRuns.f k l0 l1 = some true
theorem laws_FnProperRuns.walk (P : laws_FnProperRuns.Pure) (a0 : Option Addr) (len0 cap0 : Nat) (z0 : List Int) (a1 : Option Addr) (len1 cap1 : Nat) (z1 : List Int) (w : World) (w0 : (a0 = none ∧ len0 = 0 ∧ cap0 = 0 ∧ z0 = []) ∨ ∃ x, a0 = some x ∧ len0 ≤ cap0 ∧ cap0 ≤ maxLen ∧ z0.length = cap0 ∧ (∀ i, i < z0.length → w.cell? (x.add i) = some (.int .u8 (z0.getD i 0))) ∧ ∀ n ∈ z0, (Lit.int .u8 n).wf = true) (y0 : len0 * 1 ≤ 140737488351232) (w1 : (a1 = none ∧ len1 = 0 ∧ cap1 = 0 ∧ z1 = []) ∨ ∃ x, a1 = some x ∧ len1 ≤ cap1 ∧ cap1 ≤ maxLen ∧ z1.length = cap1 ∧ (∀ i, i < z1.length → w.cell? (x.add i) = some (.int .u8 (z1.getD i 0))) ∧ ∀ n ∈ z1, (Lit.int .u8 n).wf = true) (y1 : len1 * 1 ≤ 140737488351232) :
    Calls Try.prog 5 #[.slice a0 len0 cap0, .slice a1 len1 cap1] w fun e w' => e = .returned (.bool true) ∧ Below w.heap.size w w' := by
  obtain ⟨l0, rfl, hr0, hm0, hw0, hc0⟩ := ReadsInt.ofRowC w0
  obtain ⟨l1, rfl, hr1, hm1, hw1, hc1⟩ := ReadsInt.ofRowC w1
  obtain ⟨k, h⟩ := P l0 l1 hm0 y0 hw0 hm1 y1 hw1
  refine (laws_FnProperRuns.calls k _ _ l0 _ _ l1 true w (Kd.C_of_reads (d := (0 : Int)) (h1 := fun _ => rfl) hr0) hc0 (Kd.C_of_reads (d := (0 : Int)) (h1 := fun _ => rfl) hr1) hc1 h rfl).mono ?_
  rintro e w' ⟨rfl, hd⟩
  exact ⟨rfl, hd⟩

end Go.Proofs.Ytiheocddlopfcaa.PFnProperRuns
