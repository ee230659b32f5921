-- out of the kit's print, turned by wip/own_print.py
import Derived.Test.YtiheocddlopfcaaPFnAddedBackwardsx0
import Derived.Test.YtiheocddlopfcaaPFnAddedBackwardsx1
import Derived.Test.YtiheocddlopfcaaPFnAddedBackwardsx3
import Derived.Test.YtiheocddlopfcaaPFnAddedBackwardsx4
import Derived.Test.YtiheocddlopfcaaPFnAddedBackwardsx6
import Derived.Test.YtiheocddlopfcaaPFnAddedBackwardsx7
import Derived.Test.YtiheocddlopfcaaPFnAddedBackwardsx8
import Derived.Test.YtiheocddlopfcaaPFnAddedBackwardsx9
namespace Go.Proofs.Ytiheocddlopfcaa.PFnAddedBackwards
open Go.RowKit Go.Proofs.YtiheocddlopfcaaW.PrintWords Go.Proofs.YtiheocddlopfcaaW.PrintLast Go.Proofs.YtiheocddlopfcaaW.PrintMore
attribute [local go_sem] max2_int min2_int max_two min_two max_three min_three max_four min_four   -- for this text's walks alone
set_option linter.unusedVariables false
set_option linter.unusedSimpArgs false

/-! ### laws_FnAddedBackwards: function 6 -/
mutual
def laws_FnAddedBackwards.j0 : Nat → List Int → List Int → Int → List Int → Bool → List Int → Bool → Bool → Bool → Option (Bool)
 | 0, _, _, _, _, _, _, _, _, _ => none
 | k + 1, x1, x5, x6, x7, x8, x11, x12, x15, x151 => if x151 = true then (some false) else (if x12 = true then (if (x11.length : Int) = (x5.length : Int) then ((laws_qSum.f k x11).bind fun t432 => (laws_FnAddedBackwards.j1 k x1 x5 x6 x7 x8 x11 x15 (x5.length : Int) (x15 != (t432 == 0)))) else (laws_FnAddedBackwards.j1 k x1 x5 x6 x7 x8 x11 x15 (x5.length : Int) true)) else (laws_FnAddedBackwards.j4 k x1))
def laws_FnAddedBackwards.j4 : Nat → List Int → Option (Bool)
 | 0, _ => none
 | k + 1, x1 => (spec_DrawIsSymmetric.f k x1).bind fun bt450 => ((impl_IsSymmetric.f k bt450.1 bt450.2).bind fun bt454 => ((spec_IsSymmetric.f k bt450.1 bt450.2).bind fun bt456 => (if (bt454.2 != bt456.2) = true then (laws_FnAddedBackwards.j5 k bt450.1 bt454.1 bt454.2 true) else (laws_FnAddedBackwards.j5 k bt450.1 bt454.1 bt454.2 (bt454.1 != bt456.1)))))
def laws_FnAddedBackwards.j5 : Nat → List Int → Bool → Bool → Bool → Option (Bool)
 | 0, _, _, _, _ => none
 | k + 1, x32, x34, x35, x280 => if x280 = true then (some false) else (if x35 = true then ((laws_qBack.f k x32).bind fun t458 => ((laws_qSame.f k x32 t458).bind fun t461 => (some (x34 == t461)))) else (some true))
def laws_FnAddedBackwards.j1 : Nat → List Int → List Int → Int → List Int → Bool → List Int → Bool → Int → Bool → Option (Bool)
 | 0, _, _, _, _, _, _, _, _, _ => none
 | k + 1, x1, x5, x6, x7, x8, x11, x15, x23, x165 => if x165 = true then (some false) else ((laws_qBack.f k x5).bind fun t433 => (if x8 = true then (if 0 ≤ (wrap64 (x23 - 1)) then (if (wrap64 (x23 - 1)) < (x11.length : Int) then (if (x7.length : Int) = (wrap64 (x23 + (rd x11 (wrap64 (x23 - 1))))) then (laws_FnAddedBackwards.l0 k x1 x5 x6 x7 x11 x15 x23 t433 (rd x11 (wrap64 (x23 - 1))) 0 (wrap64 (x23 - 1))) else (some false)) else (none)) else (none)) else (laws_FnAddedBackwards.j4 k x1)))
def laws_FnAddedBackwards.l0 : Nat → List Int → List Int → Int → List Int → List Int → Bool → Int → List Int → Int → Int → Int → Option (Bool)
 | 0, _, _, _, _, _, _, _, _, _, _, _ => none
 | k + 1, x1, x5, x6, x7, x11, x15, x23, x24, x25, x26, x27 => if x27 ≥ 0 then (if 0 ≤ x27 then (if x27 < (x5.length : Int) then (if x27 < (x24.length : Int) then (if 0 ≤ (wrap64 (x25 + x27)) then (if (wrap64 (x25 + x27)) < (x7.length : Int) then (if 0 ≤ (wrap64 ((wrap64 (x23 - 1)) - x27)) then (if (wrap64 ((wrap64 (x23 - 1)) - x27)) < (x11.length : Int) then (if (wrap64 ((wrap64 ((rd x5 x27) + (rd x24 x27))) + x26)) = (wrap64 ((rd x7 (wrap64 (x25 + x27))) + (wrap64 (x6 * (rd x11 (wrap64 ((wrap64 (x23 - 1)) - x27))))))) then (laws_FnAddedBackwards.l0 k x1 x5 x6 x7 x11 x15 x23 x24 x25 (rd x11 (wrap64 ((wrap64 (x23 - 1)) - x27))) (wrap64 (x27 - 1))) else (some false)) else (none)) else (none)) else (none)) else (none)) else (none)) else (none)) else (none)) else ((impl_IsSymmetric.f k x7 x6).bind fun bt442 => (if bt442.2 = true then (if x15 = true then (laws_FnAddedBackwards.j3 k x1 x5 x6 x7 x23 x24 (!bt442.1)) else (laws_FnAddedBackwards.j3 k x1 x5 x6 x7 x23 x24 false)) else (laws_FnAddedBackwards.j3 k x1 x5 x6 x7 x23 x24 true)))
def laws_FnAddedBackwards.j3 : Nat → List Int → List Int → Int → List Int → Int → List Int → Bool → Option (Bool)
 | 0, _, _, _, _, _, _, _ => none
 | k + 1, x1, x5, x6, x7, x23, x24, x235 => if x235 = true then (some false) else (if 0 ≤ (wrap64 (x23 - 1)) then (if (wrap64 (x23 - 1)) < (x5.length : Int) then (if (rd x5 (wrap64 (x23 - 1))) > 0 then ((impl_AddReversed.f k x24 x6).bind fun bt445 => (if bt445.2 = true then ((laws_qSame.f k bt445.1 x7).bind fun t449 => (if t449 = true then (laws_FnAddedBackwards.j4 k x1) else (some false))) else (some false))) else (laws_FnAddedBackwards.j4 k x1)) else (none)) else (none))
end
def laws_FnAddedBackwards.f (k : Nat) (l0 : List Int) (l1 : List Int) : Option (Bool) := (laws_big.f l0 l1).bind fun t396 => (if t396 = true then (some true) else ((spec_DrawAddReversed.f k l0).bind fun bt397 => ((impl_AddReversed.f k bt397.1 bt397.2).bind fun bt401 => ((spec_AddReversed.f k bt397.1 bt397.2).bind fun bt405 => ((impl_CarriesOf.f k bt397.1 bt397.2).bind fun bt409 => ((spec_CarriesOf.f k bt397.1 bt397.2).bind fun bt413 => ((impl_HasNoCarry.f k bt397.1 bt397.2).bind fun bt417 => ((spec_HasNoCarry.f k bt397.1 bt397.2).bind fun bt419 => ((impl_SubtractReversed.f k bt397.1 bt397.2).bind fun bt421 => ((spec_SubtractReversed.f k bt397.1 bt397.2).bind fun bt425 => (if (bt401.2 != bt405.2) = true then (laws_FnAddedBackwards.j0 k l1 bt397.1 bt397.2 bt401.1 bt401.2 bt409.1 bt409.2 bt417.1 true) else ((laws_qSame.f k bt401.1 bt405.1).bind fun t429 => (if t429 = true then (if (bt409.2 != bt413.2) = true then (laws_FnAddedBackwards.j0 k l1 bt397.1 bt397.2 bt401.1 bt401.2 bt409.1 bt409.2 bt417.1 true) else ((laws_qSame.f k bt409.1 bt413.1).bind fun t430 => (if t430 = true then (if (bt417.2 != bt419.2) = true then (laws_FnAddedBackwards.j0 k l1 bt397.1 bt397.2 bt401.1 bt401.2 bt409.1 bt409.2 bt417.1 true) else (if (bt417.1 != bt419.1) = true then (laws_FnAddedBackwards.j0 k l1 bt397.1 bt397.2 bt401.1 bt401.2 bt409.1 bt409.2 bt417.1 true) else (if (bt421.2 != bt425.2) = true then (laws_FnAddedBackwards.j0 k l1 bt397.1 bt397.2 bt401.1 bt401.2 bt409.1 bt409.2 bt417.1 true) else ((laws_qSame.f k bt421.1 bt425.1).bind fun t431 => (if t431 = true then (if (bt417.2 != bt409.2) = true then (laws_FnAddedBackwards.j0 k l1 bt397.1 bt397.2 bt401.1 bt401.2 bt409.1 bt409.2 bt417.1 true) else (if (bt421.2 != bt409.2) = true then (laws_FnAddedBackwards.j0 k l1 bt397.1 bt397.2 bt401.1 bt401.2 bt409.1 bt409.2 bt417.1 true) else (if bt401.2 = true then (laws_FnAddedBackwards.j0 k l1 bt397.1 bt397.2 bt401.1 bt401.2 bt409.1 bt409.2 bt417.1 (!bt409.2)) else (laws_FnAddedBackwards.j0 k l1 bt397.1 bt397.2 bt401.1 bt401.2 bt409.1 bt409.2 bt417.1 false)))) else (laws_FnAddedBackwards.j0 k l1 bt397.1 bt397.2 bt401.1 bt401.2 bt409.1 bt409.2 bt417.1 true)))))) else (laws_FnAddedBackwards.j0 k l1 bt397.1 bt397.2 bt401.1 bt401.2 bt409.1 bt409.2 bt417.1 true)))) else (laws_FnAddedBackwards.j0 k l1 bt397.1 bt397.2 bt401.1 bt401.2 bt409.1 bt409.2 bt417.1 true))))))))))))))
theorem laws_FnAddedBackwards.mono_l : ∀ k, (∀ y0 y1 y2 y3 y4 y5 y6 y7 y8, LeO (laws_FnAddedBackwards.j0 k y0 y1 y2 y3 y4 y5 y6 y7 y8) (laws_FnAddedBackwards.j0 (k + 1) y0 y1 y2 y3 y4 y5 y6 y7 y8)) ∧ (∀ y0, LeO (laws_FnAddedBackwards.j4 k y0) (laws_FnAddedBackwards.j4 (k + 1) y0)) ∧ (∀ y0 y1 y2 y3, LeO (laws_FnAddedBackwards.j5 k y0 y1 y2 y3) (laws_FnAddedBackwards.j5 (k + 1) y0 y1 y2 y3)) ∧ (∀ y0 y1 y2 y3 y4 y5 y6 y7 y8, LeO (laws_FnAddedBackwards.j1 k y0 y1 y2 y3 y4 y5 y6 y7 y8) (laws_FnAddedBackwards.j1 (k + 1) y0 y1 y2 y3 y4 y5 y6 y7 y8)) ∧ (∀ y0 y1 y2 y3 y4 y5 y6 y7 y8 y9 y10, LeO (laws_FnAddedBackwards.l0 k y0 y1 y2 y3 y4 y5 y6 y7 y8 y9 y10) (laws_FnAddedBackwards.l0 (k + 1) y0 y1 y2 y3 y4 y5 y6 y7 y8 y9 y10)) ∧ (∀ y0 y1 y2 y3 y4 y5 y6, LeO (laws_FnAddedBackwards.j3 k y0 y1 y2 y3 y4 y5 y6) (laws_FnAddedBackwards.j3 (k + 1) y0 y1 y2 y3 y4 y5 y6))
 | 0 => ⟨fun _ _ _ _ _ _ _ _ _ r h => by simp [laws_FnAddedBackwards.j0] at h, fun _ r h => by simp [laws_FnAddedBackwards.j4] at h, fun _ _ _ _ r h => by simp [laws_FnAddedBackwards.j5] at h, fun _ _ _ _ _ _ _ _ _ r h => by simp [laws_FnAddedBackwards.j1] at h, fun _ _ _ _ _ _ _ _ _ _ _ r h => by simp [laws_FnAddedBackwards.l0] at h, fun _ _ _ _ _ _ _ r h => by simp [laws_FnAddedBackwards.j3] at h⟩
 | k + 1 => by
  obtain ⟨ih0, ih1, ih2, ih3, ih4, ih5⟩ := laws_FnAddedBackwards.mono_l k
  refine ⟨?_, ?_, ?_, ?_, ?_, ?_⟩
  ·intro y0 y1 y2 y3 y4 y5 y6 y7 y8
   unfold laws_FnAddedBackwards.j0
   repeat' first
   | (with_reducible exact ih0 _ _ _ _ _ _ _ _ _)
   | (with_reducible exact ih1 _)
   | (with_reducible exact ih2 _ _ _ _)
   | (with_reducible exact ih3 _ _ _ _ _ _ _ _ _)
   | (with_reducible exact ih4 _ _ _ _ _ _ _ _ _ _ _)
   | (with_reducible exact ih5 _ _ _ _ _ _ _)
   | (with_reducible exact impl_AddReversed.mono _ _ _)
   | (with_reducible exact impl_CarriesOf.mono _ _ _)
   | (with_reducible exact impl_HasNoCarry.mono _ _ _)
   | (with_reducible exact impl_IsSymmetric.mono _ _ _)
   | (with_reducible exact impl_SubtractReversed.mono _ _ _)
   | (with_reducible exact laws_qBack.mono _ _)
   | (with_reducible exact laws_qSame.mono _ _ _)
   | (with_reducible exact laws_qSum.mono _ _)
   | (with_reducible exact spec_AddReversed.mono _ _ _)
   | (with_reducible exact spec_CarriesOf.mono _ _ _)
   | (with_reducible exact spec_DrawAddReversed.mono _ _)
   | (with_reducible exact spec_DrawIsSymmetric.mono _ _)
   | (with_reducible exact spec_HasNoCarry.mono _ _ _)
   | (with_reducible exact spec_IsSymmetric.mono _ _ _)
   | (with_reducible exact spec_SubtractReversed.mono _ _ _)
   | (with_reducible exact LeO.refl _)
   | (with_reducible exact LeO.none _)
   | (with_reducible refine LeO.ite ?_ ?_)
   | (with_reducible refine LeO.bind ?_ (fun _ => ?_))
   | exact ih0 _ _ _ _ _ _ _ _ _
   | exact ih1 _
   | exact ih2 _ _ _ _
   | exact ih3 _ _ _ _ _ _ _ _ _
   | exact ih4 _ _ _ _ _ _ _ _ _ _ _
   | exact ih5 _ _ _ _ _ _ _
   | exact impl_AddReversed.mono _ _ _
   | exact impl_CarriesOf.mono _ _ _
   | exact impl_HasNoCarry.mono _ _ _
   | exact impl_IsSymmetric.mono _ _ _
   | exact impl_SubtractReversed.mono _ _ _
   | exact laws_qBack.mono _ _
   | exact laws_qSame.mono _ _ _
   | exact laws_qSum.mono _ _
   | exact spec_AddReversed.mono _ _ _
   | exact spec_CarriesOf.mono _ _ _
   | exact spec_DrawAddReversed.mono _ _
   | exact spec_DrawIsSymmetric.mono _ _
   | exact spec_HasNoCarry.mono _ _ _
   | exact spec_IsSymmetric.mono _ _ _
   | exact spec_SubtractReversed.mono _ _ _
   | exact LeO.none _
   | refine LeO.ite ?_ ?_
   | refine LeO.bind ?_ (fun _ => ?_)
  ·intro y0
   unfold laws_FnAddedBackwards.j4
   repeat' first
   | (with_reducible exact ih0 _ _ _ _ _ _ _ _ _)
   | (with_reducible exact ih1 _)
   | (with_reducible exact ih2 _ _ _ _)
   | (with_reducible exact ih3 _ _ _ _ _ _ _ _ _)
   | (with_reducible exact ih4 _ _ _ _ _ _ _ _ _ _ _)
   | (with_reducible exact ih5 _ _ _ _ _ _ _)
   | (with_reducible exact impl_AddReversed.mono _ _ _)
   | (with_reducible exact impl_CarriesOf.mono _ _ _)
   | (with_reducible exact impl_HasNoCarry.mono _ _ _)
   | (with_reducible exact impl_IsSymmetric.mono _ _ _)
   | (with_reducible exact impl_SubtractReversed.mono _ _ _)
   | (with_reducible exact laws_qBack.mono _ _)
   | (with_reducible exact laws_qSame.mono _ _ _)
   | (with_reducible exact laws_qSum.mono _ _)
   | (with_reducible exact spec_AddReversed.mono _ _ _)
   | (with_reducible exact spec_CarriesOf.mono _ _ _)
   | (with_reducible exact spec_DrawAddReversed.mono _ _)
   | (with_reducible exact spec_DrawIsSymmetric.mono _ _)
   | (with_reducible exact spec_HasNoCarry.mono _ _ _)
   | (with_reducible exact spec_IsSymmetric.mono _ _ _)
   | (with_reducible exact spec_SubtractReversed.mono _ _ _)
   | (with_reducible exact LeO.refl _)
   | (with_reducible exact LeO.none _)
   | (with_reducible refine LeO.ite ?_ ?_)
   | (with_reducible refine LeO.bind ?_ (fun _ => ?_))
   | exact ih0 _ _ _ _ _ _ _ _ _
   | exact ih1 _
   | exact ih2 _ _ _ _
   | exact ih3 _ _ _ _ _ _ _ _ _
   | exact ih4 _ _ _ _ _ _ _ _ _ _ _
   | exact ih5 _ _ _ _ _ _ _
   | exact impl_AddReversed.mono _ _ _
   | exact impl_CarriesOf.mono _ _ _
   | exact impl_HasNoCarry.mono _ _ _
   | exact impl_IsSymmetric.mono _ _ _
   | exact impl_SubtractReversed.mono _ _ _
   | exact laws_qBack.mono _ _
   | exact laws_qSame.mono _ _ _
   | exact laws_qSum.mono _ _
   | exact spec_AddReversed.mono _ _ _
   | exact spec_CarriesOf.mono _ _ _
   | exact spec_DrawAddReversed.mono _ _
   | exact spec_DrawIsSymmetric.mono _ _
   | exact spec_HasNoCarry.mono _ _ _
   | exact spec_IsSymmetric.mono _ _ _
   | exact spec_SubtractReversed.mono _ _ _
   | exact LeO.none _
   | refine LeO.ite ?_ ?_
   | refine LeO.bind ?_ (fun _ => ?_)
  ·intro y0 y1 y2 y3
   unfold laws_FnAddedBackwards.j5
   repeat' first
   | (with_reducible exact ih0 _ _ _ _ _ _ _ _ _)
   | (with_reducible exact ih1 _)
   | (with_reducible exact ih2 _ _ _ _)
   | (with_reducible exact ih3 _ _ _ _ _ _ _ _ _)
   | (with_reducible exact ih4 _ _ _ _ _ _ _ _ _ _ _)
   | (with_reducible exact ih5 _ _ _ _ _ _ _)
   | (with_reducible exact impl_AddReversed.mono _ _ _)
   | (with_reducible exact impl_CarriesOf.mono _ _ _)
   | (with_reducible exact impl_HasNoCarry.mono _ _ _)
   | (with_reducible exact impl_IsSymmetric.mono _ _ _)
   | (with_reducible exact impl_SubtractReversed.mono _ _ _)
   | (with_reducible exact laws_qBack.mono _ _)
   | (with_reducible exact laws_qSame.mono _ _ _)
   | (with_reducible exact laws_qSum.mono _ _)
   | (with_reducible exact spec_AddReversed.mono _ _ _)
   | (with_reducible exact spec_CarriesOf.mono _ _ _)
   | (with_reducible exact spec_DrawAddReversed.mono _ _)
   | (with_reducible exact spec_DrawIsSymmetric.mono _ _)
   | (with_reducible exact spec_HasNoCarry.mono _ _ _)
   | (with_reducible exact spec_IsSymmetric.mono _ _ _)
   | (with_reducible exact spec_SubtractReversed.mono _ _ _)
   | (with_reducible exact LeO.refl _)
   | (with_reducible exact LeO.none _)
   | (with_reducible refine LeO.ite ?_ ?_)
   | (with_reducible refine LeO.bind ?_ (fun _ => ?_))
   | exact ih0 _ _ _ _ _ _ _ _ _
   | exact ih1 _
   | exact ih2 _ _ _ _
   | exact ih3 _ _ _ _ _ _ _ _ _
   | exact ih4 _ _ _ _ _ _ _ _ _ _ _
   | exact ih5 _ _ _ _ _ _ _
   | exact impl_AddReversed.mono _ _ _
   | exact impl_CarriesOf.mono _ _ _
   | exact impl_HasNoCarry.mono _ _ _
   | exact impl_IsSymmetric.mono _ _ _
   | exact impl_SubtractReversed.mono _ _ _
   | exact laws_qBack.mono _ _
   | exact laws_qSame.mono _ _ _
   | exact laws_qSum.mono _ _
   | exact spec_AddReversed.mono _ _ _
   | exact spec_CarriesOf.mono _ _ _
   | exact spec_DrawAddReversed.mono _ _
   | exact spec_DrawIsSymmetric.mono _ _
   | exact spec_HasNoCarry.mono _ _ _
   | exact spec_IsSymmetric.mono _ _ _
   | exact spec_SubtractReversed.mono _ _ _
   | exact LeO.none _
   | refine LeO.ite ?_ ?_
   | refine LeO.bind ?_ (fun _ => ?_)
  ·intro y0 y1 y2 y3 y4 y5 y6 y7 y8
   unfold laws_FnAddedBackwards.j1
   repeat' first
   | (with_reducible exact ih0 _ _ _ _ _ _ _ _ _)
   | (with_reducible exact ih1 _)
   | (with_reducible exact ih2 _ _ _ _)
   | (with_reducible exact ih3 _ _ _ _ _ _ _ _ _)
   | (with_reducible exact ih4 _ _ _ _ _ _ _ _ _ _ _)
   | (with_reducible exact ih5 _ _ _ _ _ _ _)
   | (with_reducible exact impl_AddReversed.mono _ _ _)
   | (with_reducible exact impl_CarriesOf.mono _ _ _)
   | (with_reducible exact impl_HasNoCarry.mono _ _ _)
   | (with_reducible exact impl_IsSymmetric.mono _ _ _)
   | (with_reducible exact impl_SubtractReversed.mono _ _ _)
   | (with_reducible exact laws_qBack.mono _ _)
   | (with_reducible exact laws_qSame.mono _ _ _)
   | (with_reducible exact laws_qSum.mono _ _)
   | (with_reducible exact spec_AddReversed.mono _ _ _)
   | (with_reducible exact spec_CarriesOf.mono _ _ _)
   | (with_reducible exact spec_DrawAddReversed.mono _ _)
   | (with_reducible exact spec_DrawIsSymmetric.mono _ _)
   | (with_reducible exact spec_HasNoCarry.mono _ _ _)
   | (with_reducible exact spec_IsSymmetric.mono _ _ _)
   | (with_reducible exact spec_SubtractReversed.mono _ _ _)
   | (with_reducible exact LeO.refl _)
   | (with_reducible exact LeO.none _)
   | (with_reducible refine LeO.ite ?_ ?_)
   | (with_reducible refine LeO.bind ?_ (fun _ => ?_))
   | exact ih0 _ _ _ _ _ _ _ _ _
   | exact ih1 _
   | exact ih2 _ _ _ _
   | exact ih3 _ _ _ _ _ _ _ _ _
   | exact ih4 _ _ _ _ _ _ _ _ _ _ _
   | exact ih5 _ _ _ _ _ _ _
   | exact impl_AddReversed.mono _ _ _
   | exact impl_CarriesOf.mono _ _ _
   | exact impl_HasNoCarry.mono _ _ _
   | exact impl_IsSymmetric.mono _ _ _
   | exact impl_SubtractReversed.mono _ _ _
   | exact laws_qBack.mono _ _
   | exact laws_qSame.mono _ _ _
   | exact laws_qSum.mono _ _
   | exact spec_AddReversed.mono _ _ _
   | exact spec_CarriesOf.mono _ _ _
   | exact spec_DrawAddReversed.mono _ _
   | exact spec_DrawIsSymmetric.mono _ _
   | exact spec_HasNoCarry.mono _ _ _
   | exact spec_IsSymmetric.mono _ _ _
   | exact spec_SubtractReversed.mono _ _ _
   | exact LeO.none _
   | refine LeO.ite ?_ ?_
   | refine LeO.bind ?_ (fun _ => ?_)
  ·intro y0 y1 y2 y3 y4 y5 y6 y7 y8 y9 y10
   unfold laws_FnAddedBackwards.l0
   repeat' first
   | (with_reducible exact ih0 _ _ _ _ _ _ _ _ _)
   | (with_reducible exact ih1 _)
   | (with_reducible exact ih2 _ _ _ _)
   | (with_reducible exact ih3 _ _ _ _ _ _ _ _ _)
   | (with_reducible exact ih4 _ _ _ _ _ _ _ _ _ _ _)
   | (with_reducible exact ih5 _ _ _ _ _ _ _)
   | (with_reducible exact impl_AddReversed.mono _ _ _)
   | (with_reducible exact impl_CarriesOf.mono _ _ _)
   | (with_reducible exact impl_HasNoCarry.mono _ _ _)
   | (with_reducible exact impl_IsSymmetric.mono _ _ _)
   | (with_reducible exact impl_SubtractReversed.mono _ _ _)
   | (with_reducible exact laws_qBack.mono _ _)
   | (with_reducible exact laws_qSame.mono _ _ _)
   | (with_reducible exact laws_qSum.mono _ _)
   | (with_reducible exact spec_AddReversed.mono _ _ _)
   | (with_reducible exact spec_CarriesOf.mono _ _ _)
   | (with_reducible exact spec_DrawAddReversed.mono _ _)
   | (with_reducible exact spec_DrawIsSymmetric.mono _ _)
   | (with_reducible exact spec_HasNoCarry.mono _ _ _)
   | (with_reducible exact spec_IsSymmetric.mono _ _ _)
   | (with_reducible exact spec_SubtractReversed.mono _ _ _)
   | (with_reducible exact LeO.refl _)
   | (with_reducible exact LeO.none _)
   | (with_reducible refine LeO.ite ?_ ?_)
   | (with_reducible refine LeO.bind ?_ (fun _ => ?_))
   | exact ih0 _ _ _ _ _ _ _ _ _
   | exact ih1 _
   | exact ih2 _ _ _ _
   | exact ih3 _ _ _ _ _ _ _ _ _
   | exact ih4 _ _ _ _ _ _ _ _ _ _ _
   | exact ih5 _ _ _ _ _ _ _
   | exact impl_AddReversed.mono _ _ _
   | exact impl_CarriesOf.mono _ _ _
   | exact impl_HasNoCarry.mono _ _ _
   | exact impl_IsSymmetric.mono _ _ _
   | exact impl_SubtractReversed.mono _ _ _
   | exact laws_qBack.mono _ _
   | exact laws_qSame.mono _ _ _
   | exact laws_qSum.mono _ _
   | exact spec_AddReversed.mono _ _ _
   | exact spec_CarriesOf.mono _ _ _
   | exact spec_DrawAddReversed.mono _ _
   | exact spec_DrawIsSymmetric.mono _ _
   | exact spec_HasNoCarry.mono _ _ _
   | exact spec_IsSymmetric.mono _ _ _
   | exact spec_SubtractReversed.mono _ _ _
   | exact LeO.none _
   | refine LeO.ite ?_ ?_
   | refine LeO.bind ?_ (fun _ => ?_)
  ·intro y0 y1 y2 y3 y4 y5 y6
   unfold laws_FnAddedBackwards.j3
   repeat' first
   | (with_reducible exact ih0 _ _ _ _ _ _ _ _ _)
   | (with_reducible exact ih1 _)
   | (with_reducible exact ih2 _ _ _ _)
   | (with_reducible exact ih3 _ _ _ _ _ _ _ _ _)
   | (with_reducible exact ih4 _ _ _ _ _ _ _ _ _ _ _)
   | (with_reducible exact ih5 _ _ _ _ _ _ _)
   | (with_reducible exact impl_AddReversed.mono _ _ _)
   | (with_reducible exact impl_CarriesOf.mono _ _ _)
   | (with_reducible exact impl_HasNoCarry.mono _ _ _)
   | (with_reducible exact impl_IsSymmetric.mono _ _ _)
   | (with_reducible exact impl_SubtractReversed.mono _ _ _)
   | (with_reducible exact laws_qBack.mono _ _)
   | (with_reducible exact laws_qSame.mono _ _ _)
   | (with_reducible exact laws_qSum.mono _ _)
   | (with_reducible exact spec_AddReversed.mono _ _ _)
   | (with_reducible exact spec_CarriesOf.mono _ _ _)
   | (with_reducible exact spec_DrawAddReversed.mono _ _)
   | (with_reducible exact spec_DrawIsSymmetric.mono _ _)
   | (with_reducible exact spec_HasNoCarry.mono _ _ _)
   | (with_reducible exact spec_IsSymmetric.mono _ _ _)
   | (with_reducible exact spec_SubtractReversed.mono _ _ _)
   | (with_reducible exact LeO.refl _)
   | (with_reducible exact LeO.none _)
   | (with_reducible refine LeO.ite ?_ ?_)
   | (with_reducible refine LeO.bind ?_ (fun _ => ?_))
   | exact ih0 _ _ _ _ _ _ _ _ _
   | exact ih1 _
   | exact ih2 _ _ _ _
   | exact ih3 _ _ _ _ _ _ _ _ _
   | exact ih4 _ _ _ _ _ _ _ _ _ _ _
   | exact ih5 _ _ _ _ _ _ _
   | exact impl_AddReversed.mono _ _ _
   | exact impl_CarriesOf.mono _ _ _
   | exact impl_HasNoCarry.mono _ _ _
   | exact impl_IsSymmetric.mono _ _ _
   | exact impl_SubtractReversed.mono _ _ _
   | exact laws_qBack.mono _ _
   | exact laws_qSame.mono _ _ _
   | exact laws_qSum.mono _ _
   | exact spec_AddReversed.mono _ _ _
   | exact spec_CarriesOf.mono _ _ _
   | exact spec_DrawAddReversed.mono _ _
   | exact spec_DrawIsSymmetric.mono _ _
   | exact spec_HasNoCarry.mono _ _ _
   | exact spec_IsSymmetric.mono _ _ _
   | exact spec_SubtractReversed.mono _ _ _
   | exact LeO.none _
   | refine LeO.ite ?_ ?_
   | refine LeO.bind ?_ (fun _ => ?_)
theorem laws_FnAddedBackwards.mono : ∀ a0 a1 k, LeO (laws_FnAddedBackwards.f k a0 a1) (laws_FnAddedBackwards.f (k + 1) a0 a1) := by
 intro a0 a1 k
 obtain ⟨ih0, ih1, ih2, ih3, ih4, ih5⟩ := laws_FnAddedBackwards.mono_l k
 unfold laws_FnAddedBackwards.f
 repeat' first
   | (with_reducible exact ih0 _ _ _ _ _ _ _ _ _)
   | (with_reducible exact ih1 _)
   | (with_reducible exact ih2 _ _ _ _)
   | (with_reducible exact ih3 _ _ _ _ _ _ _ _ _)
   | (with_reducible exact ih4 _ _ _ _ _ _ _ _ _ _ _)
   | (with_reducible exact ih5 _ _ _ _ _ _ _)
   | (with_reducible exact impl_AddReversed.mono _ _ _)
   | (with_reducible exact impl_CarriesOf.mono _ _ _)
   | (with_reducible exact impl_HasNoCarry.mono _ _ _)
   | (with_reducible exact impl_IsSymmetric.mono _ _ _)
   | (with_reducible exact impl_SubtractReversed.mono _ _ _)
   | (with_reducible exact laws_qBack.mono _ _)
   | (with_reducible exact laws_qSame.mono _ _ _)
   | (with_reducible exact laws_qSum.mono _ _)
   | (with_reducible exact spec_AddReversed.mono _ _ _)
   | (with_reducible exact spec_CarriesOf.mono _ _ _)
   | (with_reducible exact spec_DrawAddReversed.mono _ _)
   | (with_reducible exact spec_DrawIsSymmetric.mono _ _)
   | (with_reducible exact spec_HasNoCarry.mono _ _ _)
   | (with_reducible exact spec_IsSymmetric.mono _ _ _)
   | (with_reducible exact spec_SubtractReversed.mono _ _ _)
   | (with_reducible exact LeO.refl _)
   | (with_reducible exact LeO.none _)
   | (with_reducible refine LeO.ite ?_ ?_)
   | (with_reducible refine LeO.bind ?_ (fun _ => ?_))
   | exact ih0 _ _ _ _ _ _ _ _ _
   | exact ih1 _
   | exact ih2 _ _ _ _
   | exact ih3 _ _ _ _ _ _ _ _ _
   | exact ih4 _ _ _ _ _ _ _ _ _ _ _
   | exact ih5 _ _ _ _ _ _ _
   | exact impl_AddReversed.mono _ _ _
   | exact impl_CarriesOf.mono _ _ _
   | exact impl_HasNoCarry.mono _ _ _
   | exact impl_IsSymmetric.mono _ _ _
   | exact impl_SubtractReversed.mono _ _ _
   | exact laws_qBack.mono _ _
   | exact laws_qSame.mono _ _ _
   | exact laws_qSum.mono _ _
   | exact spec_AddReversed.mono _ _ _
   | exact spec_CarriesOf.mono _ _ _
   | exact spec_DrawAddReversed.mono _ _
   | exact spec_DrawIsSymmetric.mono _ _
   | exact spec_HasNoCarry.mono _ _ _
   | exact spec_IsSymmetric.mono _ _ _
   | exact spec_SubtractReversed.mono _ _ _
   | exact LeO.none _
   | refine LeO.ite ?_ ?_
   | refine LeO.bind ?_ (fun _ => ?_)
theorem laws_FnAddedBackwards.j0_no {r : Bool} (hr : r = true) (k : Nat) (x1 : List Int) (x5 : List Int) (x6 : Int) (x7 : List Int) (x8 : Bool) (x11 : List Int) (x12 : Bool) (x15 : Bool) (h : laws_FnAddedBackwards.j0 k x1 x5 x6 x7 x8 x11 x12 x15 true = some r) : False := by
 subst hr
 cases k with
 | zero => simp [laws_FnAddedBackwards.j0] at h
 | succ k => simp [laws_FnAddedBackwards.j0] at h
theorem laws_FnAddedBackwards.j5_no {r : Bool} (hr : r = true) (k : Nat) (x32 : List Int) (x34 : Bool) (x35 : Bool) (h : laws_FnAddedBackwards.j5 k x32 x34 x35 true = some r) : False := by
 subst hr
 cases k with
 | zero => simp [laws_FnAddedBackwards.j5] at h
 | succ k => simp [laws_FnAddedBackwards.j5] at h
theorem laws_FnAddedBackwards.j1_no {r : Bool} (hr : r = true) (k : Nat) (x1 : List Int) (x5 : List Int) (x6 : Int) (x7 : List Int) (x8 : Bool) (x11 : List Int) (x15 : Bool) (x23 : Int) (h : laws_FnAddedBackwards.j1 k x1 x5 x6 x7 x8 x11 x15 x23 true = some r) : False := by
 subst hr
 cases k with
 | zero => simp [laws_FnAddedBackwards.j1] at h
 | succ k => simp [laws_FnAddedBackwards.j1] at h
theorem laws_FnAddedBackwards.j3_no {r : Bool} (hr : r = true) (k : Nat) (x1 : List Int) (x5 : List Int) (x6 : Int) (x7 : List Int) (x23 : Int) (x24 : List Int) (h : laws_FnAddedBackwards.j3 k x1 x5 x6 x7 x23 x24 true = some r) : False := by
 subst hr
 cases k with
 | zero => simp [laws_FnAddedBackwards.j3] at h
 | succ k => simp [laws_FnAddedBackwards.j3] at h
set_option maxHeartbeats 8000000 in
set_option maxRecDepth 100000 in
theorem laws_FnAddedBackwards.calls (k : Nat) (A0 : Option Addr) (c0 : Nat) (l0 : List Int) (A1 : Option Addr) (c1 : Nat) (l1 : List Int) (r : Bool) (w : World) (hr0 : Kd.C (Kd.int .u8) w A0 l0.length l0) (hc0 : l0.length ≤ c0) (hr1 : Kd.C (Kd.int .u8) w A1 l1.length l1) (hc1 : l1.length ≤ c1) (h : laws_FnAddedBackwards.f k l0 l1 = some r) (hr_ : r = true) :
  Calls Try.prog 6 #[.slice A0 l0.length c0, .slice A1 l1.length c1] w fun e w' => e = .returned (.bool r) ∧ Below w.heap.size w w' := by
 have HR0 := Aside0.mk hr0
 have HC0 := Aside0.mk hc0
 clear hr0 hc0
 have HR1 := Aside0.mk hr1
 have HC1 := Aside0.mk hc1
 clear hr1 hc1
 have HB := Aside0.mk (Below.refl w.heap.size w)
 have H : ((laws_big.f l0 l1).bind fun t396 => (if t396 = true then (some true) else ((spec_DrawAddReversed.f k l0).bind fun bt397 => ((impl_AddReversed.f k bt397.1 bt397.2).bind fun bt401 => ((spec_AddReversed.f k bt397.1 bt397.2).bind fun bt405 => ((impl_CarriesOf.f k bt397.1 bt397.2).bind fun bt409 => ((spec_CarriesOf.f k bt397.1 bt397.2).bind fun bt413 => ((impl_HasNoCarry.f k bt397.1 bt397.2).bind fun bt417 => ((spec_HasNoCarry.f k bt397.1 bt397.2).bind fun bt419 => ((impl_SubtractReversed.f k bt397.1 bt397.2).bind fun bt421 => ((spec_SubtractReversed.f k bt397.1 bt397.2).bind fun bt425 => (if (bt401.2 != bt405.2) = true then (laws_FnAddedBackwards.j0 k l1 bt397.1 bt397.2 bt401.1 bt401.2 bt409.1 bt409.2 bt417.1 true) else ((laws_qSame.f k bt401.1 bt405.1).bind fun t429 => (if t429 = true then (if (bt409.2 != bt413.2) = true then (laws_FnAddedBackwards.j0 k l1 bt397.1 bt397.2 bt401.1 bt401.2 bt409.1 bt409.2 bt417.1 true) else ((laws_qSame.f k bt409.1 bt413.1).bind fun t430 => (if t430 = true then (if (bt417.2 != bt419.2) = true then (laws_FnAddedBackwards.j0 k l1 bt397.1 bt397.2 bt401.1 bt401.2 bt409.1 bt409.2 bt417.1 true) else (if (bt417.1 != bt419.1) = true then (laws_FnAddedBackwards.j0 k l1 bt397.1 bt397.2 bt401.1 bt401.2 bt409.1 bt409.2 bt417.1 true) else (if (bt421.2 != bt425.2) = true then (laws_FnAddedBackwards.j0 k l1 bt397.1 bt397.2 bt401.1 bt401.2 bt409.1 bt409.2 bt417.1 true) else ((laws_qSame.f k bt421.1 bt425.1).bind fun t431 => (if t431 = true then (if (bt417.2 != bt409.2) = true then (laws_FnAddedBackwards.j0 k l1 bt397.1 bt397.2 bt401.1 bt401.2 bt409.1 bt409.2 bt417.1 true) else (if (bt421.2 != bt409.2) = true then (laws_FnAddedBackwards.j0 k l1 bt397.1 bt397.2 bt401.1 bt401.2 bt409.1 bt409.2 bt417.1 true) else (if bt401.2 = true then (laws_FnAddedBackwards.j0 k l1 bt397.1 bt397.2 bt401.1 bt401.2 bt409.1 bt409.2 bt417.1 (!bt409.2)) else (laws_FnAddedBackwards.j0 k l1 bt397.1 bt397.2 bt401.1 bt401.2 bt409.1 bt409.2 bt417.1 false)))) else (laws_FnAddedBackwards.j0 k l1 bt397.1 bt397.2 bt401.1 bt401.2 bt409.1 bt409.2 bt417.1 true)))))) else (laws_FnAddedBackwards.j0 k l1 bt397.1 bt397.2 bt401.1 bt401.2 bt409.1 bt409.2 bt417.1 true)))) else (laws_FnAddedBackwards.j0 k l1 bt397.1 bt397.2 bt401.1 bt401.2 bt409.1 bt409.2 bt417.1 true))))))))))))))) = some r := h
 clear h
 have HR_ := Aside0.mk hr_
 clear hr_
 replace H := Option.bind_eq_some_iff.mp H
 obtain ⟨t396, A30, H⟩ := H
 replace H : (if t396 = true then (some true) else ((spec_DrawAddReversed.f k l0).bind fun bt397 => ((impl_AddReversed.f k bt397.1 bt397.2).bind fun bt401 => ((spec_AddReversed.f k bt397.1 bt397.2).bind fun bt405 => ((impl_CarriesOf.f k bt397.1 bt397.2).bind fun bt409 => ((spec_CarriesOf.f k bt397.1 bt397.2).bind fun bt413 => ((impl_HasNoCarry.f k bt397.1 bt397.2).bind fun bt417 => ((spec_HasNoCarry.f k bt397.1 bt397.2).bind fun bt419 => ((impl_SubtractReversed.f k bt397.1 bt397.2).bind fun bt421 => ((spec_SubtractReversed.f k bt397.1 bt397.2).bind fun bt425 => (if (bt401.2 != bt405.2) = true then (laws_FnAddedBackwards.j0 k l1 bt397.1 bt397.2 bt401.1 bt401.2 bt409.1 bt409.2 bt417.1 true) else ((laws_qSame.f k bt401.1 bt405.1).bind fun t429 => (if t429 = true then (if (bt409.2 != bt413.2) = true then (laws_FnAddedBackwards.j0 k l1 bt397.1 bt397.2 bt401.1 bt401.2 bt409.1 bt409.2 bt417.1 true) else ((laws_qSame.f k bt409.1 bt413.1).bind fun t430 => (if t430 = true then (if (bt417.2 != bt419.2) = true then (laws_FnAddedBackwards.j0 k l1 bt397.1 bt397.2 bt401.1 bt401.2 bt409.1 bt409.2 bt417.1 true) else (if (bt417.1 != bt419.1) = true then (laws_FnAddedBackwards.j0 k l1 bt397.1 bt397.2 bt401.1 bt401.2 bt409.1 bt409.2 bt417.1 true) else (if (bt421.2 != bt425.2) = true then (laws_FnAddedBackwards.j0 k l1 bt397.1 bt397.2 bt401.1 bt401.2 bt409.1 bt409.2 bt417.1 true) else ((laws_qSame.f k bt421.1 bt425.1).bind fun t431 => (if t431 = true then (if (bt417.2 != bt409.2) = true then (laws_FnAddedBackwards.j0 k l1 bt397.1 bt397.2 bt401.1 bt401.2 bt409.1 bt409.2 bt417.1 true) else (if (bt421.2 != bt409.2) = true then (laws_FnAddedBackwards.j0 k l1 bt397.1 bt397.2 bt401.1 bt401.2 bt409.1 bt409.2 bt417.1 true) else (if bt401.2 = true then (laws_FnAddedBackwards.j0 k l1 bt397.1 bt397.2 bt401.1 bt401.2 bt409.1 bt409.2 bt417.1 (!bt409.2)) else (laws_FnAddedBackwards.j0 k l1 bt397.1 bt397.2 bt401.1 bt401.2 bt409.1 bt409.2 bt417.1 false)))) else (laws_FnAddedBackwards.j0 k l1 bt397.1 bt397.2 bt401.1 bt401.2 bt409.1 bt409.2 bt417.1 true)))))) else (laws_FnAddedBackwards.j0 k l1 bt397.1 bt397.2 bt401.1 bt401.2 bt409.1 bt409.2 bt417.1 true)))) else (laws_FnAddedBackwards.j0 k l1 bt397.1 bt397.2 bt401.1 bt401.2 bt409.1 bt409.2 bt417.1 true)))))))))))))) = some r := H
 have A3 := Aside0.mk A30
 clear A30
 by_cases c4 : t396 = true
 ·subst c4
  have H1 : (some true) = some r := by rw [if_pos rfl] at H; exact H
  clear H
  have H := H1
  clear H1
  obtain rfl := Option.some.inj H
  go_enter Try.func6, Try.ntmps6
  go_wp2_with (first | (go_at_call 15; (with_reducible refine (laws_big.calls _ _ l0 _ _ l1 true _ ?side1 ?side2 ?side3 ?side4 A3.out).mono ?_); (case side1 => repeat (first | exact HR0.out | (with_reducible refine Kd.C_alloc ?_ _) | (with_reducible refine Kd.C_drewN ?_ _) | (with_reducible refine Kd.C_drew ?_))); (case side2 => exact HC0.out); (case side3 => repeat (first | exact HR1.out | (with_reducible refine Kd.C_alloc ?_ _) | (with_reducible refine Kd.C_drewN ?_ _) | (with_reducible refine Kd.C_drew ?_))); (case side4 => exact HC1.out); rintro e w' ⟨rfl, ⟨nd, rfl⟩⟩; (try first | exact ⟨rfl, _, World.drewN_drewN _ _ _⟩ | exact ⟨rfl, _, Eq.trans (World.drewN_drewN _ _ _) (congrArg (World.drewN _) (Nat.add_assoc _ _ _))⟩)))
  repeat (go_quiet (first | (go_at_call 15; (with_reducible refine (laws_big.calls _ _ l0 _ _ l1 true _ ?side1 ?side2 ?side3 ?side4 A3.out).mono ?_); (case side1 => repeat (first | exact HR0.out | (with_reducible refine Kd.C_alloc ?_ _) | (with_reducible refine Kd.C_drewN ?_ _) | (with_reducible refine Kd.C_drew ?_))); (case side2 => exact HC0.out); (case side3 => repeat (first | exact HR1.out | (with_reducible refine Kd.C_alloc ?_ _) | (with_reducible refine Kd.C_drewN ?_ _) | (with_reducible refine Kd.C_drew ?_))); (case side4 => exact HC1.out); rintro e w' ⟨rfl, ⟨nd, rfl⟩⟩; (try first | exact ⟨rfl, _, World.drewN_drewN _ _ _⟩ | exact ⟨rfl, _, Eq.trans (World.drewN_drewN _ _ _) (congrArg (World.drewN _) (Nat.add_assoc _ _ _))⟩))); try go_wp2_with (first | (go_at_call 15; (with_reducible refine (laws_big.calls _ _ l0 _ _ l1 true _ ?side1 ?side2 ?side3 ?side4 A3.out).mono ?_); (case side1 => repeat (first | exact HR0.out | (with_reducible refine Kd.C_alloc ?_ _) | (with_reducible refine Kd.C_drewN ?_ _) | (with_reducible refine Kd.C_drew ?_))); (case side2 => exact HC0.out); (case side3 => repeat (first | exact HR1.out | (with_reducible refine Kd.C_alloc ?_ _) | (with_reducible refine Kd.C_drewN ?_ _) | (with_reducible refine Kd.C_drew ?_))); (case side4 => exact HC1.out); rintro e w' ⟨rfl, ⟨nd, rfl⟩⟩; (try first | exact ⟨rfl, _, World.drewN_drewN _ _ _⟩ | exact ⟨rfl, _, Eq.trans (World.drewN_drewN _ _ _) (congrArg (World.drewN _) (Nat.add_assoc _ _ _))⟩))))
  go_ret
  exact ⟨by first | rfl | (simp [errW_none, errW_some] <;> rfl) | (simp [*, errW_none, errW_some] <;> rfl), by repeat (first | (with_reducible first | exact HB.out | apply below_alloc | apply pw_below_drewN | apply below_drew1) | exact HB.out)⟩
 ·replace c4 := Bool.eq_false_iff.mpr c4
  subst c4
  have H1 : ((spec_DrawAddReversed.f k l0).bind fun bt397 => ((impl_AddReversed.f k bt397.1 bt397.2).bind fun bt401 => ((spec_AddReversed.f k bt397.1 bt397.2).bind fun bt405 => ((impl_CarriesOf.f k bt397.1 bt397.2).bind fun bt409 => ((spec_CarriesOf.f k bt397.1 bt397.2).bind fun bt413 => ((impl_HasNoCarry.f k bt397.1 bt397.2).bind fun bt417 => ((spec_HasNoCarry.f k bt397.1 bt397.2).bind fun bt419 => ((impl_SubtractReversed.f k bt397.1 bt397.2).bind fun bt421 => ((spec_SubtractReversed.f k bt397.1 bt397.2).bind fun bt425 => (if (bt401.2 != bt405.2) = true then (laws_FnAddedBackwards.j0 k l1 bt397.1 bt397.2 bt401.1 bt401.2 bt409.1 bt409.2 bt417.1 true) else ((laws_qSame.f k bt401.1 bt405.1).bind fun t429 => (if t429 = true then (if (bt409.2 != bt413.2) = true then (laws_FnAddedBackwards.j0 k l1 bt397.1 bt397.2 bt401.1 bt401.2 bt409.1 bt409.2 bt417.1 true) else ((laws_qSame.f k bt409.1 bt413.1).bind fun t430 => (if t430 = true then (if (bt417.2 != bt419.2) = true then (laws_FnAddedBackwards.j0 k l1 bt397.1 bt397.2 bt401.1 bt401.2 bt409.1 bt409.2 bt417.1 true) else (if (bt417.1 != bt419.1) = true then (laws_FnAddedBackwards.j0 k l1 bt397.1 bt397.2 bt401.1 bt401.2 bt409.1 bt409.2 bt417.1 true) else (if (bt421.2 != bt425.2) = true then (laws_FnAddedBackwards.j0 k l1 bt397.1 bt397.2 bt401.1 bt401.2 bt409.1 bt409.2 bt417.1 true) else ((laws_qSame.f k bt421.1 bt425.1).bind fun t431 => (if t431 = true then (if (bt417.2 != bt409.2) = true then (laws_FnAddedBackwards.j0 k l1 bt397.1 bt397.2 bt401.1 bt401.2 bt409.1 bt409.2 bt417.1 true) else (if (bt421.2 != bt409.2) = true then (laws_FnAddedBackwards.j0 k l1 bt397.1 bt397.2 bt401.1 bt401.2 bt409.1 bt409.2 bt417.1 true) else (if bt401.2 = true then (laws_FnAddedBackwards.j0 k l1 bt397.1 bt397.2 bt401.1 bt401.2 bt409.1 bt409.2 bt417.1 (!bt409.2)) else (laws_FnAddedBackwards.j0 k l1 bt397.1 bt397.2 bt401.1 bt401.2 bt409.1 bt409.2 bt417.1 false)))) else (laws_FnAddedBackwards.j0 k l1 bt397.1 bt397.2 bt401.1 bt401.2 bt409.1 bt409.2 bt417.1 true)))))) else (laws_FnAddedBackwards.j0 k l1 bt397.1 bt397.2 bt401.1 bt401.2 bt409.1 bt409.2 bt417.1 true)))) else (laws_FnAddedBackwards.j0 k l1 bt397.1 bt397.2 bt401.1 bt401.2 bt409.1 bt409.2 bt417.1 true))))))))))))) = some r := by rw [if_neg (show ¬ (false = true) by decide)] at H; exact H
  clear H
  have H := H1
  clear H1
  replace H := Option.bind_eq_some_iff.mp H
  obtain ⟨⟨t397, t398⟩, A50, H⟩ := H
  replace H : ((impl_AddReversed.f k t397 t398).bind fun bt401 => ((spec_AddReversed.f k t397 t398).bind fun bt405 => ((impl_CarriesOf.f k t397 t398).bind fun bt409 => ((spec_CarriesOf.f k t397 t398).bind fun bt413 => ((impl_HasNoCarry.f k t397 t398).bind fun bt417 => ((spec_HasNoCarry.f k t397 t398).bind fun bt419 => ((impl_SubtractReversed.f k t397 t398).bind fun bt421 => ((spec_SubtractReversed.f k t397 t398).bind fun bt425 => (if (bt401.2 != bt405.2) = true then (laws_FnAddedBackwards.j0 k l1 t397 t398 bt401.1 bt401.2 bt409.1 bt409.2 bt417.1 true) else ((laws_qSame.f k bt401.1 bt405.1).bind fun t429 => (if t429 = true then (if (bt409.2 != bt413.2) = true then (laws_FnAddedBackwards.j0 k l1 t397 t398 bt401.1 bt401.2 bt409.1 bt409.2 bt417.1 true) else ((laws_qSame.f k bt409.1 bt413.1).bind fun t430 => (if t430 = true then (if (bt417.2 != bt419.2) = true then (laws_FnAddedBackwards.j0 k l1 t397 t398 bt401.1 bt401.2 bt409.1 bt409.2 bt417.1 true) else (if (bt417.1 != bt419.1) = true then (laws_FnAddedBackwards.j0 k l1 t397 t398 bt401.1 bt401.2 bt409.1 bt409.2 bt417.1 true) else (if (bt421.2 != bt425.2) = true then (laws_FnAddedBackwards.j0 k l1 t397 t398 bt401.1 bt401.2 bt409.1 bt409.2 bt417.1 true) else ((laws_qSame.f k bt421.1 bt425.1).bind fun t431 => (if t431 = true then (if (bt417.2 != bt409.2) = true then (laws_FnAddedBackwards.j0 k l1 t397 t398 bt401.1 bt401.2 bt409.1 bt409.2 bt417.1 true) else (if (bt421.2 != bt409.2) = true then (laws_FnAddedBackwards.j0 k l1 t397 t398 bt401.1 bt401.2 bt409.1 bt409.2 bt417.1 true) else (if bt401.2 = true then (laws_FnAddedBackwards.j0 k l1 t397 t398 bt401.1 bt401.2 bt409.1 bt409.2 bt417.1 (!bt409.2)) else (laws_FnAddedBackwards.j0 k l1 t397 t398 bt401.1 bt401.2 bt409.1 bt409.2 bt417.1 false)))) else (laws_FnAddedBackwards.j0 k l1 t397 t398 bt401.1 bt401.2 bt409.1 bt409.2 bt417.1 true)))))) else (laws_FnAddedBackwards.j0 k l1 t397 t398 bt401.1 bt401.2 bt409.1 bt409.2 bt417.1 true)))) else (laws_FnAddedBackwards.j0 k l1 t397 t398 bt401.1 bt401.2 bt409.1 bt409.2 bt417.1 true)))))))))))) = some r := H
  have A5 := Aside0.mk A50
  clear A50
  replace H := Option.bind_eq_some_iff.mp H
  obtain ⟨⟨t401, t402⟩, A60, H⟩ := H
  replace H : ((spec_AddReversed.f k t397 t398).bind fun bt405 => ((impl_CarriesOf.f k t397 t398).bind fun bt409 => ((spec_CarriesOf.f k t397 t398).bind fun bt413 => ((impl_HasNoCarry.f k t397 t398).bind fun bt417 => ((spec_HasNoCarry.f k t397 t398).bind fun bt419 => ((impl_SubtractReversed.f k t397 t398).bind fun bt421 => ((spec_SubtractReversed.f k t397 t398).bind fun bt425 => (if (t402 != bt405.2) = true then (laws_FnAddedBackwards.j0 k l1 t397 t398 t401 t402 bt409.1 bt409.2 bt417.1 true) else ((laws_qSame.f k t401 bt405.1).bind fun t429 => (if t429 = true then (if (bt409.2 != bt413.2) = true then (laws_FnAddedBackwards.j0 k l1 t397 t398 t401 t402 bt409.1 bt409.2 bt417.1 true) else ((laws_qSame.f k bt409.1 bt413.1).bind fun t430 => (if t430 = true then (if (bt417.2 != bt419.2) = true then (laws_FnAddedBackwards.j0 k l1 t397 t398 t401 t402 bt409.1 bt409.2 bt417.1 true) else (if (bt417.1 != bt419.1) = true then (laws_FnAddedBackwards.j0 k l1 t397 t398 t401 t402 bt409.1 bt409.2 bt417.1 true) else (if (bt421.2 != bt425.2) = true then (laws_FnAddedBackwards.j0 k l1 t397 t398 t401 t402 bt409.1 bt409.2 bt417.1 true) else ((laws_qSame.f k bt421.1 bt425.1).bind fun t431 => (if t431 = true then (if (bt417.2 != bt409.2) = true then (laws_FnAddedBackwards.j0 k l1 t397 t398 t401 t402 bt409.1 bt409.2 bt417.1 true) else (if (bt421.2 != bt409.2) = true then (laws_FnAddedBackwards.j0 k l1 t397 t398 t401 t402 bt409.1 bt409.2 bt417.1 true) else (if t402 = true then (laws_FnAddedBackwards.j0 k l1 t397 t398 t401 t402 bt409.1 bt409.2 bt417.1 (!bt409.2)) else (laws_FnAddedBackwards.j0 k l1 t397 t398 t401 t402 bt409.1 bt409.2 bt417.1 false)))) else (laws_FnAddedBackwards.j0 k l1 t397 t398 t401 t402 bt409.1 bt409.2 bt417.1 true)))))) else (laws_FnAddedBackwards.j0 k l1 t397 t398 t401 t402 bt409.1 bt409.2 bt417.1 true)))) else (laws_FnAddedBackwards.j0 k l1 t397 t398 t401 t402 bt409.1 bt409.2 bt417.1 true))))))))))) = some r := H
  have A6 := Aside0.mk A60
  clear A60
  replace H := Option.bind_eq_some_iff.mp H
  obtain ⟨⟨t405, t406⟩, A70, H⟩ := H
  replace H : ((impl_CarriesOf.f k t397 t398).bind fun bt409 => ((spec_CarriesOf.f k t397 t398).bind fun bt413 => ((impl_HasNoCarry.f k t397 t398).bind fun bt417 => ((spec_HasNoCarry.f k t397 t398).bind fun bt419 => ((impl_SubtractReversed.f k t397 t398).bind fun bt421 => ((spec_SubtractReversed.f k t397 t398).bind fun bt425 => (if (t402 != t406) = true then (laws_FnAddedBackwards.j0 k l1 t397 t398 t401 t402 bt409.1 bt409.2 bt417.1 true) else ((laws_qSame.f k t401 t405).bind fun t429 => (if t429 = true then (if (bt409.2 != bt413.2) = true then (laws_FnAddedBackwards.j0 k l1 t397 t398 t401 t402 bt409.1 bt409.2 bt417.1 true) else ((laws_qSame.f k bt409.1 bt413.1).bind fun t430 => (if t430 = true then (if (bt417.2 != bt419.2) = true then (laws_FnAddedBackwards.j0 k l1 t397 t398 t401 t402 bt409.1 bt409.2 bt417.1 true) else (if (bt417.1 != bt419.1) = true then (laws_FnAddedBackwards.j0 k l1 t397 t398 t401 t402 bt409.1 bt409.2 bt417.1 true) else (if (bt421.2 != bt425.2) = true then (laws_FnAddedBackwards.j0 k l1 t397 t398 t401 t402 bt409.1 bt409.2 bt417.1 true) else ((laws_qSame.f k bt421.1 bt425.1).bind fun t431 => (if t431 = true then (if (bt417.2 != bt409.2) = true then (laws_FnAddedBackwards.j0 k l1 t397 t398 t401 t402 bt409.1 bt409.2 bt417.1 true) else (if (bt421.2 != bt409.2) = true then (laws_FnAddedBackwards.j0 k l1 t397 t398 t401 t402 bt409.1 bt409.2 bt417.1 true) else (if t402 = true then (laws_FnAddedBackwards.j0 k l1 t397 t398 t401 t402 bt409.1 bt409.2 bt417.1 (!bt409.2)) else (laws_FnAddedBackwards.j0 k l1 t397 t398 t401 t402 bt409.1 bt409.2 bt417.1 false)))) else (laws_FnAddedBackwards.j0 k l1 t397 t398 t401 t402 bt409.1 bt409.2 bt417.1 true)))))) else (laws_FnAddedBackwards.j0 k l1 t397 t398 t401 t402 bt409.1 bt409.2 bt417.1 true)))) else (laws_FnAddedBackwards.j0 k l1 t397 t398 t401 t402 bt409.1 bt409.2 bt417.1 true)))))))))) = some r := H
  have A7 := Aside0.mk A70
  clear A70
  replace H := Option.bind_eq_some_iff.mp H
  obtain ⟨⟨t409, t410⟩, A80, H⟩ := H
  replace H : ((spec_CarriesOf.f k t397 t398).bind fun bt413 => ((impl_HasNoCarry.f k t397 t398).bind fun bt417 => ((spec_HasNoCarry.f k t397 t398).bind fun bt419 => ((impl_SubtractReversed.f k t397 t398).bind fun bt421 => ((spec_SubtractReversed.f k t397 t398).bind fun bt425 => (if (t402 != t406) = true then (laws_FnAddedBackwards.j0 k l1 t397 t398 t401 t402 t409 t410 bt417.1 true) else ((laws_qSame.f k t401 t405).bind fun t429 => (if t429 = true then (if (t410 != bt413.2) = true then (laws_FnAddedBackwards.j0 k l1 t397 t398 t401 t402 t409 t410 bt417.1 true) else ((laws_qSame.f k t409 bt413.1).bind fun t430 => (if t430 = true then (if (bt417.2 != bt419.2) = true then (laws_FnAddedBackwards.j0 k l1 t397 t398 t401 t402 t409 t410 bt417.1 true) else (if (bt417.1 != bt419.1) = true then (laws_FnAddedBackwards.j0 k l1 t397 t398 t401 t402 t409 t410 bt417.1 true) else (if (bt421.2 != bt425.2) = true then (laws_FnAddedBackwards.j0 k l1 t397 t398 t401 t402 t409 t410 bt417.1 true) else ((laws_qSame.f k bt421.1 bt425.1).bind fun t431 => (if t431 = true then (if (bt417.2 != t410) = true then (laws_FnAddedBackwards.j0 k l1 t397 t398 t401 t402 t409 t410 bt417.1 true) else (if (bt421.2 != t410) = true then (laws_FnAddedBackwards.j0 k l1 t397 t398 t401 t402 t409 t410 bt417.1 true) else (if t402 = true then (laws_FnAddedBackwards.j0 k l1 t397 t398 t401 t402 t409 t410 bt417.1 (!t410)) else (laws_FnAddedBackwards.j0 k l1 t397 t398 t401 t402 t409 t410 bt417.1 false)))) else (laws_FnAddedBackwards.j0 k l1 t397 t398 t401 t402 t409 t410 bt417.1 true)))))) else (laws_FnAddedBackwards.j0 k l1 t397 t398 t401 t402 t409 t410 bt417.1 true)))) else (laws_FnAddedBackwards.j0 k l1 t397 t398 t401 t402 t409 t410 bt417.1 true))))))))) = some r := H
  have A8 := Aside0.mk A80
  clear A80
  replace H := Option.bind_eq_some_iff.mp H
  obtain ⟨⟨t413, t414⟩, A90, H⟩ := H
  replace H : ((impl_HasNoCarry.f k t397 t398).bind fun bt417 => ((spec_HasNoCarry.f k t397 t398).bind fun bt419 => ((impl_SubtractReversed.f k t397 t398).bind fun bt421 => ((spec_SubtractReversed.f k t397 t398).bind fun bt425 => (if (t402 != t406) = true then (laws_FnAddedBackwards.j0 k l1 t397 t398 t401 t402 t409 t410 bt417.1 true) else ((laws_qSame.f k t401 t405).bind fun t429 => (if t429 = true then (if (t410 != t414) = true then (laws_FnAddedBackwards.j0 k l1 t397 t398 t401 t402 t409 t410 bt417.1 true) else ((laws_qSame.f k t409 t413).bind fun t430 => (if t430 = true then (if (bt417.2 != bt419.2) = true then (laws_FnAddedBackwards.j0 k l1 t397 t398 t401 t402 t409 t410 bt417.1 true) else (if (bt417.1 != bt419.1) = true then (laws_FnAddedBackwards.j0 k l1 t397 t398 t401 t402 t409 t410 bt417.1 true) else (if (bt421.2 != bt425.2) = true then (laws_FnAddedBackwards.j0 k l1 t397 t398 t401 t402 t409 t410 bt417.1 true) else ((laws_qSame.f k bt421.1 bt425.1).bind fun t431 => (if t431 = true then (if (bt417.2 != t410) = true then (laws_FnAddedBackwards.j0 k l1 t397 t398 t401 t402 t409 t410 bt417.1 true) else (if (bt421.2 != t410) = true then (laws_FnAddedBackwards.j0 k l1 t397 t398 t401 t402 t409 t410 bt417.1 true) else (if t402 = true then (laws_FnAddedBackwards.j0 k l1 t397 t398 t401 t402 t409 t410 bt417.1 (!t410)) else (laws_FnAddedBackwards.j0 k l1 t397 t398 t401 t402 t409 t410 bt417.1 false)))) else (laws_FnAddedBackwards.j0 k l1 t397 t398 t401 t402 t409 t410 bt417.1 true)))))) else (laws_FnAddedBackwards.j0 k l1 t397 t398 t401 t402 t409 t410 bt417.1 true)))) else (laws_FnAddedBackwards.j0 k l1 t397 t398 t401 t402 t409 t410 bt417.1 true)))))))) = some r := H
  have A9 := Aside0.mk A90
  clear A90
  replace H := Option.bind_eq_some_iff.mp H
  obtain ⟨⟨t417, t418⟩, A100, H⟩ := H
  replace H : ((spec_HasNoCarry.f k t397 t398).bind fun bt419 => ((impl_SubtractReversed.f k t397 t398).bind fun bt421 => ((spec_SubtractReversed.f k t397 t398).bind fun bt425 => (if (t402 != t406) = true then (laws_FnAddedBackwards.j0 k l1 t397 t398 t401 t402 t409 t410 t417 true) else ((laws_qSame.f k t401 t405).bind fun t429 => (if t429 = true then (if (t410 != t414) = true then (laws_FnAddedBackwards.j0 k l1 t397 t398 t401 t402 t409 t410 t417 true) else ((laws_qSame.f k t409 t413).bind fun t430 => (if t430 = true then (if (t418 != bt419.2) = true then (laws_FnAddedBackwards.j0 k l1 t397 t398 t401 t402 t409 t410 t417 true) else (if (t417 != bt419.1) = true then (laws_FnAddedBackwards.j0 k l1 t397 t398 t401 t402 t409 t410 t417 true) else (if (bt421.2 != bt425.2) = true then (laws_FnAddedBackwards.j0 k l1 t397 t398 t401 t402 t409 t410 t417 true) else ((laws_qSame.f k bt421.1 bt425.1).bind fun t431 => (if t431 = true then (if (t418 != t410) = true then (laws_FnAddedBackwards.j0 k l1 t397 t398 t401 t402 t409 t410 t417 true) else (if (bt421.2 != t410) = true then (laws_FnAddedBackwards.j0 k l1 t397 t398 t401 t402 t409 t410 t417 true) else (if t402 = true then (laws_FnAddedBackwards.j0 k l1 t397 t398 t401 t402 t409 t410 t417 (!t410)) else (laws_FnAddedBackwards.j0 k l1 t397 t398 t401 t402 t409 t410 t417 false)))) else (laws_FnAddedBackwards.j0 k l1 t397 t398 t401 t402 t409 t410 t417 true)))))) else (laws_FnAddedBackwards.j0 k l1 t397 t398 t401 t402 t409 t410 t417 true)))) else (laws_FnAddedBackwards.j0 k l1 t397 t398 t401 t402 t409 t410 t417 true))))))) = some r := H
  have A10 := Aside0.mk A100
  clear A100
  replace H := Option.bind_eq_some_iff.mp H
  obtain ⟨⟨t419, t420⟩, A110, H⟩ := H
  replace H : ((impl_SubtractReversed.f k t397 t398).bind fun bt421 => ((spec_SubtractReversed.f k t397 t398).bind fun bt425 => (if (t402 != t406) = true then (laws_FnAddedBackwards.j0 k l1 t397 t398 t401 t402 t409 t410 t417 true) else ((laws_qSame.f k t401 t405).bind fun t429 => (if t429 = true then (if (t410 != t414) = true then (laws_FnAddedBackwards.j0 k l1 t397 t398 t401 t402 t409 t410 t417 true) else ((laws_qSame.f k t409 t413).bind fun t430 => (if t430 = true then (if (t418 != t420) = true then (laws_FnAddedBackwards.j0 k l1 t397 t398 t401 t402 t409 t410 t417 true) else (if (t417 != t419) = true then (laws_FnAddedBackwards.j0 k l1 t397 t398 t401 t402 t409 t410 t417 true) else (if (bt421.2 != bt425.2) = true then (laws_FnAddedBackwards.j0 k l1 t397 t398 t401 t402 t409 t410 t417 true) else ((laws_qSame.f k bt421.1 bt425.1).bind fun t431 => (if t431 = true then (if (t418 != t410) = true then (laws_FnAddedBackwards.j0 k l1 t397 t398 t401 t402 t409 t410 t417 true) else (if (bt421.2 != t410) = true then (laws_FnAddedBackwards.j0 k l1 t397 t398 t401 t402 t409 t410 t417 true) else (if t402 = true then (laws_FnAddedBackwards.j0 k l1 t397 t398 t401 t402 t409 t410 t417 (!t410)) else (laws_FnAddedBackwards.j0 k l1 t397 t398 t401 t402 t409 t410 t417 false)))) else (laws_FnAddedBackwards.j0 k l1 t397 t398 t401 t402 t409 t410 t417 true)))))) else (laws_FnAddedBackwards.j0 k l1 t397 t398 t401 t402 t409 t410 t417 true)))) else (laws_FnAddedBackwards.j0 k l1 t397 t398 t401 t402 t409 t410 t417 true)))))) = some r := H
  have A11 := Aside0.mk A110
  clear A110
  replace H := Option.bind_eq_some_iff.mp H
  obtain ⟨⟨t421, t422⟩, A120, H⟩ := H
  replace H : ((spec_SubtractReversed.f k t397 t398).bind fun bt425 => (if (t402 != t406) = true then (laws_FnAddedBackwards.j0 k l1 t397 t398 t401 t402 t409 t410 t417 true) else ((laws_qSame.f k t401 t405).bind fun t429 => (if t429 = true then (if (t410 != t414) = true then (laws_FnAddedBackwards.j0 k l1 t397 t398 t401 t402 t409 t410 t417 true) else ((laws_qSame.f k t409 t413).bind fun t430 => (if t430 = true then (if (t418 != t420) = true then (laws_FnAddedBackwards.j0 k l1 t397 t398 t401 t402 t409 t410 t417 true) else (if (t417 != t419) = true then (laws_FnAddedBackwards.j0 k l1 t397 t398 t401 t402 t409 t410 t417 true) else (if (t422 != bt425.2) = true then (laws_FnAddedBackwards.j0 k l1 t397 t398 t401 t402 t409 t410 t417 true) else ((laws_qSame.f k t421 bt425.1).bind fun t431 => (if t431 = true then (if (t418 != t410) = true then (laws_FnAddedBackwards.j0 k l1 t397 t398 t401 t402 t409 t410 t417 true) else (if (t422 != t410) = true then (laws_FnAddedBackwards.j0 k l1 t397 t398 t401 t402 t409 t410 t417 true) else (if t402 = true then (laws_FnAddedBackwards.j0 k l1 t397 t398 t401 t402 t409 t410 t417 (!t410)) else (laws_FnAddedBackwards.j0 k l1 t397 t398 t401 t402 t409 t410 t417 false)))) else (laws_FnAddedBackwards.j0 k l1 t397 t398 t401 t402 t409 t410 t417 true)))))) else (laws_FnAddedBackwards.j0 k l1 t397 t398 t401 t402 t409 t410 t417 true)))) else (laws_FnAddedBackwards.j0 k l1 t397 t398 t401 t402 t409 t410 t417 true))))) = some r := H
  have A12 := Aside0.mk A120
  clear A120
  replace H := Option.bind_eq_some_iff.mp H
  obtain ⟨⟨t425, t426⟩, A130, H⟩ := H
  replace H : (if (t402 != t406) = true then (laws_FnAddedBackwards.j0 k l1 t397 t398 t401 t402 t409 t410 t417 true) else ((laws_qSame.f k t401 t405).bind fun t429 => (if t429 = true then (if (t410 != t414) = true then (laws_FnAddedBackwards.j0 k l1 t397 t398 t401 t402 t409 t410 t417 true) else ((laws_qSame.f k t409 t413).bind fun t430 => (if t430 = true then (if (t418 != t420) = true then (laws_FnAddedBackwards.j0 k l1 t397 t398 t401 t402 t409 t410 t417 true) else (if (t417 != t419) = true then (laws_FnAddedBackwards.j0 k l1 t397 t398 t401 t402 t409 t410 t417 true) else (if (t422 != t426) = true then (laws_FnAddedBackwards.j0 k l1 t397 t398 t401 t402 t409 t410 t417 true) else ((laws_qSame.f k t421 t425).bind fun t431 => (if t431 = true then (if (t418 != t410) = true then (laws_FnAddedBackwards.j0 k l1 t397 t398 t401 t402 t409 t410 t417 true) else (if (t422 != t410) = true then (laws_FnAddedBackwards.j0 k l1 t397 t398 t401 t402 t409 t410 t417 true) else (if t402 = true then (laws_FnAddedBackwards.j0 k l1 t397 t398 t401 t402 t409 t410 t417 (!t410)) else (laws_FnAddedBackwards.j0 k l1 t397 t398 t401 t402 t409 t410 t417 false)))) else (laws_FnAddedBackwards.j0 k l1 t397 t398 t401 t402 t409 t410 t417 true)))))) else (laws_FnAddedBackwards.j0 k l1 t397 t398 t401 t402 t409 t410 t417 true)))) else (laws_FnAddedBackwards.j0 k l1 t397 t398 t401 t402 t409 t410 t417 true)))) = some r := H
  have A13 := Aside0.mk A130
  clear A130
  have HC14 := Aside0.mk H
  clear H
  go_enter Try.func6, Try.ntmps6
  go_upto_region 12 with (first | (go_at_call 15; (with_reducible refine (laws_big.calls _ _ l0 _ _ l1 false _ ?side1 ?side2 ?side3 ?side4 A3.out).mono ?_); (case side1 => repeat (first | exact HR0.out | (with_reducible refine Kd.C_alloc ?_ _) | (with_reducible refine Kd.C_drewN ?_ _) | (with_reducible refine Kd.C_drew ?_))); (case side2 => exact HC0.out); (case side3 => repeat (first | exact HR1.out | (with_reducible refine Kd.C_alloc ?_ _) | (with_reducible refine Kd.C_drewN ?_ _) | (with_reducible refine Kd.C_drew ?_))); (case side4 => exact HC1.out); rintro e w' ⟨rfl, ⟨nd, rfl⟩⟩; (try first | exact ⟨rfl, _, World.drewN_drewN _ _ _⟩ | exact ⟨rfl, _, Eq.trans (World.drewN_drewN _ _ _) (congrArg (World.drewN _) (Nat.add_assoc _ _ _))⟩)) | (go_at_call 56; (with_reducible refine (spec_DrawAddReversed.calls k _ _ l0 t397 t398 _ ?side1 ?side2 A5.out).mono ?_); (case side1 => repeat (first | exact HR0.out | (with_reducible refine Kd.C_alloc ?_ _) | (with_reducible refine Kd.C_drewN ?_ _) | (with_reducible refine Kd.C_drew ?_))); (case side2 => exact HC0.out); rintro e w15 ⟨v399, rfl, ho0, hb⟩; have n0_ := Aside0.mk (Kd.R_lower ho0 (below_size (by repeat (first | (with_reducible first | exact HB.out | apply below_alloc | apply pw_below_drewN | apply below_drew1) | exact HB.out)))); have n1_ := Aside0.mk (below_step (by repeat (first | (with_reducible first | exact HB.out | apply below_alloc | apply pw_below_drewN | apply below_drew1) | exact HB.out)) hb); clear HB; have HO400 := n0_; have HB := n1_; clear n0_ n1_; (try clear hb); (try clear hb2); (try clear hk); (try clear hi); (try clear ho0); obtain ⟨Ao16, co16, eo16⟩ := Kd.R_slice HO400.out; subst eo16) | (go_at_call 57; (with_reducible refine (impl_AddReversed.calls k _ _ t397 t398 t401 t402 _ ?side1 ?side2 A6.out).mono ?_); (case side1 => repeat (first | exact (Kd.R_reads' HO400.out).2.2 | (with_reducible refine Kd.C_alloc ?_ _) | (with_reducible refine Kd.C_drewN ?_ _) | (with_reducible refine Kd.C_drew ?_))); (case side2 => exact (Kd.R_reads' HO400.out).2.1); rintro e w17 ⟨v403, rfl, ho0, hb⟩; have n0_ := Aside0.mk (Kd.R_elder' (by (with_reducible repeat (first | apply Kd.R_alloc | apply Kd.R_drewN | apply Kd.R_drew)); exact HO400.out) (Kd.R_base ho0) hb); have n1_ := Aside0.mk (Kd.R_lower (Kd.R_new' ho0 (Kd.R_lt (by (with_reducible repeat (first | apply Kd.R_alloc | apply Kd.R_drewN | apply Kd.R_drew)); exact HO400.out))) (below_size (by repeat (first | (with_reducible first | exact HB.out | apply below_alloc | apply pw_below_drewN | apply below_drew1) | exact HB.out)))); have n2_ := Aside0.mk (below_step (by repeat (first | (with_reducible first | exact HB.out | apply below_alloc | apply pw_below_drewN | apply below_drew1) | exact HB.out)) hb); clear HO400; clear HB; have HO400 := n0_; have HO404 := n1_; have HB := n2_; clear n0_ n1_ n2_; (try clear hb); (try clear hb2); (try clear hk); (try clear hi); (try clear ho0)) | (go_at_call 58; (with_reducible refine (spec_AddReversed.calls k _ _ t397 t398 t405 t406 _ ?side1 ?side2 A7.out).mono ?_); (case side1 => repeat (first | exact (Kd.R_reads' HO400.out).2.2 | (with_reducible refine Kd.C_alloc ?_ _) | (with_reducible refine Kd.C_drewN ?_ _) | (with_reducible refine Kd.C_drew ?_))); (case side2 => exact (Kd.R_reads' HO400.out).2.1); rintro e w18 ⟨v407, rfl, ho0, hb⟩; have n0_ := Aside0.mk (Kd.R_elder' (by (with_reducible repeat (first | apply Kd.R_alloc | apply Kd.R_drewN | apply Kd.R_drew)); exact HO400.out) (Kd.R_base ho0) hb); have n1_ := Aside0.mk (Kd.R_elder' (by (with_reducible repeat (first | apply Kd.R_alloc | apply Kd.R_drewN | apply Kd.R_drew)); exact HO404.out) (Kd.R_base ho0) hb); have n2_ := Aside0.mk (Kd.R_lower (Kd.R_new' (Kd.R_new' ho0 (Kd.R_lt (by (with_reducible repeat (first | apply Kd.R_alloc | apply Kd.R_drewN | apply Kd.R_drew)); exact HO400.out))) (Kd.R_lt (by (with_reducible repeat (first | apply Kd.R_alloc | apply Kd.R_drewN | apply Kd.R_drew)); exact HO404.out))) (below_size (by repeat (first | (with_reducible first | exact HB.out | apply below_alloc | apply pw_below_drewN | apply below_drew1) | exact HB.out)))); have n3_ := Aside0.mk (below_step (by repeat (first | (with_reducible first | exact HB.out | apply below_alloc | apply pw_below_drewN | apply below_drew1) | exact HB.out)) hb); clear HO400; clear HO404; clear HB; have HO400 := n0_; have HO404 := n1_; have HO408 := n2_; have HB := n3_; clear n0_ n1_ n2_ n3_; (try clear hb); (try clear hb2); (try clear hk); (try clear hi); (try clear ho0)) | (go_at_call 59; (with_reducible refine (impl_CarriesOf.calls k _ _ t397 t398 t409 t410 _ ?side1 ?side2 A8.out).mono ?_); (case side1 => repeat (first | exact (Kd.R_reads' HO400.out).2.2 | (with_reducible refine Kd.C_alloc ?_ _) | (with_reducible refine Kd.C_drewN ?_ _) | (with_reducible refine Kd.C_drew ?_))); (case side2 => exact (Kd.R_reads' HO400.out).2.1); rintro e w19 ⟨v411, rfl, ho0, hb⟩; have n0_ := Aside0.mk (Kd.R_elder' (by (with_reducible repeat (first | apply Kd.R_alloc | apply Kd.R_drewN | apply Kd.R_drew)); exact HO400.out) (Kd.R_base ho0) hb); have n1_ := Aside0.mk (Kd.R_elder' (by (with_reducible repeat (first | apply Kd.R_alloc | apply Kd.R_drewN | apply Kd.R_drew)); exact HO404.out) (Kd.R_base ho0) hb); have n2_ := Aside0.mk (Kd.R_elder' (by (with_reducible repeat (first | apply Kd.R_alloc | apply Kd.R_drewN | apply Kd.R_drew)); exact HO408.out) (Kd.R_base ho0) hb); have n3_ := Aside0.mk (Kd.R_lower (Kd.R_new' (Kd.R_new' (Kd.R_new' ho0 (Kd.R_lt (by (with_reducible repeat (first | apply Kd.R_alloc | apply Kd.R_drewN | apply Kd.R_drew)); exact HO400.out))) (Kd.R_lt (by (with_reducible repeat (first | apply Kd.R_alloc | apply Kd.R_drewN | apply Kd.R_drew)); exact HO404.out))) (Kd.R_lt (by (with_reducible repeat (first | apply Kd.R_alloc | apply Kd.R_drewN | apply Kd.R_drew)); exact HO408.out))) (below_size (by repeat (first | (with_reducible first | exact HB.out | apply below_alloc | apply pw_below_drewN | apply below_drew1) | exact HB.out)))); have n4_ := Aside0.mk (below_step (by repeat (first | (with_reducible first | exact HB.out | apply below_alloc | apply pw_below_drewN | apply below_drew1) | exact HB.out)) hb); clear HO400; clear HO404; clear HO408; clear HB; have HO400 := n0_; have HO404 := n1_; have HO408 := n2_; have HO412 := n3_; have HB := n4_; clear n0_ n1_ n2_ n3_ n4_; (try clear hb); (try clear hb2); (try clear hk); (try clear hi); (try clear ho0)) | (go_at_call 60; (with_reducible refine (spec_CarriesOf.calls k _ _ t397 t398 t413 t414 _ ?side1 ?side2 A9.out).mono ?_); (case side1 => repeat (first | exact (Kd.R_reads' HO400.out).2.2 | (with_reducible refine Kd.C_alloc ?_ _) | (with_reducible refine Kd.C_drewN ?_ _) | (with_reducible refine Kd.C_drew ?_))); (case side2 => exact (Kd.R_reads' HO400.out).2.1); rintro e w20 ⟨v415, rfl, ho0, hb⟩; have n0_ := Aside0.mk (Kd.R_elder' (by (with_reducible repeat (first | apply Kd.R_alloc | apply Kd.R_drewN | apply Kd.R_drew)); exact HO400.out) (Kd.R_base ho0) hb); have n1_ := Aside0.mk (Kd.R_elder' (by (with_reducible repeat (first | apply Kd.R_alloc | apply Kd.R_drewN | apply Kd.R_drew)); exact HO404.out) (Kd.R_base ho0) hb); have n2_ := Aside0.mk (Kd.R_elder' (by (with_reducible repeat (first | apply Kd.R_alloc | apply Kd.R_drewN | apply Kd.R_drew)); exact HO408.out) (Kd.R_base ho0) hb); have n3_ := Aside0.mk (Kd.R_elder' (by (with_reducible repeat (first | apply Kd.R_alloc | apply Kd.R_drewN | apply Kd.R_drew)); exact HO412.out) (Kd.R_base ho0) hb); have n4_ := Aside0.mk (Kd.R_lower (Kd.R_new' (Kd.R_new' (Kd.R_new' (Kd.R_new' ho0 (Kd.R_lt (by (with_reducible repeat (first | apply Kd.R_alloc | apply Kd.R_drewN | apply Kd.R_drew)); exact HO400.out))) (Kd.R_lt (by (with_reducible repeat (first | apply Kd.R_alloc | apply Kd.R_drewN | apply Kd.R_drew)); exact HO404.out))) (Kd.R_lt (by (with_reducible repeat (first | apply Kd.R_alloc | apply Kd.R_drewN | apply Kd.R_drew)); exact HO408.out))) (Kd.R_lt (by (with_reducible repeat (first | apply Kd.R_alloc | apply Kd.R_drewN | apply Kd.R_drew)); exact HO412.out))) (below_size (by repeat (first | (with_reducible first | exact HB.out | apply below_alloc | apply pw_below_drewN | apply below_drew1) | exact HB.out)))); have n5_ := Aside0.mk (below_step (by repeat (first | (with_reducible first | exact HB.out | apply below_alloc | apply pw_below_drewN | apply below_drew1) | exact HB.out)) hb); clear HO400; clear HO404; clear HO408; clear HO412; clear HB; have HO400 := n0_; have HO404 := n1_; have HO408 := n2_; have HO412 := n3_; have HO416 := n4_; have HB := n5_; clear n0_ n1_ n2_ n3_ n4_ n5_; (try clear hb); (try clear hb2); (try clear hk); (try clear hi); (try clear ho0)) | (go_at_call 61; (with_reducible refine (impl_HasNoCarry.calls k _ _ t397 t398 t417 t418 _ ?side1 ?side2 A10.out).mono ?_); (case side1 => repeat (first | exact (Kd.R_reads' HO400.out).2.2 | (with_reducible refine Kd.C_alloc ?_ _) | (with_reducible refine Kd.C_drewN ?_ _) | (with_reducible refine Kd.C_drew ?_))); (case side2 => exact (Kd.R_reads' HO400.out).2.1); rintro e w21 ⟨rfl, hb⟩; have n0_ := Aside0.mk (Kd.R_below (by (with_reducible repeat (first | apply Kd.R_alloc | apply Kd.R_drewN | apply Kd.R_drew)); exact HO400.out) hb); have n1_ := Aside0.mk (Kd.R_below (by (with_reducible repeat (first | apply Kd.R_alloc | apply Kd.R_drewN | apply Kd.R_drew)); exact HO404.out) hb); have n2_ := Aside0.mk (Kd.R_below (by (with_reducible repeat (first | apply Kd.R_alloc | apply Kd.R_drewN | apply Kd.R_drew)); exact HO408.out) hb); have n3_ := Aside0.mk (Kd.R_below (by (with_reducible repeat (first | apply Kd.R_alloc | apply Kd.R_drewN | apply Kd.R_drew)); exact HO412.out) hb); have n4_ := Aside0.mk (Kd.R_below (by (with_reducible repeat (first | apply Kd.R_alloc | apply Kd.R_drewN | apply Kd.R_drew)); exact HO416.out) hb); have n5_ := Aside0.mk (below_step (by repeat (first | (with_reducible first | exact HB.out | apply below_alloc | apply pw_below_drewN | apply below_drew1) | exact HB.out)) hb); clear HO400; clear HO404; clear HO408; clear HO412; clear HO416; clear HB; have HO400 := n0_; have HO404 := n1_; have HO408 := n2_; have HO412 := n3_; have HO416 := n4_; have HB := n5_; clear n0_ n1_ n2_ n3_ n4_ n5_; (try clear hb); (try clear hb2); (try clear hk); (try clear hi)) | (go_at_call 62; (with_reducible refine (spec_HasNoCarry.calls k _ _ t397 t398 t419 t420 _ ?side1 ?side2 A11.out).mono ?_); (case side1 => repeat (first | exact (Kd.R_reads' HO400.out).2.2 | (with_reducible refine Kd.C_alloc ?_ _) | (with_reducible refine Kd.C_drewN ?_ _) | (with_reducible refine Kd.C_drew ?_))); (case side2 => exact (Kd.R_reads' HO400.out).2.1); rintro e w22 ⟨rfl, hb⟩; have n0_ := Aside0.mk (Kd.R_below (by (with_reducible repeat (first | apply Kd.R_alloc | apply Kd.R_drewN | apply Kd.R_drew)); exact HO400.out) hb); have n1_ := Aside0.mk (Kd.R_below (by (with_reducible repeat (first | apply Kd.R_alloc | apply Kd.R_drewN | apply Kd.R_drew)); exact HO404.out) hb); have n2_ := Aside0.mk (Kd.R_below (by (with_reducible repeat (first | apply Kd.R_alloc | apply Kd.R_drewN | apply Kd.R_drew)); exact HO408.out) hb); have n3_ := Aside0.mk (Kd.R_below (by (with_reducible repeat (first | apply Kd.R_alloc | apply Kd.R_drewN | apply Kd.R_drew)); exact HO412.out) hb); have n4_ := Aside0.mk (Kd.R_below (by (with_reducible repeat (first | apply Kd.R_alloc | apply Kd.R_drewN | apply Kd.R_drew)); exact HO416.out) hb); have n5_ := Aside0.mk (below_step (by repeat (first | (with_reducible first | exact HB.out | apply below_alloc | apply pw_below_drewN | apply below_drew1) | exact HB.out)) hb); clear HO400; clear HO404; clear HO408; clear HO412; clear HO416; clear HB; have HO400 := n0_; have HO404 := n1_; have HO408 := n2_; have HO412 := n3_; have HO416 := n4_; have HB := n5_; clear n0_ n1_ n2_ n3_ n4_ n5_; (try clear hb); (try clear hb2); (try clear hk); (try clear hi)) | (go_at_call 63; (with_reducible refine (impl_SubtractReversed.calls k _ _ t397 t398 t421 t422 _ ?side1 ?side2 A12.out).mono ?_); (case side1 => repeat (first | exact (Kd.R_reads' HO400.out).2.2 | (with_reducible refine Kd.C_alloc ?_ _) | (with_reducible refine Kd.C_drewN ?_ _) | (with_reducible refine Kd.C_drew ?_))); (case side2 => exact (Kd.R_reads' HO400.out).2.1); rintro e w23 ⟨v423, rfl, ho0, hb⟩; have n0_ := Aside0.mk (Kd.R_elder' (by (with_reducible repeat (first | apply Kd.R_alloc | apply Kd.R_drewN | apply Kd.R_drew)); exact HO400.out) (Kd.R_base ho0) hb); have n1_ := Aside0.mk (Kd.R_elder' (by (with_reducible repeat (first | apply Kd.R_alloc | apply Kd.R_drewN | apply Kd.R_drew)); exact HO404.out) (Kd.R_base ho0) hb); have n2_ := Aside0.mk (Kd.R_elder' (by (with_reducible repeat (first | apply Kd.R_alloc | apply Kd.R_drewN | apply Kd.R_drew)); exact HO408.out) (Kd.R_base ho0) hb); have n3_ := Aside0.mk (Kd.R_elder' (by (with_reducible repeat (first | apply Kd.R_alloc | apply Kd.R_drewN | apply Kd.R_drew)); exact HO412.out) (Kd.R_base ho0) hb); have n4_ := Aside0.mk (Kd.R_elder' (by (with_reducible repeat (first | apply Kd.R_alloc | apply Kd.R_drewN | apply Kd.R_drew)); exact HO416.out) (Kd.R_base ho0) hb); have n5_ := Aside0.mk (Kd.R_lower (Kd.R_new' (Kd.R_new' (Kd.R_new' (Kd.R_new' (Kd.R_new' ho0 (Kd.R_lt (by (with_reducible repeat (first | apply Kd.R_alloc | apply Kd.R_drewN | apply Kd.R_drew)); exact HO400.out))) (Kd.R_lt (by (with_reducible repeat (first | apply Kd.R_alloc | apply Kd.R_drewN | apply Kd.R_drew)); exact HO404.out))) (Kd.R_lt (by (with_reducible repeat (first | apply Kd.R_alloc | apply Kd.R_drewN | apply Kd.R_drew)); exact HO408.out))) (Kd.R_lt (by (with_reducible repeat (first | apply Kd.R_alloc | apply Kd.R_drewN | apply Kd.R_drew)); exact HO412.out))) (Kd.R_lt (by (with_reducible repeat (first | apply Kd.R_alloc | apply Kd.R_drewN | apply Kd.R_drew)); exact HO416.out))) (below_size (by repeat (first | (with_reducible first | exact HB.out | apply below_alloc | apply pw_below_drewN | apply below_drew1) | exact HB.out)))); have n6_ := Aside0.mk (below_step (by repeat (first | (with_reducible first | exact HB.out | apply below_alloc | apply pw_below_drewN | apply below_drew1) | exact HB.out)) hb); clear HO400; clear HO404; clear HO408; clear HO412; clear HO416; clear HB; have HO400 := n0_; have HO404 := n1_; have HO408 := n2_; have HO412 := n3_; have HO416 := n4_; have HO424 := n5_; have HB := n6_; clear n0_ n1_ n2_ n3_ n4_ n5_ n6_; (try clear hb); (try clear hb2); (try clear hk); (try clear hi); (try clear ho0)) | (go_at_call 64; (with_reducible refine (spec_SubtractReversed.calls k _ _ t397 t398 t425 t426 _ ?side1 ?side2 A13.out).mono ?_); (case side1 => repeat (first | exact (Kd.R_reads' HO400.out).2.2 | (with_reducible refine Kd.C_alloc ?_ _) | (with_reducible refine Kd.C_drewN ?_ _) | (with_reducible refine Kd.C_drew ?_))); (case side2 => exact (Kd.R_reads' HO400.out).2.1); rintro e w24 ⟨v427, rfl, ho0, hb⟩; have n0_ := Aside0.mk (Kd.R_elder' (by (with_reducible repeat (first | apply Kd.R_alloc | apply Kd.R_drewN | apply Kd.R_drew)); exact HO400.out) (Kd.Q_base ho0) hb); have n1_ := Aside0.mk (Kd.R_elder' (by (with_reducible repeat (first | apply Kd.R_alloc | apply Kd.R_drewN | apply Kd.R_drew)); exact HO404.out) (Kd.Q_base ho0) hb); have n2_ := Aside0.mk (Kd.R_elder' (by (with_reducible repeat (first | apply Kd.R_alloc | apply Kd.R_drewN | apply Kd.R_drew)); exact HO408.out) (Kd.Q_base ho0) hb); have n3_ := Aside0.mk (Kd.R_elder' (by (with_reducible repeat (first | apply Kd.R_alloc | apply Kd.R_drewN | apply Kd.R_drew)); exact HO412.out) (Kd.Q_base ho0) hb); have n4_ := Aside0.mk (Kd.R_elder' (by (with_reducible repeat (first | apply Kd.R_alloc | apply Kd.R_drewN | apply Kd.R_drew)); exact HO416.out) (Kd.Q_base ho0) hb); have n5_ := Aside0.mk (Kd.R_elder' (by (with_reducible repeat (first | apply Kd.R_alloc | apply Kd.R_drewN | apply Kd.R_drew)); exact HO424.out) (Kd.Q_base ho0) hb); have n6_ := Aside0.mk (Kd.Q_lower (Kd.Q_new' (Kd.Q_new' (Kd.Q_new' (Kd.Q_new' (Kd.Q_new' (Kd.Q_new' ho0 (Kd.R_lt (by (with_reducible repeat (first | apply Kd.R_alloc | apply Kd.R_drewN | apply Kd.R_drew)); exact HO400.out))) (Kd.R_lt (by (with_reducible repeat (first | apply Kd.R_alloc | apply Kd.R_drewN | apply Kd.R_drew)); exact HO404.out))) (Kd.R_lt (by (with_reducible repeat (first | apply Kd.R_alloc | apply Kd.R_drewN | apply Kd.R_drew)); exact HO408.out))) (Kd.R_lt (by (with_reducible repeat (first | apply Kd.R_alloc | apply Kd.R_drewN | apply Kd.R_drew)); exact HO412.out))) (Kd.R_lt (by (with_reducible repeat (first | apply Kd.R_alloc | apply Kd.R_drewN | apply Kd.R_drew)); exact HO416.out))) (Kd.R_lt (by (with_reducible repeat (first | apply Kd.R_alloc | apply Kd.R_drewN | apply Kd.R_drew)); exact HO424.out))) (below_size (by repeat (first | (with_reducible first | exact HB.out | apply below_alloc | apply pw_below_drewN | apply below_drew1) | exact HB.out)))); have n7_ := Aside0.mk (below_step (by repeat (first | (with_reducible first | exact HB.out | apply below_alloc | apply pw_below_drewN | apply below_drew1) | exact HB.out)) hb); clear HO400; clear HO404; clear HO408; clear HO412; clear HO416; clear HO424; clear HB; have HO400 := n0_; have HO404 := n1_; have HO408 := n2_; have HO412 := n3_; have HO416 := n4_; have HO424 := n5_; have HO428 := n6_; have HB := n7_; clear n0_ n1_ n2_ n3_ n4_ n5_ n6_ n7_; (try clear hb); (try clear hb2); (try clear hk); (try clear hi); (try clear ho0)))
  repeat (go_quiet (first | (go_at_call 15; (with_reducible refine (laws_big.calls _ _ l0 _ _ l1 false _ ?side1 ?side2 ?side3 ?side4 A3.out).mono ?_); (case side1 => repeat (first | exact HR0.out | (with_reducible refine Kd.C_alloc ?_ _) | (with_reducible refine Kd.C_drewN ?_ _) | (with_reducible refine Kd.C_drew ?_))); (case side2 => exact HC0.out); (case side3 => repeat (first | exact HR1.out | (with_reducible refine Kd.C_alloc ?_ _) | (with_reducible refine Kd.C_drewN ?_ _) | (with_reducible refine Kd.C_drew ?_))); (case side4 => exact HC1.out); rintro e w' ⟨rfl, ⟨nd, rfl⟩⟩; (try first | exact ⟨rfl, _, World.drewN_drewN _ _ _⟩ | exact ⟨rfl, _, Eq.trans (World.drewN_drewN _ _ _) (congrArg (World.drewN _) (Nat.add_assoc _ _ _))⟩)) | (go_at_call 56; (with_reducible refine (spec_DrawAddReversed.calls k _ _ l0 t397 t398 _ ?side1 ?side2 A5.out).mono ?_); (case side1 => repeat (first | exact HR0.out | (with_reducible refine Kd.C_alloc ?_ _) | (with_reducible refine Kd.C_drewN ?_ _) | (with_reducible refine Kd.C_drew ?_))); (case side2 => exact HC0.out); rintro e w15 ⟨v399, rfl, ho0, hb⟩; have n0_ := Aside0.mk (Kd.R_lower ho0 (below_size (by repeat (first | (with_reducible first | exact HB.out | apply below_alloc | apply pw_below_drewN | apply below_drew1) | exact HB.out)))); have n1_ := Aside0.mk (below_step (by repeat (first | (with_reducible first | exact HB.out | apply below_alloc | apply pw_below_drewN | apply below_drew1) | exact HB.out)) hb); clear HB; have HO400 := n0_; have HB := n1_; clear n0_ n1_; (try clear hb); (try clear hb2); (try clear hk); (try clear hi); (try clear ho0); obtain ⟨Ao16, co16, eo16⟩ := Kd.R_slice HO400.out; subst eo16) | (go_at_call 57; (with_reducible refine (impl_AddReversed.calls k _ _ t397 t398 t401 t402 _ ?side1 ?side2 A6.out).mono ?_); (case side1 => repeat (first | exact (Kd.R_reads' HO400.out).2.2 | (with_reducible refine Kd.C_alloc ?_ _) | (with_reducible refine Kd.C_drewN ?_ _) | (with_reducible refine Kd.C_drew ?_))); (case side2 => exact (Kd.R_reads' HO400.out).2.1); rintro e w17 ⟨v403, rfl, ho0, hb⟩; have n0_ := Aside0.mk (Kd.R_elder' (by (with_reducible repeat (first | apply Kd.R_alloc | apply Kd.R_drewN | apply Kd.R_drew)); exact HO400.out) (Kd.R_base ho0) hb); have n1_ := Aside0.mk (Kd.R_lower (Kd.R_new' ho0 (Kd.R_lt (by (with_reducible repeat (first | apply Kd.R_alloc | apply Kd.R_drewN | apply Kd.R_drew)); exact HO400.out))) (below_size (by repeat (first | (with_reducible first | exact HB.out | apply below_alloc | apply pw_below_drewN | apply below_drew1) | exact HB.out)))); have n2_ := Aside0.mk (below_step (by repeat (first | (with_reducible first | exact HB.out | apply below_alloc | apply pw_below_drewN | apply below_drew1) | exact HB.out)) hb); clear HO400; clear HB; have HO400 := n0_; have HO404 := n1_; have HB := n2_; clear n0_ n1_ n2_; (try clear hb); (try clear hb2); (try clear hk); (try clear hi); (try clear ho0)) | (go_at_call 58; (with_reducible refine (spec_AddReversed.calls k _ _ t397 t398 t405 t406 _ ?side1 ?side2 A7.out).mono ?_); (case side1 => repeat (first | exact (Kd.R_reads' HO400.out).2.2 | (with_reducible refine Kd.C_alloc ?_ _) | (with_reducible refine Kd.C_drewN ?_ _) | (with_reducible refine Kd.C_drew ?_))); (case side2 => exact (Kd.R_reads' HO400.out).2.1); rintro e w18 ⟨v407, rfl, ho0, hb⟩; have n0_ := Aside0.mk (Kd.R_elder' (by (with_reducible repeat (first | apply Kd.R_alloc | apply Kd.R_drewN | apply Kd.R_drew)); exact HO400.out) (Kd.R_base ho0) hb); have n1_ := Aside0.mk (Kd.R_elder' (by (with_reducible repeat (first | apply Kd.R_alloc | apply Kd.R_drewN | apply Kd.R_drew)); exact HO404.out) (Kd.R_base ho0) hb); have n2_ := Aside0.mk (Kd.R_lower (Kd.R_new' (Kd.R_new' ho0 (Kd.R_lt (by (with_reducible repeat (first | apply Kd.R_alloc | apply Kd.R_drewN | apply Kd.R_drew)); exact HO400.out))) (Kd.R_lt (by (with_reducible repeat (first | apply Kd.R_alloc | apply Kd.R_drewN | apply Kd.R_drew)); exact HO404.out))) (below_size (by repeat (first | (with_reducible first | exact HB.out | apply below_alloc | apply pw_below_drewN | apply below_drew1) | exact HB.out)))); have n3_ := Aside0.mk (below_step (by repeat (first | (with_reducible first | exact HB.out | apply below_alloc | apply pw_below_drewN | apply below_drew1) | exact HB.out)) hb); clear HO400; clear HO404; clear HB; have HO400 := n0_; have HO404 := n1_; have HO408 := n2_; have HB := n3_; clear n0_ n1_ n2_ n3_; (try clear hb); (try clear hb2); (try clear hk); (try clear hi); (try clear ho0)) | (go_at_call 59; (with_reducible refine (impl_CarriesOf.calls k _ _ t397 t398 t409 t410 _ ?side1 ?side2 A8.out).mono ?_); (case side1 => repeat (first | exact (Kd.R_reads' HO400.out).2.2 | (with_reducible refine Kd.C_alloc ?_ _) | (with_reducible refine Kd.C_drewN ?_ _) | (with_reducible refine Kd.C_drew ?_))); (case side2 => exact (Kd.R_reads' HO400.out).2.1); rintro e w19 ⟨v411, rfl, ho0, hb⟩; have n0_ := Aside0.mk (Kd.R_elder' (by (with_reducible repeat (first | apply Kd.R_alloc | apply Kd.R_drewN | apply Kd.R_drew)); exact HO400.out) (Kd.R_base ho0) hb); have n1_ := Aside0.mk (Kd.R_elder' (by (with_reducible repeat (first | apply Kd.R_alloc | apply Kd.R_drewN | apply Kd.R_drew)); exact HO404.out) (Kd.R_base ho0) hb); have n2_ := Aside0.mk (Kd.R_elder' (by (with_reducible repeat (first | apply Kd.R_alloc | apply Kd.R_drewN | apply Kd.R_drew)); exact HO408.out) (Kd.R_base ho0) hb); have n3_ := Aside0.mk (Kd.R_lower (Kd.R_new' (Kd.R_new' (Kd.R_new' ho0 (Kd.R_lt (by (with_reducible repeat (first | apply Kd.R_alloc | apply Kd.R_drewN | apply Kd.R_drew)); exact HO400.out))) (Kd.R_lt (by (with_reducible repeat (first | apply Kd.R_alloc | apply Kd.R_drewN | apply Kd.R_drew)); exact HO404.out))) (Kd.R_lt (by (with_reducible repeat (first | apply Kd.R_alloc | apply Kd.R_drewN | apply Kd.R_drew)); exact HO408.out))) (below_size (by repeat (first | (with_reducible first | exact HB.out | apply below_alloc | apply pw_below_drewN | apply below_drew1) | exact HB.out)))); have n4_ := Aside0.mk (below_step (by repeat (first | (with_reducible first | exact HB.out | apply below_alloc | apply pw_below_drewN | apply below_drew1) | exact HB.out)) hb); clear HO400; clear HO404; clear HO408; clear HB; have HO400 := n0_; have HO404 := n1_; have HO408 := n2_; have HO412 := n3_; have HB := n4_; clear n0_ n1_ n2_ n3_ n4_; (try clear hb); (try clear hb2); (try clear hk); (try clear hi); (try clear ho0)) | (go_at_call 60; (with_reducible refine (spec_CarriesOf.calls k _ _ t397 t398 t413 t414 _ ?side1 ?side2 A9.out).mono ?_); (case side1 => repeat (first | exact (Kd.R_reads' HO400.out).2.2 | (with_reducible refine Kd.C_alloc ?_ _) | (with_reducible refine Kd.C_drewN ?_ _) | (with_reducible refine Kd.C_drew ?_))); (case side2 => exact (Kd.R_reads' HO400.out).2.1); rintro e w20 ⟨v415, rfl, ho0, hb⟩; have n0_ := Aside0.mk (Kd.R_elder' (by (with_reducible repeat (first | apply Kd.R_alloc | apply Kd.R_drewN | apply Kd.R_drew)); exact HO400.out) (Kd.R_base ho0) hb); have n1_ := Aside0.mk (Kd.R_elder' (by (with_reducible repeat (first | apply Kd.R_alloc | apply Kd.R_drewN | apply Kd.R_drew)); exact HO404.out) (Kd.R_base ho0) hb); have n2_ := Aside0.mk (Kd.R_elder' (by (with_reducible repeat (first | apply Kd.R_alloc | apply Kd.R_drewN | apply Kd.R_drew)); exact HO408.out) (Kd.R_base ho0) hb); have n3_ := Aside0.mk (Kd.R_elder' (by (with_reducible repeat (first | apply Kd.R_alloc | apply Kd.R_drewN | apply Kd.R_drew)); exact HO412.out) (Kd.R_base ho0) hb); have n4_ := Aside0.mk (Kd.R_lower (Kd.R_new' (Kd.R_new' (Kd.R_new' (Kd.R_new' ho0 (Kd.R_lt (by (with_reducible repeat (first | apply Kd.R_alloc | apply Kd.R_drewN | apply Kd.R_drew)); exact HO400.out))) (Kd.R_lt (by (with_reducible repeat (first | apply Kd.R_alloc | apply Kd.R_drewN | apply Kd.R_drew)); exact HO404.out))) (Kd.R_lt (by (with_reducible repeat (first | apply Kd.R_alloc | apply Kd.R_drewN | apply Kd.R_drew)); exact HO408.out))) (Kd.R_lt (by (with_reducible repeat (first | apply Kd.R_alloc | apply Kd.R_drewN | apply Kd.R_drew)); exact HO412.out))) (below_size (by repeat (first | (with_reducible first | exact HB.out | apply below_alloc | apply pw_below_drewN | apply below_drew1) | exact HB.out)))); have n5_ := Aside0.mk (below_step (by repeat (first | (with_reducible first | exact HB.out | apply below_alloc | apply pw_below_drewN | apply below_drew1) | exact HB.out)) hb); clear HO400; clear HO404; clear HO408; clear HO412; clear HB; have HO400 := n0_; have HO404 := n1_; have HO408 := n2_; have HO412 := n3_; have HO416 := n4_; have HB := n5_; clear n0_ n1_ n2_ n3_ n4_ n5_; (try clear hb); (try clear hb2); (try clear hk); (try clear hi); (try clear ho0)) | (go_at_call 61; (with_reducible refine (impl_HasNoCarry.calls k _ _ t397 t398 t417 t418 _ ?side1 ?side2 A10.out).mono ?_); (case side1 => repeat (first | exact (Kd.R_reads' HO400.out).2.2 | (with_reducible refine Kd.C_alloc ?_ _) | (with_reducible refine Kd.C_drewN ?_ _) | (with_reducible refine Kd.C_drew ?_))); (case side2 => exact (Kd.R_reads' HO400.out).2.1); rintro e w21 ⟨rfl, hb⟩; have n0_ := Aside0.mk (Kd.R_below (by (with_reducible repeat (first | apply Kd.R_alloc | apply Kd.R_drewN | apply Kd.R_drew)); exact HO400.out) hb); have n1_ := Aside0.mk (Kd.R_below (by (with_reducible repeat (first | apply Kd.R_alloc | apply Kd.R_drewN | apply Kd.R_drew)); exact HO404.out) hb); have n2_ := Aside0.mk (Kd.R_below (by (with_reducible repeat (first | apply Kd.R_alloc | apply Kd.R_drewN | apply Kd.R_drew)); exact HO408.out) hb); have n3_ := Aside0.mk (Kd.R_below (by (with_reducible repeat (first | apply Kd.R_alloc | apply Kd.R_drewN | apply Kd.R_drew)); exact HO412.out) hb); have n4_ := Aside0.mk (Kd.R_below (by (with_reducible repeat (first | apply Kd.R_alloc | apply Kd.R_drewN | apply Kd.R_drew)); exact HO416.out) hb); have n5_ := Aside0.mk (below_step (by repeat (first | (with_reducible first | exact HB.out | apply below_alloc | apply pw_below_drewN | apply below_drew1) | exact HB.out)) hb); clear HO400; clear HO404; clear HO408; clear HO412; clear HO416; clear HB; have HO400 := n0_; have HO404 := n1_; have HO408 := n2_; have HO412 := n3_; have HO416 := n4_; have HB := n5_; clear n0_ n1_ n2_ n3_ n4_ n5_; (try clear hb); (try clear hb2); (try clear hk); (try clear hi)) | (go_at_call 62; (with_reducible refine (spec_HasNoCarry.calls k _ _ t397 t398 t419 t420 _ ?side1 ?side2 A11.out).mono ?_); (case side1 => repeat (first | exact (Kd.R_reads' HO400.out).2.2 | (with_reducible refine Kd.C_alloc ?_ _) | (with_reducible refine Kd.C_drewN ?_ _) | (with_reducible refine Kd.C_drew ?_))); (case side2 => exact (Kd.R_reads' HO400.out).2.1); rintro e w22 ⟨rfl, hb⟩; have n0_ := Aside0.mk (Kd.R_below (by (with_reducible repeat (first | apply Kd.R_alloc | apply Kd.R_drewN | apply Kd.R_drew)); exact HO400.out) hb); have n1_ := Aside0.mk (Kd.R_below (by (with_reducible repeat (first | apply Kd.R_alloc | apply Kd.R_drewN | apply Kd.R_drew)); exact HO404.out) hb); have n2_ := Aside0.mk (Kd.R_below (by (with_reducible repeat (first | apply Kd.R_alloc | apply Kd.R_drewN | apply Kd.R_drew)); exact HO408.out) hb); have n3_ := Aside0.mk (Kd.R_below (by (with_reducible repeat (first | apply Kd.R_alloc | apply Kd.R_drewN | apply Kd.R_drew)); exact HO412.out) hb); have n4_ := Aside0.mk (Kd.R_below (by (with_reducible repeat (first | apply Kd.R_alloc | apply Kd.R_drewN | apply Kd.R_drew)); exact HO416.out) hb); have n5_ := Aside0.mk (below_step (by repeat (first | (with_reducible first | exact HB.out | apply below_alloc | apply pw_below_drewN | apply below_drew1) | exact HB.out)) hb); clear HO400; clear HO404; clear HO408; clear HO412; clear HO416; clear HB; have HO400 := n0_; have HO404 := n1_; have HO408 := n2_; have HO412 := n3_; have HO416 := n4_; have HB := n5_; clear n0_ n1_ n2_ n3_ n4_ n5_; (try clear hb); (try clear hb2); (try clear hk); (try clear hi)) | (go_at_call 63; (with_reducible refine (impl_SubtractReversed.calls k _ _ t397 t398 t421 t422 _ ?side1 ?side2 A12.out).mono ?_); (case side1 => repeat (first | exact (Kd.R_reads' HO400.out).2.2 | (with_reducible refine Kd.C_alloc ?_ _) | (with_reducible refine Kd.C_drewN ?_ _) | (with_reducible refine Kd.C_drew ?_))); (case side2 => exact (Kd.R_reads' HO400.out).2.1); rintro e w23 ⟨v423, rfl, ho0, hb⟩; have n0_ := Aside0.mk (Kd.R_elder' (by (with_reducible repeat (first | apply Kd.R_alloc | apply Kd.R_drewN | apply Kd.R_drew)); exact HO400.out) (Kd.R_base ho0) hb); have n1_ := Aside0.mk (Kd.R_elder' (by (with_reducible repeat (first | apply Kd.R_alloc | apply Kd.R_drewN | apply Kd.R_drew)); exact HO404.out) (Kd.R_base ho0) hb); have n2_ := Aside0.mk (Kd.R_elder' (by (with_reducible repeat (first | apply Kd.R_alloc | apply Kd.R_drewN | apply Kd.R_drew)); exact HO408.out) (Kd.R_base ho0) hb); have n3_ := Aside0.mk (Kd.R_elder' (by (with_reducible repeat (first | apply Kd.R_alloc | apply Kd.R_drewN | apply Kd.R_drew)); exact HO412.out) (Kd.R_base ho0) hb); have n4_ := Aside0.mk (Kd.R_elder' (by (with_reducible repeat (first | apply Kd.R_alloc | apply Kd.R_drewN | apply Kd.R_drew)); exact HO416.out) (Kd.R_base ho0) hb); have n5_ := Aside0.mk (Kd.R_lower (Kd.R_new' (Kd.R_new' (Kd.R_new' (Kd.R_new' (Kd.R_new' ho0 (Kd.R_lt (by (with_reducible repeat (first | apply Kd.R_alloc | apply Kd.R_drewN | apply Kd.R_drew)); exact HO400.out))) (Kd.R_lt (by (with_reducible repeat (first | apply Kd.R_alloc | apply Kd.R_drewN | apply Kd.R_drew)); exact HO404.out))) (Kd.R_lt (by (with_reducible repeat (first | apply Kd.R_alloc | apply Kd.R_drewN | apply Kd.R_drew)); exact HO408.out))) (Kd.R_lt (by (with_reducible repeat (first | apply Kd.R_alloc | apply Kd.R_drewN | apply Kd.R_drew)); exact HO412.out))) (Kd.R_lt (by (with_reducible repeat (first | apply Kd.R_alloc | apply Kd.R_drewN | apply Kd.R_drew)); exact HO416.out))) (below_size (by repeat (first | (with_reducible first | exact HB.out | apply below_alloc | apply pw_below_drewN | apply below_drew1) | exact HB.out)))); have n6_ := Aside0.mk (below_step (by repeat (first | (with_reducible first | exact HB.out | apply below_alloc | apply pw_below_drewN | apply below_drew1) | exact HB.out)) hb); clear HO400; clear HO404; clear HO408; clear HO412; clear HO416; clear HB; have HO400 := n0_; have HO404 := n1_; have HO408 := n2_; have HO412 := n3_; have HO416 := n4_; have HO424 := n5_; have HB := n6_; clear n0_ n1_ n2_ n3_ n4_ n5_ n6_; (try clear hb); (try clear hb2); (try clear hk); (try clear hi); (try clear ho0)) | (go_at_call 64; (with_reducible refine (spec_SubtractReversed.calls k _ _ t397 t398 t425 t426 _ ?side1 ?side2 A13.out).mono ?_); (case side1 => repeat (first | exact (Kd.R_reads' HO400.out).2.2 | (with_reducible refine Kd.C_alloc ?_ _) | (with_reducible refine Kd.C_drewN ?_ _) | (with_reducible refine Kd.C_drew ?_))); (case side2 => exact (Kd.R_reads' HO400.out).2.1); rintro e w24 ⟨v427, rfl, ho0, hb⟩; have n0_ := Aside0.mk (Kd.R_elder' (by (with_reducible repeat (first | apply Kd.R_alloc | apply Kd.R_drewN | apply Kd.R_drew)); exact HO400.out) (Kd.Q_base ho0) hb); have n1_ := Aside0.mk (Kd.R_elder' (by (with_reducible repeat (first | apply Kd.R_alloc | apply Kd.R_drewN | apply Kd.R_drew)); exact HO404.out) (Kd.Q_base ho0) hb); have n2_ := Aside0.mk (Kd.R_elder' (by (with_reducible repeat (first | apply Kd.R_alloc | apply Kd.R_drewN | apply Kd.R_drew)); exact HO408.out) (Kd.Q_base ho0) hb); have n3_ := Aside0.mk (Kd.R_elder' (by (with_reducible repeat (first | apply Kd.R_alloc | apply Kd.R_drewN | apply Kd.R_drew)); exact HO412.out) (Kd.Q_base ho0) hb); have n4_ := Aside0.mk (Kd.R_elder' (by (with_reducible repeat (first | apply Kd.R_alloc | apply Kd.R_drewN | apply Kd.R_drew)); exact HO416.out) (Kd.Q_base ho0) hb); have n5_ := Aside0.mk (Kd.R_elder' (by (with_reducible repeat (first | apply Kd.R_alloc | apply Kd.R_drewN | apply Kd.R_drew)); exact HO424.out) (Kd.Q_base ho0) hb); have n6_ := Aside0.mk (Kd.Q_lower (Kd.Q_new' (Kd.Q_new' (Kd.Q_new' (Kd.Q_new' (Kd.Q_new' (Kd.Q_new' ho0 (Kd.R_lt (by (with_reducible repeat (first | apply Kd.R_alloc | apply Kd.R_drewN | apply Kd.R_drew)); exact HO400.out))) (Kd.R_lt (by (with_reducible repeat (first | apply Kd.R_alloc | apply Kd.R_drewN | apply Kd.R_drew)); exact HO404.out))) (Kd.R_lt (by (with_reducible repeat (first | apply Kd.R_alloc | apply Kd.R_drewN | apply Kd.R_drew)); exact HO408.out))) (Kd.R_lt (by (with_reducible repeat (first | apply Kd.R_alloc | apply Kd.R_drewN | apply Kd.R_drew)); exact HO412.out))) (Kd.R_lt (by (with_reducible repeat (first | apply Kd.R_alloc | apply Kd.R_drewN | apply Kd.R_drew)); exact HO416.out))) (Kd.R_lt (by (with_reducible repeat (first | apply Kd.R_alloc | apply Kd.R_drewN | apply Kd.R_drew)); exact HO424.out))) (below_size (by repeat (first | (with_reducible first | exact HB.out | apply below_alloc | apply pw_below_drewN | apply below_drew1) | exact HB.out)))); have n7_ := Aside0.mk (below_step (by repeat (first | (with_reducible first | exact HB.out | apply below_alloc | apply pw_below_drewN | apply below_drew1) | exact HB.out)) hb); clear HO400; clear HO404; clear HO408; clear HO412; clear HO416; clear HO424; clear HB; have HO400 := n0_; have HO404 := n1_; have HO408 := n2_; have HO412 := n3_; have HO416 := n4_; have HO424 := n5_; have HO428 := n6_; have HB := n7_; clear n0_ n1_ n2_ n3_ n4_ n5_ n6_ n7_; (try clear hb); (try clear hb2); (try clear hk); (try clear hi); (try clear ho0))); go_upto_region 12 with (first | (go_at_call 15; (with_reducible refine (laws_big.calls _ _ l0 _ _ l1 false _ ?side1 ?side2 ?side3 ?side4 A3.out).mono ?_); (case side1 => repeat (first | exact HR0.out | (with_reducible refine Kd.C_alloc ?_ _) | (with_reducible refine Kd.C_drewN ?_ _) | (with_reducible refine Kd.C_drew ?_))); (case side2 => exact HC0.out); (case side3 => repeat (first | exact HR1.out | (with_reducible refine Kd.C_alloc ?_ _) | (with_reducible refine Kd.C_drewN ?_ _) | (with_reducible refine Kd.C_drew ?_))); (case side4 => exact HC1.out); rintro e w' ⟨rfl, ⟨nd, rfl⟩⟩; (try first | exact ⟨rfl, _, World.drewN_drewN _ _ _⟩ | exact ⟨rfl, _, Eq.trans (World.drewN_drewN _ _ _) (congrArg (World.drewN _) (Nat.add_assoc _ _ _))⟩)) | (go_at_call 56; (with_reducible refine (spec_DrawAddReversed.calls k _ _ l0 t397 t398 _ ?side1 ?side2 A5.out).mono ?_); (case side1 => repeat (first | exact HR0.out | (with_reducible refine Kd.C_alloc ?_ _) | (with_reducible refine Kd.C_drewN ?_ _) | (with_reducible refine Kd.C_drew ?_))); (case side2 => exact HC0.out); rintro e w15 ⟨v399, rfl, ho0, hb⟩; have n0_ := Aside0.mk (Kd.R_lower ho0 (below_size (by repeat (first | (with_reducible first | exact HB.out | apply below_alloc | apply pw_below_drewN | apply below_drew1) | exact HB.out)))); have n1_ := Aside0.mk (below_step (by repeat (first | (with_reducible first | exact HB.out | apply below_alloc | apply pw_below_drewN | apply below_drew1) | exact HB.out)) hb); clear HB; have HO400 := n0_; have HB := n1_; clear n0_ n1_; (try clear hb); (try clear hb2); (try clear hk); (try clear hi); (try clear ho0); obtain ⟨Ao16, co16, eo16⟩ := Kd.R_slice HO400.out; subst eo16) | (go_at_call 57; (with_reducible refine (impl_AddReversed.calls k _ _ t397 t398 t401 t402 _ ?side1 ?side2 A6.out).mono ?_); (case side1 => repeat (first | exact (Kd.R_reads' HO400.out).2.2 | (with_reducible refine Kd.C_alloc ?_ _) | (with_reducible refine Kd.C_drewN ?_ _) | (with_reducible refine Kd.C_drew ?_))); (case side2 => exact (Kd.R_reads' HO400.out).2.1); rintro e w17 ⟨v403, rfl, ho0, hb⟩; have n0_ := Aside0.mk (Kd.R_elder' (by (with_reducible repeat (first | apply Kd.R_alloc | apply Kd.R_drewN | apply Kd.R_drew)); exact HO400.out) (Kd.R_base ho0) hb); have n1_ := Aside0.mk (Kd.R_lower (Kd.R_new' ho0 (Kd.R_lt (by (with_reducible repeat (first | apply Kd.R_alloc | apply Kd.R_drewN | apply Kd.R_drew)); exact HO400.out))) (below_size (by repeat (first | (with_reducible first | exact HB.out | apply below_alloc | apply pw_below_drewN | apply below_drew1) | exact HB.out)))); have n2_ := Aside0.mk (below_step (by repeat (first | (with_reducible first | exact HB.out | apply below_alloc | apply pw_below_drewN | apply below_drew1) | exact HB.out)) hb); clear HO400; clear HB; have HO400 := n0_; have HO404 := n1_; have HB := n2_; clear n0_ n1_ n2_; (try clear hb); (try clear hb2); (try clear hk); (try clear hi); (try clear ho0)) | (go_at_call 58; (with_reducible refine (spec_AddReversed.calls k _ _ t397 t398 t405 t406 _ ?side1 ?side2 A7.out).mono ?_); (case side1 => repeat (first | exact (Kd.R_reads' HO400.out).2.2 | (with_reducible refine Kd.C_alloc ?_ _) | (with_reducible refine Kd.C_drewN ?_ _) | (with_reducible refine Kd.C_drew ?_))); (case side2 => exact (Kd.R_reads' HO400.out).2.1); rintro e w18 ⟨v407, rfl, ho0, hb⟩; have n0_ := Aside0.mk (Kd.R_elder' (by (with_reducible repeat (first | apply Kd.R_alloc | apply Kd.R_drewN | apply Kd.R_drew)); exact HO400.out) (Kd.R_base ho0) hb); have n1_ := Aside0.mk (Kd.R_elder' (by (with_reducible repeat (first | apply Kd.R_alloc | apply Kd.R_drewN | apply Kd.R_drew)); exact HO404.out) (Kd.R_base ho0) hb); have n2_ := Aside0.mk (Kd.R_lower (Kd.R_new' (Kd.R_new' ho0 (Kd.R_lt (by (with_reducible repeat (first | apply Kd.R_alloc | apply Kd.R_drewN | apply Kd.R_drew)); exact HO400.out))) (Kd.R_lt (by (with_reducible repeat (first | apply Kd.R_alloc | apply Kd.R_drewN | apply Kd.R_drew)); exact HO404.out))) (below_size (by repeat (first | (with_reducible first | exact HB.out | apply below_alloc | apply pw_below_drewN | apply below_drew1) | exact HB.out)))); have n3_ := Aside0.mk (below_step (by repeat (first | (with_reducible first | exact HB.out | apply below_alloc | apply pw_below_drewN | apply below_drew1) | exact HB.out)) hb); clear HO400; clear HO404; clear HB; have HO400 := n0_; have HO404 := n1_; have HO408 := n2_; have HB := n3_; clear n0_ n1_ n2_ n3_; (try clear hb); (try clear hb2); (try clear hk); (try clear hi); (try clear ho0)) | (go_at_call 59; (with_reducible refine (impl_CarriesOf.calls k _ _ t397 t398 t409 t410 _ ?side1 ?side2 A8.out).mono ?_); (case side1 => repeat (first | exact (Kd.R_reads' HO400.out).2.2 | (with_reducible refine Kd.C_alloc ?_ _) | (with_reducible refine Kd.C_drewN ?_ _) | (with_reducible refine Kd.C_drew ?_))); (case side2 => exact (Kd.R_reads' HO400.out).2.1); rintro e w19 ⟨v411, rfl, ho0, hb⟩; have n0_ := Aside0.mk (Kd.R_elder' (by (with_reducible repeat (first | apply Kd.R_alloc | apply Kd.R_drewN | apply Kd.R_drew)); exact HO400.out) (Kd.R_base ho0) hb); have n1_ := Aside0.mk (Kd.R_elder' (by (with_reducible repeat (first | apply Kd.R_alloc | apply Kd.R_drewN | apply Kd.R_drew)); exact HO404.out) (Kd.R_base ho0) hb); have n2_ := Aside0.mk (Kd.R_elder' (by (with_reducible repeat (first | apply Kd.R_alloc | apply Kd.R_drewN | apply Kd.R_drew)); exact HO408.out) (Kd.R_base ho0) hb); have n3_ := Aside0.mk (Kd.R_lower (Kd.R_new' (Kd.R_new' (Kd.R_new' ho0 (Kd.R_lt (by (with_reducible repeat (first | apply Kd.R_alloc | apply Kd.R_drewN | apply Kd.R_drew)); exact HO400.out))) (Kd.R_lt (by (with_reducible repeat (first | apply Kd.R_alloc | apply Kd.R_drewN | apply Kd.R_drew)); exact HO404.out))) (Kd.R_lt (by (with_reducible repeat (first | apply Kd.R_alloc | apply Kd.R_drewN | apply Kd.R_drew)); exact HO408.out))) (below_size (by repeat (first | (with_reducible first | exact HB.out | apply below_alloc | apply pw_below_drewN | apply below_drew1) | exact HB.out)))); have n4_ := Aside0.mk (below_step (by repeat (first | (with_reducible first | exact HB.out | apply below_alloc | apply pw_below_drewN | apply below_drew1) | exact HB.out)) hb); clear HO400; clear HO404; clear HO408; clear HB; have HO400 := n0_; have HO404 := n1_; have HO408 := n2_; have HO412 := n3_; have HB := n4_; clear n0_ n1_ n2_ n3_ n4_; (try clear hb); (try clear hb2); (try clear hk); (try clear hi); (try clear ho0)) | (go_at_call 60; (with_reducible refine (spec_CarriesOf.calls k _ _ t397 t398 t413 t414 _ ?side1 ?side2 A9.out).mono ?_); (case side1 => repeat (first | exact (Kd.R_reads' HO400.out).2.2 | (with_reducible refine Kd.C_alloc ?_ _) | (with_reducible refine Kd.C_drewN ?_ _) | (with_reducible refine Kd.C_drew ?_))); (case side2 => exact (Kd.R_reads' HO400.out).2.1); rintro e w20 ⟨v415, rfl, ho0, hb⟩; have n0_ := Aside0.mk (Kd.R_elder' (by (with_reducible repeat (first | apply Kd.R_alloc | apply Kd.R_drewN | apply Kd.R_drew)); exact HO400.out) (Kd.R_base ho0) hb); have n1_ := Aside0.mk (Kd.R_elder' (by (with_reducible repeat (first | apply Kd.R_alloc | apply Kd.R_drewN | apply Kd.R_drew)); exact HO404.out) (Kd.R_base ho0) hb); have n2_ := Aside0.mk (Kd.R_elder' (by (with_reducible repeat (first | apply Kd.R_alloc | apply Kd.R_drewN | apply Kd.R_drew)); exact HO408.out) (Kd.R_base ho0) hb); have n3_ := Aside0.mk (Kd.R_elder' (by (with_reducible repeat (first | apply Kd.R_alloc | apply Kd.R_drewN | apply Kd.R_drew)); exact HO412.out) (Kd.R_base ho0) hb); have n4_ := Aside0.mk (Kd.R_lower (Kd.R_new' (Kd.R_new' (Kd.R_new' (Kd.R_new' ho0 (Kd.R_lt (by (with_reducible repeat (first | apply Kd.R_alloc | apply Kd.R_drewN | apply Kd.R_drew)); exact HO400.out))) (Kd.R_lt (by (with_reducible repeat (first | apply Kd.R_alloc | apply Kd.R_drewN | apply Kd.R_drew)); exact HO404.out))) (Kd.R_lt (by (with_reducible repeat (first | apply Kd.R_alloc | apply Kd.R_drewN | apply Kd.R_drew)); exact HO408.out))) (Kd.R_lt (by (with_reducible repeat (first | apply Kd.R_alloc | apply Kd.R_drewN | apply Kd.R_drew)); exact HO412.out))) (below_size (by repeat (first | (with_reducible first | exact HB.out | apply below_alloc | apply pw_below_drewN | apply below_drew1) | exact HB.out)))); have n5_ := Aside0.mk (below_step (by repeat (first | (with_reducible first | exact HB.out | apply below_alloc | apply pw_below_drewN | apply below_drew1) | exact HB.out)) hb); clear HO400; clear HO404; clear HO408; clear HO412; clear HB; have HO400 := n0_; have HO404 := n1_; have HO408 := n2_; have HO412 := n3_; have HO416 := n4_; have HB := n5_; clear n0_ n1_ n2_ n3_ n4_ n5_; (try clear hb); (try clear hb2); (try clear hk); (try clear hi); (try clear ho0)) | (go_at_call 61; (with_reducible refine (impl_HasNoCarry.calls k _ _ t397 t398 t417 t418 _ ?side1 ?side2 A10.out).mono ?_); (case side1 => repeat (first | exact (Kd.R_reads' HO400.out).2.2 | (with_reducible refine Kd.C_alloc ?_ _) | (with_reducible refine Kd.C_drewN ?_ _) | (with_reducible refine Kd.C_drew ?_))); (case side2 => exact (Kd.R_reads' HO400.out).2.1); rintro e w21 ⟨rfl, hb⟩; have n0_ := Aside0.mk (Kd.R_below (by (with_reducible repeat (first | apply Kd.R_alloc | apply Kd.R_drewN | apply Kd.R_drew)); exact HO400.out) hb); have n1_ := Aside0.mk (Kd.R_below (by (with_reducible repeat (first | apply Kd.R_alloc | apply Kd.R_drewN | apply Kd.R_drew)); exact HO404.out) hb); have n2_ := Aside0.mk (Kd.R_below (by (with_reducible repeat (first | apply Kd.R_alloc | apply Kd.R_drewN | apply Kd.R_drew)); exact HO408.out) hb); have n3_ := Aside0.mk (Kd.R_below (by (with_reducible repeat (first | apply Kd.R_alloc | apply Kd.R_drewN | apply Kd.R_drew)); exact HO412.out) hb); have n4_ := Aside0.mk (Kd.R_below (by (with_reducible repeat (first | apply Kd.R_alloc | apply Kd.R_drewN | apply Kd.R_drew)); exact HO416.out) hb); have n5_ := Aside0.mk (below_step (by repeat (first | (with_reducible first | exact HB.out | apply below_alloc | apply pw_below_drewN | apply below_drew1) | exact HB.out)) hb); clear HO400; clear HO404; clear HO408; clear HO412; clear HO416; clear HB; have HO400 := n0_; have HO404 := n1_; have HO408 := n2_; have HO412 := n3_; have HO416 := n4_; have HB := n5_; clear n0_ n1_ n2_ n3_ n4_ n5_; (try clear hb); (try clear hb2); (try clear hk); (try clear hi)) | (go_at_call 62; (with_reducible refine (spec_HasNoCarry.calls k _ _ t397 t398 t419 t420 _ ?side1 ?side2 A11.out).mono ?_); (case side1 => repeat (first | exact (Kd.R_reads' HO400.out).2.2 | (with_reducible refine Kd.C_alloc ?_ _) | (with_reducible refine Kd.C_drewN ?_ _) | (with_reducible refine Kd.C_drew ?_))); (case side2 => exact (Kd.R_reads' HO400.out).2.1); rintro e w22 ⟨rfl, hb⟩; have n0_ := Aside0.mk (Kd.R_below (by (with_reducible repeat (first | apply Kd.R_alloc | apply Kd.R_drewN | apply Kd.R_drew)); exact HO400.out) hb); have n1_ := Aside0.mk (Kd.R_below (by (with_reducible repeat (first | apply Kd.R_alloc | apply Kd.R_drewN | apply Kd.R_drew)); exact HO404.out) hb); have n2_ := Aside0.mk (Kd.R_below (by (with_reducible repeat (first | apply Kd.R_alloc | apply Kd.R_drewN | apply Kd.R_drew)); exact HO408.out) hb); have n3_ := Aside0.mk (Kd.R_below (by (with_reducible repeat (first | apply Kd.R_alloc | apply Kd.R_drewN | apply Kd.R_drew)); exact HO412.out) hb); have n4_ := Aside0.mk (Kd.R_below (by (with_reducible repeat (first | apply Kd.R_alloc | apply Kd.R_drewN | apply Kd.R_drew)); exact HO416.out) hb); have n5_ := Aside0.mk (below_step (by repeat (first | (with_reducible first | exact HB.out | apply below_alloc | apply pw_below_drewN | apply below_drew1) | exact HB.out)) hb); clear HO400; clear HO404; clear HO408; clear HO412; clear HO416; clear HB; have HO400 := n0_; have HO404 := n1_; have HO408 := n2_; have HO412 := n3_; have HO416 := n4_; have HB := n5_; clear n0_ n1_ n2_ n3_ n4_ n5_; (try clear hb); (try clear hb2); (try clear hk); (try clear hi)) | (go_at_call 63; (with_reducible refine (impl_SubtractReversed.calls k _ _ t397 t398 t421 t422 _ ?side1 ?side2 A12.out).mono ?_); (case side1 => repeat (first | exact (Kd.R_reads' HO400.out).2.2 | (with_reducible refine Kd.C_alloc ?_ _) | (with_reducible refine Kd.C_drewN ?_ _) | (with_reducible refine Kd.C_drew ?_))); (case side2 => exact (Kd.R_reads' HO400.out).2.1); rintro e w23 ⟨v423, rfl, ho0, hb⟩; have n0_ := Aside0.mk (Kd.R_elder' (by (with_reducible repeat (first | apply Kd.R_alloc | apply Kd.R_drewN | apply Kd.R_drew)); exact HO400.out) (Kd.R_base ho0) hb); have n1_ := Aside0.mk (Kd.R_elder' (by (with_reducible repeat (first | apply Kd.R_alloc | apply Kd.R_drewN | apply Kd.R_drew)); exact HO404.out) (Kd.R_base ho0) hb); have n2_ := Aside0.mk (Kd.R_elder' (by (with_reducible repeat (first | apply Kd.R_alloc | apply Kd.R_drewN | apply Kd.R_drew)); exact HO408.out) (Kd.R_base ho0) hb); have n3_ := Aside0.mk (Kd.R_elder' (by (with_reducible repeat (first | apply Kd.R_alloc | apply Kd.R_drewN | apply Kd.R_drew)); exact HO412.out) (Kd.R_base ho0) hb); have n4_ := Aside0.mk (Kd.R_elder' (by (with_reducible repeat (first | apply Kd.R_alloc | apply Kd.R_drewN | apply Kd.R_drew)); exact HO416.out) (Kd.R_base ho0) hb); have n5_ := Aside0.mk (Kd.R_lower (Kd.R_new' (Kd.R_new' (Kd.R_new' (Kd.R_new' (Kd.R_new' ho0 (Kd.R_lt (by (with_reducible repeat (first | apply Kd.R_alloc | apply Kd.R_drewN | apply Kd.R_drew)); exact HO400.out))) (Kd.R_lt (by (with_reducible repeat (first | apply Kd.R_alloc | apply Kd.R_drewN | apply Kd.R_drew)); exact HO404.out))) (Kd.R_lt (by (with_reducible repeat (first | apply Kd.R_alloc | apply Kd.R_drewN | apply Kd.R_drew)); exact HO408.out))) (Kd.R_lt (by (with_reducible repeat (first | apply Kd.R_alloc | apply Kd.R_drewN | apply Kd.R_drew)); exact HO412.out))) (Kd.R_lt (by (with_reducible repeat (first | apply Kd.R_alloc | apply Kd.R_drewN | apply Kd.R_drew)); exact HO416.out))) (below_size (by repeat (first | (with_reducible first | exact HB.out | apply below_alloc | apply pw_below_drewN | apply below_drew1) | exact HB.out)))); have n6_ := Aside0.mk (below_step (by repeat (first | (with_reducible first | exact HB.out | apply below_alloc | apply pw_below_drewN | apply below_drew1) | exact HB.out)) hb); clear HO400; clear HO404; clear HO408; clear HO412; clear HO416; clear HB; have HO400 := n0_; have HO404 := n1_; have HO408 := n2_; have HO412 := n3_; have HO416 := n4_; have HO424 := n5_; have HB := n6_; clear n0_ n1_ n2_ n3_ n4_ n5_ n6_; (try clear hb); (try clear hb2); (try clear hk); (try clear hi); (try clear ho0)) | (go_at_call 64; (with_reducible refine (spec_SubtractReversed.calls k _ _ t397 t398 t425 t426 _ ?side1 ?side2 A13.out).mono ?_); (case side1 => repeat (first | exact (Kd.R_reads' HO400.out).2.2 | (with_reducible refine Kd.C_alloc ?_ _) | (with_reducible refine Kd.C_drewN ?_ _) | (with_reducible refine Kd.C_drew ?_))); (case side2 => exact (Kd.R_reads' HO400.out).2.1); rintro e w24 ⟨v427, rfl, ho0, hb⟩; have n0_ := Aside0.mk (Kd.R_elder' (by (with_reducible repeat (first | apply Kd.R_alloc | apply Kd.R_drewN | apply Kd.R_drew)); exact HO400.out) (Kd.Q_base ho0) hb); have n1_ := Aside0.mk (Kd.R_elder' (by (with_reducible repeat (first | apply Kd.R_alloc | apply Kd.R_drewN | apply Kd.R_drew)); exact HO404.out) (Kd.Q_base ho0) hb); have n2_ := Aside0.mk (Kd.R_elder' (by (with_reducible repeat (first | apply Kd.R_alloc | apply Kd.R_drewN | apply Kd.R_drew)); exact HO408.out) (Kd.Q_base ho0) hb); have n3_ := Aside0.mk (Kd.R_elder' (by (with_reducible repeat (first | apply Kd.R_alloc | apply Kd.R_drewN | apply Kd.R_drew)); exact HO412.out) (Kd.Q_base ho0) hb); have n4_ := Aside0.mk (Kd.R_elder' (by (with_reducible repeat (first | apply Kd.R_alloc | apply Kd.R_drewN | apply Kd.R_drew)); exact HO416.out) (Kd.Q_base ho0) hb); have n5_ := Aside0.mk (Kd.R_elder' (by (with_reducible repeat (first | apply Kd.R_alloc | apply Kd.R_drewN | apply Kd.R_drew)); exact HO424.out) (Kd.Q_base ho0) hb); have n6_ := Aside0.mk (Kd.Q_lower (Kd.Q_new' (Kd.Q_new' (Kd.Q_new' (Kd.Q_new' (Kd.Q_new' (Kd.Q_new' ho0 (Kd.R_lt (by (with_reducible repeat (first | apply Kd.R_alloc | apply Kd.R_drewN | apply Kd.R_drew)); exact HO400.out))) (Kd.R_lt (by (with_reducible repeat (first | apply Kd.R_alloc | apply Kd.R_drewN | apply Kd.R_drew)); exact HO404.out))) (Kd.R_lt (by (with_reducible repeat (first | apply Kd.R_alloc | apply Kd.R_drewN | apply Kd.R_drew)); exact HO408.out))) (Kd.R_lt (by (with_reducible repeat (first | apply Kd.R_alloc | apply Kd.R_drewN | apply Kd.R_drew)); exact HO412.out))) (Kd.R_lt (by (with_reducible repeat (first | apply Kd.R_alloc | apply Kd.R_drewN | apply Kd.R_drew)); exact HO416.out))) (Kd.R_lt (by (with_reducible repeat (first | apply Kd.R_alloc | apply Kd.R_drewN | apply Kd.R_drew)); exact HO424.out))) (below_size (by repeat (first | (with_reducible first | exact HB.out | apply below_alloc | apply pw_below_drewN | apply below_drew1) | exact HB.out)))); have n7_ := Aside0.mk (below_step (by repeat (first | (with_reducible first | exact HB.out | apply below_alloc | apply pw_below_drewN | apply below_drew1) | exact HB.out)) hb); clear HO400; clear HO404; clear HO408; clear HO412; clear HO416; clear HO424; clear HB; have HO400 := n0_; have HO404 := n1_; have HO408 := n2_; have HO412 := n3_; have HO416 := n4_; have HO424 := n5_; have HO428 := n6_; have HB := n7_; clear n0_ n1_ n2_ n3_ n4_ n5_ n6_ n7_; (try clear hb); (try clear hb2); (try clear hk); (try clear hi); (try clear ho0))))
  (try simp only [Act.put, List.setIfInBounds_toArray, List.set_cons_zero, List.set_cons_succ])
  go_cut [151] (fun v151 wc => ∃ (kq : Nat) (x151_13 : Bool), v151 = .bool x151_13 ∧ Aside0 (laws_FnAddedBackwards.j0 kq l1 t397 t398 t401 t402 t409 t410 t417 x151_13 = some r) ∧ Aside0 (kq ≤ k) ∧ Aside0 (Kd.R (Kd.int .i64) 3 wc w.heap.size (fun k_ => some k_ ≠ (v403 : Value).ownBlock ∧ some k_ ≠ (v411 : Value).ownBlock) (.slice Ao16 t397.length co16) t397) ∧ Aside0 (Kd.R (Kd.int .i64) 3 wc w.heap.size (fun k_ => some k_ ≠ ((.slice Ao16 t397.length co16) : Value).ownBlock ∧ some k_ ≠ (v411 : Value).ownBlock) v403 t401) ∧ Aside0 (Kd.R (Kd.int .i64) 3 wc w.heap.size (fun k_ => some k_ ≠ ((.slice Ao16 t397.length co16) : Value).ownBlock ∧ some k_ ≠ (v403 : Value).ownBlock) v411 t409) ∧ Aside0 (Below w.heap.size w wc))
  case first =>
   as_aux_lemma =>
   have H := HC14.out
   clear HC14
   by_cases c25 : (t402 != t406) = true
   ·rw [if_pos c25] at H
    have c25b0 : (t402 != t406) = true := c25
    (try (have c25b1 : decide (t402 = t406) = false := by simpa using c25))
    (try (have c25b2 : (t402 == t406) = false := by simpa using c25))
    (try (have c25b3 : ¬ (t402 = t406) := by simpa using c25))
    clear c25
    (first | rw [c25b0] | (simp only [i64_w, i32_w]; rw [c25b0]) | skip)
    exact (laws_FnAddedBackwards.j0_no HR_.out _ _ _ _ _ _ _ _ _ H).elim
   ·rw [if_neg c25] at H
    have c25b0 : (t402 != t406) = false := by simpa using c25
    (try (have c25b1 : decide (t402 = t406) = true := by simpa using c25))
    (try (have c25b2 : (t402 == t406) = true := by simpa using c25))
    clear c25
    (first | rw [c25b0] | (simp only [i64_w, i32_w]; rw [c25b0]) | skip)
    replace H := Option.bind_eq_some_iff.mp H
    obtain ⟨t429, A260, H⟩ := H
    replace H : (if t429 = true then (if (t410 != t414) = true then (laws_FnAddedBackwards.j0 k l1 t397 t398 t401 t402 t409 t410 t417 true) else ((laws_qSame.f k t409 t413).bind fun t430 => (if t430 = true then (if (t418 != t420) = true then (laws_FnAddedBackwards.j0 k l1 t397 t398 t401 t402 t409 t410 t417 true) else (if (t417 != t419) = true then (laws_FnAddedBackwards.j0 k l1 t397 t398 t401 t402 t409 t410 t417 true) else (if (t422 != t426) = true then (laws_FnAddedBackwards.j0 k l1 t397 t398 t401 t402 t409 t410 t417 true) else ((laws_qSame.f k t421 t425).bind fun t431 => (if t431 = true then (if (t418 != t410) = true then (laws_FnAddedBackwards.j0 k l1 t397 t398 t401 t402 t409 t410 t417 true) else (if (t422 != t410) = true then (laws_FnAddedBackwards.j0 k l1 t397 t398 t401 t402 t409 t410 t417 true) else (if t402 = true then (laws_FnAddedBackwards.j0 k l1 t397 t398 t401 t402 t409 t410 t417 (!t410)) else (laws_FnAddedBackwards.j0 k l1 t397 t398 t401 t402 t409 t410 t417 false)))) else (laws_FnAddedBackwards.j0 k l1 t397 t398 t401 t402 t409 t410 t417 true)))))) else (laws_FnAddedBackwards.j0 k l1 t397 t398 t401 t402 t409 t410 t417 true)))) else (laws_FnAddedBackwards.j0 k l1 t397 t398 t401 t402 t409 t410 t417 true)) = some r := H
    have A26 := Aside0.mk A260
    clear A260
    by_cases c27 : t429 = true
    ·subst c27
     have H1 : (if (t410 != t414) = true then (laws_FnAddedBackwards.j0 k l1 t397 t398 t401 t402 t409 t410 t417 true) else ((laws_qSame.f k t409 t413).bind fun t430 => (if t430 = true then (if (t418 != t420) = true then (laws_FnAddedBackwards.j0 k l1 t397 t398 t401 t402 t409 t410 t417 true) else (if (t417 != t419) = true then (laws_FnAddedBackwards.j0 k l1 t397 t398 t401 t402 t409 t410 t417 true) else (if (t422 != t426) = true then (laws_FnAddedBackwards.j0 k l1 t397 t398 t401 t402 t409 t410 t417 true) else ((laws_qSame.f k t421 t425).bind fun t431 => (if t431 = true then (if (t418 != t410) = true then (laws_FnAddedBackwards.j0 k l1 t397 t398 t401 t402 t409 t410 t417 true) else (if (t422 != t410) = true then (laws_FnAddedBackwards.j0 k l1 t397 t398 t401 t402 t409 t410 t417 true) else (if t402 = true then (laws_FnAddedBackwards.j0 k l1 t397 t398 t401 t402 t409 t410 t417 (!t410)) else (laws_FnAddedBackwards.j0 k l1 t397 t398 t401 t402 t409 t410 t417 false)))) else (laws_FnAddedBackwards.j0 k l1 t397 t398 t401 t402 t409 t410 t417 true)))))) else (laws_FnAddedBackwards.j0 k l1 t397 t398 t401 t402 t409 t410 t417 true)))) = some r := by rw [if_pos rfl] at H; exact H
     clear H
     have H := H1
     clear H1
     by_cases c28 : (t410 != t414) = true
     ·rw [if_pos c28] at H
      have c28b0 : (t410 != t414) = true := c28
      (try (have c28b1 : decide (t410 = t414) = false := by simpa using c28))
      (try (have c28b2 : (t410 == t414) = false := by simpa using c28))
      (try (have c28b3 : ¬ (t410 = t414) := by simpa using c28))
      clear c28
      exact (laws_FnAddedBackwards.j0_no HR_.out _ _ _ _ _ _ _ _ _ H).elim
     ·rw [if_neg c28] at H
      have c28b0 : (t410 != t414) = false := by simpa using c28
      (try (have c28b1 : decide (t410 = t414) = true := by simpa using c28))
      (try (have c28b2 : (t410 == t414) = true := by simpa using c28))
      clear c28
      replace H := Option.bind_eq_some_iff.mp H
      obtain ⟨t430, A290, H⟩ := H
      replace H : (if t430 = true then (if (t418 != t420) = true then (laws_FnAddedBackwards.j0 k l1 t397 t398 t401 t402 t409 t410 t417 true) else (if (t417 != t419) = true then (laws_FnAddedBackwards.j0 k l1 t397 t398 t401 t402 t409 t410 t417 true) else (if (t422 != t426) = true then (laws_FnAddedBackwards.j0 k l1 t397 t398 t401 t402 t409 t410 t417 true) else ((laws_qSame.f k t421 t425).bind fun t431 => (if t431 = true then (if (t418 != t410) = true then (laws_FnAddedBackwards.j0 k l1 t397 t398 t401 t402 t409 t410 t417 true) else (if (t422 != t410) = true then (laws_FnAddedBackwards.j0 k l1 t397 t398 t401 t402 t409 t410 t417 true) else (if t402 = true then (laws_FnAddedBackwards.j0 k l1 t397 t398 t401 t402 t409 t410 t417 (!t410)) else (laws_FnAddedBackwards.j0 k l1 t397 t398 t401 t402 t409 t410 t417 false)))) else (laws_FnAddedBackwards.j0 k l1 t397 t398 t401 t402 t409 t410 t417 true)))))) else (laws_FnAddedBackwards.j0 k l1 t397 t398 t401 t402 t409 t410 t417 true)) = some r := H
      have A29 := Aside0.mk A290
      clear A290
      by_cases c30 : t430 = true
      ·subst c30
       have H1 : (if (t418 != t420) = true then (laws_FnAddedBackwards.j0 k l1 t397 t398 t401 t402 t409 t410 t417 true) else (if (t417 != t419) = true then (laws_FnAddedBackwards.j0 k l1 t397 t398 t401 t402 t409 t410 t417 true) else (if (t422 != t426) = true then (laws_FnAddedBackwards.j0 k l1 t397 t398 t401 t402 t409 t410 t417 true) else ((laws_qSame.f k t421 t425).bind fun t431 => (if t431 = true then (if (t418 != t410) = true then (laws_FnAddedBackwards.j0 k l1 t397 t398 t401 t402 t409 t410 t417 true) else (if (t422 != t410) = true then (laws_FnAddedBackwards.j0 k l1 t397 t398 t401 t402 t409 t410 t417 true) else (if t402 = true then (laws_FnAddedBackwards.j0 k l1 t397 t398 t401 t402 t409 t410 t417 (!t410)) else (laws_FnAddedBackwards.j0 k l1 t397 t398 t401 t402 t409 t410 t417 false)))) else (laws_FnAddedBackwards.j0 k l1 t397 t398 t401 t402 t409 t410 t417 true)))))) = some r := by rw [if_pos rfl] at H; exact H
       clear H
       have H := H1
       clear H1
       by_cases c31 : (t418 != t420) = true
       ·rw [if_pos c31] at H
        have c31b0 : (t418 != t420) = true := c31
        (try (have c31b1 : decide (t418 = t420) = false := by simpa using c31))
        (try (have c31b2 : (t418 == t420) = false := by simpa using c31))
        (try (have c31b3 : ¬ (t418 = t420) := by simpa using c31))
        clear c31
        exact (laws_FnAddedBackwards.j0_no HR_.out _ _ _ _ _ _ _ _ _ H).elim
       ·rw [if_neg c31] at H
        have c31b0 : (t418 != t420) = false := by simpa using c31
        (try (have c31b1 : decide (t418 = t420) = true := by simpa using c31))
        (try (have c31b2 : (t418 == t420) = true := by simpa using c31))
        clear c31
        by_cases c32 : (t417 != t419) = true
        ·rw [if_pos c32] at H
         have c32b0 : (t417 != t419) = true := c32
         (try (have c32b1 : decide (t417 = t419) = false := by simpa using c32))
         (try (have c32b2 : (t417 == t419) = false := by simpa using c32))
         (try (have c32b3 : ¬ (t417 = t419) := by simpa using c32))
         clear c32
         exact (laws_FnAddedBackwards.j0_no HR_.out _ _ _ _ _ _ _ _ _ H).elim
        ·rw [if_neg c32] at H
         have c32b0 : (t417 != t419) = false := by simpa using c32
         (try (have c32b1 : decide (t417 = t419) = true := by simpa using c32))
         (try (have c32b2 : (t417 == t419) = true := by simpa using c32))
         clear c32
         by_cases c33 : (t422 != t426) = true
         ·rw [if_pos c33] at H
          have c33b0 : (t422 != t426) = true := c33
          (try (have c33b1 : decide (t422 = t426) = false := by simpa using c33))
          (try (have c33b2 : (t422 == t426) = false := by simpa using c33))
          (try (have c33b3 : ¬ (t422 = t426) := by simpa using c33))
          clear c33
          exact (laws_FnAddedBackwards.j0_no HR_.out _ _ _ _ _ _ _ _ _ H).elim
         ·rw [if_neg c33] at H
          have c33b0 : (t422 != t426) = false := by simpa using c33
          (try (have c33b1 : decide (t422 = t426) = true := by simpa using c33))
          (try (have c33b2 : (t422 == t426) = true := by simpa using c33))
          clear c33
          replace H := Option.bind_eq_some_iff.mp H
          obtain ⟨t431, A340, H⟩ := H
          replace H : (if t431 = true then (if (t418 != t410) = true then (laws_FnAddedBackwards.j0 k l1 t397 t398 t401 t402 t409 t410 t417 true) else (if (t422 != t410) = true then (laws_FnAddedBackwards.j0 k l1 t397 t398 t401 t402 t409 t410 t417 true) else (if t402 = true then (laws_FnAddedBackwards.j0 k l1 t397 t398 t401 t402 t409 t410 t417 (!t410)) else (laws_FnAddedBackwards.j0 k l1 t397 t398 t401 t402 t409 t410 t417 false)))) else (laws_FnAddedBackwards.j0 k l1 t397 t398 t401 t402 t409 t410 t417 true)) = some r := H
          have A34 := Aside0.mk A340
          clear A340
          by_cases c35 : t431 = true
          ·subst c35
           have H1 : (if (t418 != t410) = true then (laws_FnAddedBackwards.j0 k l1 t397 t398 t401 t402 t409 t410 t417 true) else (if (t422 != t410) = true then (laws_FnAddedBackwards.j0 k l1 t397 t398 t401 t402 t409 t410 t417 true) else (if t402 = true then (laws_FnAddedBackwards.j0 k l1 t397 t398 t401 t402 t409 t410 t417 (!t410)) else (laws_FnAddedBackwards.j0 k l1 t397 t398 t401 t402 t409 t410 t417 false)))) = some r := by rw [if_pos rfl] at H; exact H
           clear H
           have H := H1
           clear H1
           by_cases c36 : (t418 != t410) = true
           ·rw [if_pos c36] at H
            have c36b0 : (t418 != t410) = true := c36
            (try (have c36b1 : decide (t418 = t410) = false := by simpa using c36))
            (try (have c36b2 : (t418 == t410) = false := by simpa using c36))
            (try (have c36b3 : ¬ (t418 = t410) := by simpa using c36))
            clear c36
            exact (laws_FnAddedBackwards.j0_no HR_.out _ _ _ _ _ _ _ _ _ H).elim
           ·rw [if_neg c36] at H
            have c36b0 : (t418 != t410) = false := by simpa using c36
            (try (have c36b1 : decide (t418 = t410) = true := by simpa using c36))
            (try (have c36b2 : (t418 == t410) = true := by simpa using c36))
            clear c36
            by_cases c37 : (t422 != t410) = true
            ·rw [if_pos c37] at H
             have c37b0 : (t422 != t410) = true := c37
             (try (have c37b1 : decide (t422 = t410) = false := by simpa using c37))
             (try (have c37b2 : (t422 == t410) = false := by simpa using c37))
             (try (have c37b3 : ¬ (t422 = t410) := by simpa using c37))
             clear c37
             exact (laws_FnAddedBackwards.j0_no HR_.out _ _ _ _ _ _ _ _ _ H).elim
            ·rw [if_neg c37] at H
             have c37b0 : (t422 != t410) = false := by simpa using c37
             (try (have c37b1 : decide (t422 = t410) = true := by simpa using c37))
             (try (have c37b2 : (t422 == t410) = true := by simpa using c37))
             clear c37
             by_cases c38 : t402 = true
             ·subst c38
              have H1 : (laws_FnAddedBackwards.j0 k l1 t397 t398 t401 true t409 t410 t417 (!t410)) = some r := by rw [if_pos rfl] at H; exact H
              clear H
              have H := H1
              clear H1
              have H' := Aside0.mk H
              clear H
              obtain ⟨Ao39, co39, eo39⟩ := Kd.R_slice HO404.out
              subst eo39
              obtain ⟨Ao40, co40, eo40⟩ := Kd.R_slice HO408.out
              subst eo40
              go_wp2_with (first | (go_at_call 34; (with_reducible refine (laws_qSame.calls k _ _ t401 _ _ t405 true _ ?side1 ?side2 ?side3 ?side4 A26.out).mono ?_); (case side1 => repeat (first | exact (Kd.R_reads' HO404.out).2.2 | (with_reducible refine Kd.C_alloc ?_ _) | (with_reducible refine Kd.C_drewN ?_ _) | (with_reducible refine Kd.C_drew ?_))); (case side2 => exact (Kd.R_reads' HO404.out).2.1); (case side3 => repeat (first | exact (Kd.R_reads' HO408.out).2.2 | (with_reducible refine Kd.C_alloc ?_ _) | (with_reducible refine Kd.C_drewN ?_ _) | (with_reducible refine Kd.C_drew ?_))); (case side4 => exact (Kd.R_reads' HO408.out).2.1); rintro e w' ⟨rfl, ⟨nd, rfl⟩⟩; (try first | exact ⟨rfl, _, World.drewN_drewN _ _ _⟩ | exact ⟨rfl, _, Eq.trans (World.drewN_drewN _ _ _) (congrArg (World.drewN _) (Nat.add_assoc _ _ _))⟩); obtain ⟨Ao41, co41, eo41⟩ := Kd.R_slice HO412.out; subst eo41; obtain ⟨Ao42, co42, eo42⟩ := Kd.R_slice HO416.out; subst eo42) | (go_at_call 34; (with_reducible refine (laws_qSame.calls k _ _ t409 _ _ t413 true _ ?side1 ?side2 ?side3 ?side4 A29.out).mono ?_); (case side1 => repeat (first | exact (Kd.R_reads' HO412.out).2.2 | (with_reducible refine Kd.C_alloc ?_ _) | (with_reducible refine Kd.C_drewN ?_ _) | (with_reducible refine Kd.C_drew ?_))); (case side2 => exact (Kd.R_reads' HO412.out).2.1); (case side3 => repeat (first | exact (Kd.R_reads' HO416.out).2.2 | (with_reducible refine Kd.C_alloc ?_ _) | (with_reducible refine Kd.C_drewN ?_ _) | (with_reducible refine Kd.C_drew ?_))); (case side4 => exact (Kd.R_reads' HO416.out).2.1); rintro e w' ⟨rfl, ⟨nd, rfl⟩⟩; (try first | exact ⟨rfl, _, World.drewN_drewN _ _ _⟩ | exact ⟨rfl, _, Eq.trans (World.drewN_drewN _ _ _) (congrArg (World.drewN _) (Nat.add_assoc _ _ _))⟩); obtain ⟨Ao43, co43, eo43⟩ := Kd.R_slice HO424.out; subst eo43; obtain ⟨Ao44, co44, eo44, _⟩ := Kd.Q_slice HO428.out; subst eo44) | (go_at_call 34; (with_reducible refine (laws_qSame.calls k _ _ t421 _ _ t425 true _ ?side1 ?side2 ?side3 ?side4 A34.out).mono ?_); (case side1 => repeat (first | exact (Kd.R_reads' HO424.out).2.2 | (with_reducible refine Kd.C_alloc ?_ _) | (with_reducible refine Kd.C_drewN ?_ _) | (with_reducible refine Kd.C_drew ?_))); (case side2 => exact (Kd.R_reads' HO424.out).2.1); (case side3 => repeat (first | exact (Kd.Q_reads' HO428.out).2.2 | (with_reducible refine Kd.C_alloc ?_ _) | (with_reducible refine Kd.C_drewN ?_ _) | (with_reducible refine Kd.C_drew ?_))); (case side4 => exact (Kd.Q_reads' HO428.out).2.1); rintro e w' ⟨rfl, ⟨nd, rfl⟩⟩; (try first | exact ⟨rfl, _, World.drewN_drewN _ _ _⟩ | exact ⟨rfl, _, Eq.trans (World.drewN_drewN _ _ _) (congrArg (World.drewN _) (Nat.add_assoc _ _ _))⟩)))
              repeat (go_quiet (first | (go_at_call 34; (with_reducible refine (laws_qSame.calls k _ _ t401 _ _ t405 true _ ?side1 ?side2 ?side3 ?side4 A26.out).mono ?_); (case side1 => repeat (first | exact (Kd.R_reads' HO404.out).2.2 | (with_reducible refine Kd.C_alloc ?_ _) | (with_reducible refine Kd.C_drewN ?_ _) | (with_reducible refine Kd.C_drew ?_))); (case side2 => exact (Kd.R_reads' HO404.out).2.1); (case side3 => repeat (first | exact (Kd.R_reads' HO408.out).2.2 | (with_reducible refine Kd.C_alloc ?_ _) | (with_reducible refine Kd.C_drewN ?_ _) | (with_reducible refine Kd.C_drew ?_))); (case side4 => exact (Kd.R_reads' HO408.out).2.1); rintro e w' ⟨rfl, ⟨nd, rfl⟩⟩; (try first | exact ⟨rfl, _, World.drewN_drewN _ _ _⟩ | exact ⟨rfl, _, Eq.trans (World.drewN_drewN _ _ _) (congrArg (World.drewN _) (Nat.add_assoc _ _ _))⟩); obtain ⟨Ao41, co41, eo41⟩ := Kd.R_slice HO412.out; subst eo41; obtain ⟨Ao42, co42, eo42⟩ := Kd.R_slice HO416.out; subst eo42) | (go_at_call 34; (with_reducible refine (laws_qSame.calls k _ _ t409 _ _ t413 true _ ?side1 ?side2 ?side3 ?side4 A29.out).mono ?_); (case side1 => repeat (first | exact (Kd.R_reads' HO412.out).2.2 | (with_reducible refine Kd.C_alloc ?_ _) | (with_reducible refine Kd.C_drewN ?_ _) | (with_reducible refine Kd.C_drew ?_))); (case side2 => exact (Kd.R_reads' HO412.out).2.1); (case side3 => repeat (first | exact (Kd.R_reads' HO416.out).2.2 | (with_reducible refine Kd.C_alloc ?_ _) | (with_reducible refine Kd.C_drewN ?_ _) | (with_reducible refine Kd.C_drew ?_))); (case side4 => exact (Kd.R_reads' HO416.out).2.1); rintro e w' ⟨rfl, ⟨nd, rfl⟩⟩; (try first | exact ⟨rfl, _, World.drewN_drewN _ _ _⟩ | exact ⟨rfl, _, Eq.trans (World.drewN_drewN _ _ _) (congrArg (World.drewN _) (Nat.add_assoc _ _ _))⟩); obtain ⟨Ao43, co43, eo43⟩ := Kd.R_slice HO424.out; subst eo43; obtain ⟨Ao44, co44, eo44, _⟩ := Kd.Q_slice HO428.out; subst eo44) | (go_at_call 34; (with_reducible refine (laws_qSame.calls k _ _ t421 _ _ t425 true _ ?side1 ?side2 ?side3 ?side4 A34.out).mono ?_); (case side1 => repeat (first | exact (Kd.R_reads' HO424.out).2.2 | (with_reducible refine Kd.C_alloc ?_ _) | (with_reducible refine Kd.C_drewN ?_ _) | (with_reducible refine Kd.C_drew ?_))); (case side2 => exact (Kd.R_reads' HO424.out).2.1); (case side3 => repeat (first | exact (Kd.Q_reads' HO428.out).2.2 | (with_reducible refine Kd.C_alloc ?_ _) | (with_reducible refine Kd.C_drewN ?_ _) | (with_reducible refine Kd.C_drew ?_))); (case side4 => exact (Kd.Q_reads' HO428.out).2.1); rintro e w' ⟨rfl, ⟨nd, rfl⟩⟩; (try first | exact ⟨rfl, _, World.drewN_drewN _ _ _⟩ | exact ⟨rfl, _, Eq.trans (World.drewN_drewN _ _ _) (congrArg (World.drewN _) (Nat.add_assoc _ _ _))⟩))); try go_wp2_with (first | (go_at_call 34; (with_reducible refine (laws_qSame.calls k _ _ t401 _ _ t405 true _ ?side1 ?side2 ?side3 ?side4 A26.out).mono ?_); (case side1 => repeat (first | exact (Kd.R_reads' HO404.out).2.2 | (with_reducible refine Kd.C_alloc ?_ _) | (with_reducible refine Kd.C_drewN ?_ _) | (with_reducible refine Kd.C_drew ?_))); (case side2 => exact (Kd.R_reads' HO404.out).2.1); (case side3 => repeat (first | exact (Kd.R_reads' HO408.out).2.2 | (with_reducible refine Kd.C_alloc ?_ _) | (with_reducible refine Kd.C_drewN ?_ _) | (with_reducible refine Kd.C_drew ?_))); (case side4 => exact (Kd.R_reads' HO408.out).2.1); rintro e w' ⟨rfl, ⟨nd, rfl⟩⟩; (try first | exact ⟨rfl, _, World.drewN_drewN _ _ _⟩ | exact ⟨rfl, _, Eq.trans (World.drewN_drewN _ _ _) (congrArg (World.drewN _) (Nat.add_assoc _ _ _))⟩); obtain ⟨Ao41, co41, eo41⟩ := Kd.R_slice HO412.out; subst eo41; obtain ⟨Ao42, co42, eo42⟩ := Kd.R_slice HO416.out; subst eo42) | (go_at_call 34; (with_reducible refine (laws_qSame.calls k _ _ t409 _ _ t413 true _ ?side1 ?side2 ?side3 ?side4 A29.out).mono ?_); (case side1 => repeat (first | exact (Kd.R_reads' HO412.out).2.2 | (with_reducible refine Kd.C_alloc ?_ _) | (with_reducible refine Kd.C_drewN ?_ _) | (with_reducible refine Kd.C_drew ?_))); (case side2 => exact (Kd.R_reads' HO412.out).2.1); (case side3 => repeat (first | exact (Kd.R_reads' HO416.out).2.2 | (with_reducible refine Kd.C_alloc ?_ _) | (with_reducible refine Kd.C_drewN ?_ _) | (with_reducible refine Kd.C_drew ?_))); (case side4 => exact (Kd.R_reads' HO416.out).2.1); rintro e w' ⟨rfl, ⟨nd, rfl⟩⟩; (try first | exact ⟨rfl, _, World.drewN_drewN _ _ _⟩ | exact ⟨rfl, _, Eq.trans (World.drewN_drewN _ _ _) (congrArg (World.drewN _) (Nat.add_assoc _ _ _))⟩); obtain ⟨Ao43, co43, eo43⟩ := Kd.R_slice HO424.out; subst eo43; obtain ⟨Ao44, co44, eo44, _⟩ := Kd.Q_slice HO428.out; subst eo44) | (go_at_call 34; (with_reducible refine (laws_qSame.calls k _ _ t421 _ _ t425 true _ ?side1 ?side2 ?side3 ?side4 A34.out).mono ?_); (case side1 => repeat (first | exact (Kd.R_reads' HO424.out).2.2 | (with_reducible refine Kd.C_alloc ?_ _) | (with_reducible refine Kd.C_drewN ?_ _) | (with_reducible refine Kd.C_drew ?_))); (case side2 => exact (Kd.R_reads' HO424.out).2.1); (case side3 => repeat (first | exact (Kd.Q_reads' HO428.out).2.2 | (with_reducible refine Kd.C_alloc ?_ _) | (with_reducible refine Kd.C_drewN ?_ _) | (with_reducible refine Kd.C_drew ?_))); (case side4 => exact (Kd.Q_reads' HO428.out).2.1); rintro e w' ⟨rfl, ⟨nd, rfl⟩⟩; (try first | exact ⟨rfl, _, World.drewN_drewN _ _ _⟩ | exact ⟨rfl, _, Eq.trans (World.drewN_drewN _ _ _) (congrArg (World.drewN _) (Nat.add_assoc _ _ _))⟩))))
              go_meet
              case rel => exact ⟨_, (!t410), (by first | rfl | (simp; done) | (simp [*]; done)), H', ⟨by first | omega | exact Nat.le_refl _⟩, ⟨by (with_reducible repeat (first | apply Kd.R_alloc | apply Kd.R_drewN | apply Kd.R_drew)); exact Kd.R_mono HO400.out (fun _ hk => ⟨hk.1.1.1.1.1.2, hk.1.1.1.2⟩)⟩, ⟨by (with_reducible repeat (first | apply Kd.R_alloc | apply Kd.R_drewN | apply Kd.R_drew)); exact Kd.R_mono HO404.out (fun _ hk => ⟨hk.1.1.1.1.1.2, hk.1.1.1.2⟩)⟩, ⟨by (with_reducible repeat (first | apply Kd.R_alloc | apply Kd.R_drewN | apply Kd.R_drew)); exact Kd.R_mono HO412.out (fun _ hk => ⟨hk.1.1.1.1.1.2, hk.1.1.1.1.2⟩)⟩, ⟨by repeat (first | (with_reducible first | exact HB.out | apply below_alloc | apply pw_below_drewN | apply below_drew1) | exact HB.out)⟩⟩
             ·replace c38 := Bool.eq_false_iff.mpr c38
              subst c38
              have H1 : (laws_FnAddedBackwards.j0 k l1 t397 t398 t401 false t409 t410 t417 false) = some r := by rw [if_neg (show ¬ (false = true) by decide)] at H; exact H
              clear H
              have H := H1
              clear H1
              have H' := Aside0.mk H
              clear H
              obtain ⟨Ao45, co45, eo45⟩ := Kd.R_slice HO404.out
              subst eo45
              obtain ⟨Ao46, co46, eo46⟩ := Kd.R_slice HO408.out
              subst eo46
              go_wp2_with (first | (go_at_call 34; (with_reducible refine (laws_qSame.calls k _ _ t401 _ _ t405 true _ ?side1 ?side2 ?side3 ?side4 A26.out).mono ?_); (case side1 => repeat (first | exact (Kd.R_reads' HO404.out).2.2 | (with_reducible refine Kd.C_alloc ?_ _) | (with_reducible refine Kd.C_drewN ?_ _) | (with_reducible refine Kd.C_drew ?_))); (case side2 => exact (Kd.R_reads' HO404.out).2.1); (case side3 => repeat (first | exact (Kd.R_reads' HO408.out).2.2 | (with_reducible refine Kd.C_alloc ?_ _) | (with_reducible refine Kd.C_drewN ?_ _) | (with_reducible refine Kd.C_drew ?_))); (case side4 => exact (Kd.R_reads' HO408.out).2.1); rintro e w' ⟨rfl, ⟨nd, rfl⟩⟩; (try first | exact ⟨rfl, _, World.drewN_drewN _ _ _⟩ | exact ⟨rfl, _, Eq.trans (World.drewN_drewN _ _ _) (congrArg (World.drewN _) (Nat.add_assoc _ _ _))⟩); obtain ⟨Ao47, co47, eo47⟩ := Kd.R_slice HO412.out; subst eo47; obtain ⟨Ao48, co48, eo48⟩ := Kd.R_slice HO416.out; subst eo48) | (go_at_call 34; (with_reducible refine (laws_qSame.calls k _ _ t409 _ _ t413 true _ ?side1 ?side2 ?side3 ?side4 A29.out).mono ?_); (case side1 => repeat (first | exact (Kd.R_reads' HO412.out).2.2 | (with_reducible refine Kd.C_alloc ?_ _) | (with_reducible refine Kd.C_drewN ?_ _) | (with_reducible refine Kd.C_drew ?_))); (case side2 => exact (Kd.R_reads' HO412.out).2.1); (case side3 => repeat (first | exact (Kd.R_reads' HO416.out).2.2 | (with_reducible refine Kd.C_alloc ?_ _) | (with_reducible refine Kd.C_drewN ?_ _) | (with_reducible refine Kd.C_drew ?_))); (case side4 => exact (Kd.R_reads' HO416.out).2.1); rintro e w' ⟨rfl, ⟨nd, rfl⟩⟩; (try first | exact ⟨rfl, _, World.drewN_drewN _ _ _⟩ | exact ⟨rfl, _, Eq.trans (World.drewN_drewN _ _ _) (congrArg (World.drewN _) (Nat.add_assoc _ _ _))⟩); obtain ⟨Ao49, co49, eo49⟩ := Kd.R_slice HO424.out; subst eo49; obtain ⟨Ao50, co50, eo50, _⟩ := Kd.Q_slice HO428.out; subst eo50) | (go_at_call 34; (with_reducible refine (laws_qSame.calls k _ _ t421 _ _ t425 true _ ?side1 ?side2 ?side3 ?side4 A34.out).mono ?_); (case side1 => repeat (first | exact (Kd.R_reads' HO424.out).2.2 | (with_reducible refine Kd.C_alloc ?_ _) | (with_reducible refine Kd.C_drewN ?_ _) | (with_reducible refine Kd.C_drew ?_))); (case side2 => exact (Kd.R_reads' HO424.out).2.1); (case side3 => repeat (first | exact (Kd.Q_reads' HO428.out).2.2 | (with_reducible refine Kd.C_alloc ?_ _) | (with_reducible refine Kd.C_drewN ?_ _) | (with_reducible refine Kd.C_drew ?_))); (case side4 => exact (Kd.Q_reads' HO428.out).2.1); rintro e w' ⟨rfl, ⟨nd, rfl⟩⟩; (try first | exact ⟨rfl, _, World.drewN_drewN _ _ _⟩ | exact ⟨rfl, _, Eq.trans (World.drewN_drewN _ _ _) (congrArg (World.drewN _) (Nat.add_assoc _ _ _))⟩)))
              repeat (go_quiet (first | (go_at_call 34; (with_reducible refine (laws_qSame.calls k _ _ t401 _ _ t405 true _ ?side1 ?side2 ?side3 ?side4 A26.out).mono ?_); (case side1 => repeat (first | exact (Kd.R_reads' HO404.out).2.2 | (with_reducible refine Kd.C_alloc ?_ _) | (with_reducible refine Kd.C_drewN ?_ _) | (with_reducible refine Kd.C_drew ?_))); (case side2 => exact (Kd.R_reads' HO404.out).2.1); (case side3 => repeat (first | exact (Kd.R_reads' HO408.out).2.2 | (with_reducible refine Kd.C_alloc ?_ _) | (with_reducible refine Kd.C_drewN ?_ _) | (with_reducible refine Kd.C_drew ?_))); (case side4 => exact (Kd.R_reads' HO408.out).2.1); rintro e w' ⟨rfl, ⟨nd, rfl⟩⟩; (try first | exact ⟨rfl, _, World.drewN_drewN _ _ _⟩ | exact ⟨rfl, _, Eq.trans (World.drewN_drewN _ _ _) (congrArg (World.drewN _) (Nat.add_assoc _ _ _))⟩); obtain ⟨Ao47, co47, eo47⟩ := Kd.R_slice HO412.out; subst eo47; obtain ⟨Ao48, co48, eo48⟩ := Kd.R_slice HO416.out; subst eo48) | (go_at_call 34; (with_reducible refine (laws_qSame.calls k _ _ t409 _ _ t413 true _ ?side1 ?side2 ?side3 ?side4 A29.out).mono ?_); (case side1 => repeat (first | exact (Kd.R_reads' HO412.out).2.2 | (with_reducible refine Kd.C_alloc ?_ _) | (with_reducible refine Kd.C_drewN ?_ _) | (with_reducible refine Kd.C_drew ?_))); (case side2 => exact (Kd.R_reads' HO412.out).2.1); (case side3 => repeat (first | exact (Kd.R_reads' HO416.out).2.2 | (with_reducible refine Kd.C_alloc ?_ _) | (with_reducible refine Kd.C_drewN ?_ _) | (with_reducible refine Kd.C_drew ?_))); (case side4 => exact (Kd.R_reads' HO416.out).2.1); rintro e w' ⟨rfl, ⟨nd, rfl⟩⟩; (try first | exact ⟨rfl, _, World.drewN_drewN _ _ _⟩ | exact ⟨rfl, _, Eq.trans (World.drewN_drewN _ _ _) (congrArg (World.drewN _) (Nat.add_assoc _ _ _))⟩); obtain ⟨Ao49, co49, eo49⟩ := Kd.R_slice HO424.out; subst eo49; obtain ⟨Ao50, co50, eo50, _⟩ := Kd.Q_slice HO428.out; subst eo50) | (go_at_call 34; (with_reducible refine (laws_qSame.calls k _ _ t421 _ _ t425 true _ ?side1 ?side2 ?side3 ?side4 A34.out).mono ?_); (case side1 => repeat (first | exact (Kd.R_reads' HO424.out).2.2 | (with_reducible refine Kd.C_alloc ?_ _) | (with_reducible refine Kd.C_drewN ?_ _) | (with_reducible refine Kd.C_drew ?_))); (case side2 => exact (Kd.R_reads' HO424.out).2.1); (case side3 => repeat (first | exact (Kd.Q_reads' HO428.out).2.2 | (with_reducible refine Kd.C_alloc ?_ _) | (with_reducible refine Kd.C_drewN ?_ _) | (with_reducible refine Kd.C_drew ?_))); (case side4 => exact (Kd.Q_reads' HO428.out).2.1); rintro e w' ⟨rfl, ⟨nd, rfl⟩⟩; (try first | exact ⟨rfl, _, World.drewN_drewN _ _ _⟩ | exact ⟨rfl, _, Eq.trans (World.drewN_drewN _ _ _) (congrArg (World.drewN _) (Nat.add_assoc _ _ _))⟩))); try go_wp2_with (first | (go_at_call 34; (with_reducible refine (laws_qSame.calls k _ _ t401 _ _ t405 true _ ?side1 ?side2 ?side3 ?side4 A26.out).mono ?_); (case side1 => repeat (first | exact (Kd.R_reads' HO404.out).2.2 | (with_reducible refine Kd.C_alloc ?_ _) | (with_reducible refine Kd.C_drewN ?_ _) | (with_reducible refine Kd.C_drew ?_))); (case side2 => exact (Kd.R_reads' HO404.out).2.1); (case side3 => repeat (first | exact (Kd.R_reads' HO408.out).2.2 | (with_reducible refine Kd.C_alloc ?_ _) | (with_reducible refine Kd.C_drewN ?_ _) | (with_reducible refine Kd.C_drew ?_))); (case side4 => exact (Kd.R_reads' HO408.out).2.1); rintro e w' ⟨rfl, ⟨nd, rfl⟩⟩; (try first | exact ⟨rfl, _, World.drewN_drewN _ _ _⟩ | exact ⟨rfl, _, Eq.trans (World.drewN_drewN _ _ _) (congrArg (World.drewN _) (Nat.add_assoc _ _ _))⟩); obtain ⟨Ao47, co47, eo47⟩ := Kd.R_slice HO412.out; subst eo47; obtain ⟨Ao48, co48, eo48⟩ := Kd.R_slice HO416.out; subst eo48) | (go_at_call 34; (with_reducible refine (laws_qSame.calls k _ _ t409 _ _ t413 true _ ?side1 ?side2 ?side3 ?side4 A29.out).mono ?_); (case side1 => repeat (first | exact (Kd.R_reads' HO412.out).2.2 | (with_reducible refine Kd.C_alloc ?_ _) | (with_reducible refine Kd.C_drewN ?_ _) | (with_reducible refine Kd.C_drew ?_))); (case side2 => exact (Kd.R_reads' HO412.out).2.1); (case side3 => repeat (first | exact (Kd.R_reads' HO416.out).2.2 | (with_reducible refine Kd.C_alloc ?_ _) | (with_reducible refine Kd.C_drewN ?_ _) | (with_reducible refine Kd.C_drew ?_))); (case side4 => exact (Kd.R_reads' HO416.out).2.1); rintro e w' ⟨rfl, ⟨nd, rfl⟩⟩; (try first | exact ⟨rfl, _, World.drewN_drewN _ _ _⟩ | exact ⟨rfl, _, Eq.trans (World.drewN_drewN _ _ _) (congrArg (World.drewN _) (Nat.add_assoc _ _ _))⟩); obtain ⟨Ao49, co49, eo49⟩ := Kd.R_slice HO424.out; subst eo49; obtain ⟨Ao50, co50, eo50, _⟩ := Kd.Q_slice HO428.out; subst eo50) | (go_at_call 34; (with_reducible refine (laws_qSame.calls k _ _ t421 _ _ t425 true _ ?side1 ?side2 ?side3 ?side4 A34.out).mono ?_); (case side1 => repeat (first | exact (Kd.R_reads' HO424.out).2.2 | (with_reducible refine Kd.C_alloc ?_ _) | (with_reducible refine Kd.C_drewN ?_ _) | (with_reducible refine Kd.C_drew ?_))); (case side2 => exact (Kd.R_reads' HO424.out).2.1); (case side3 => repeat (first | exact (Kd.Q_reads' HO428.out).2.2 | (with_reducible refine Kd.C_alloc ?_ _) | (with_reducible refine Kd.C_drewN ?_ _) | (with_reducible refine Kd.C_drew ?_))); (case side4 => exact (Kd.Q_reads' HO428.out).2.1); rintro e w' ⟨rfl, ⟨nd, rfl⟩⟩; (try first | exact ⟨rfl, _, World.drewN_drewN _ _ _⟩ | exact ⟨rfl, _, Eq.trans (World.drewN_drewN _ _ _) (congrArg (World.drewN _) (Nat.add_assoc _ _ _))⟩))))
              go_meet
              case rel => exact ⟨_, (false), (by first | rfl | (simp; done) | (simp [*]; done)), H', ⟨by first | omega | exact Nat.le_refl _⟩, ⟨by (with_reducible repeat (first | apply Kd.R_alloc | apply Kd.R_drewN | apply Kd.R_drew)); exact Kd.R_mono HO400.out (fun _ hk => ⟨hk.1.1.1.1.1.2, hk.1.1.1.2⟩)⟩, ⟨by (with_reducible repeat (first | apply Kd.R_alloc | apply Kd.R_drewN | apply Kd.R_drew)); exact Kd.R_mono HO404.out (fun _ hk => ⟨hk.1.1.1.1.1.2, hk.1.1.1.2⟩)⟩, ⟨by (with_reducible repeat (first | apply Kd.R_alloc | apply Kd.R_drewN | apply Kd.R_drew)); exact Kd.R_mono HO412.out (fun _ hk => ⟨hk.1.1.1.1.1.2, hk.1.1.1.1.2⟩)⟩, ⟨by repeat (first | (with_reducible first | exact HB.out | apply below_alloc | apply pw_below_drewN | apply below_drew1) | exact HB.out)⟩⟩
          ·replace c35 := Bool.eq_false_iff.mpr c35
           subst c35
           have H1 : (laws_FnAddedBackwards.j0 k l1 t397 t398 t401 t402 t409 t410 t417 true) = some r := by rw [if_neg (show ¬ (false = true) by decide)] at H; exact H
           clear H
           have H := H1
           clear H1
           exact (laws_FnAddedBackwards.j0_no HR_.out _ _ _ _ _ _ _ _ _ H).elim
      ·replace c30 := Bool.eq_false_iff.mpr c30
       subst c30
       have H1 : (laws_FnAddedBackwards.j0 k l1 t397 t398 t401 t402 t409 t410 t417 true) = some r := by rw [if_neg (show ¬ (false = true) by decide)] at H; exact H
       clear H
       have H := H1
       clear H1
       exact (laws_FnAddedBackwards.j0_no HR_.out _ _ _ _ _ _ _ _ _ H).elim
    ·replace c27 := Bool.eq_false_iff.mpr c27
     subst c27
     have H1 : (laws_FnAddedBackwards.j0 k l1 t397 t398 t401 t402 t409 t410 t417 true) = some r := by rw [if_neg (show ¬ (false = true) by decide)] at H; exact H
     clear H
     have H := H1
     clear H1
     exact (laws_FnAddedBackwards.j0_no HR_.out _ _ _ _ _ _ _ _ _ H).elim
  case rest =>
   as_aux_lemma =>
   clear HC14
   try clear c1
   try clear c2
   try clear p2
   try clear c3
   try clear c4
   try clear c6
   try clear c25
   try clear c25b0
   try clear c25b1
   try clear c25b2
   try clear c27
   try clear c28
   try clear c28b0
   try clear c28b1
   try clear c28b2
   try clear c30
   try clear c31
   try clear c31b0
   try clear c31b1
   try clear c31b2
   try clear c32
   try clear c32b0
   try clear c32b1
   try clear c32b2
   try clear c33
   try clear c33b0
   try clear c33b1
   try clear c33b2
   try clear c35
   try clear c36
   try clear c36b0
   try clear c36b1
   try clear c36b2
   try clear c37
   try clear c37b0
   try clear c37b1
   try clear c37b2
   try clear c38
   obtain ⟨kq, x151_13, rfl, HA, HJ13, HO_5, HO_7, HO_11, HB⟩ := hcut
   cases kq with
   | zero => exact absurd HA.out (by simp [laws_FnAddedBackwards.j0])
   | succ kj13 =>
    have H := HA.out
    clear HA
    simp only [laws_FnAddedBackwards.j0] at H
    by_cases c51 : x151_13 = true
    ·subst c51
     have H1 : (some false) = some r := by rw [if_pos rfl] at H; exact H
     clear H
     have H := H1
     clear H1
     exact absurd (Option.some.inj H) (by rw [HR_.out]; decide)
    ·replace c51 := Bool.eq_false_iff.mpr c51
     subst c51
     have H1 : (if t410 = true then (if (t409.length : Int) = (t397.length : Int) then ((laws_qSum.f kj13 t409).bind fun t432 => (laws_FnAddedBackwards.j1 kj13 l1 t397 t398 t401 t402 t409 t417 (t397.length : Int) (t417 != (t432 == 0)))) else (laws_FnAddedBackwards.j1 kj13 l1 t397 t398 t401 t402 t409 t417 (t397.length : Int) true)) else (laws_FnAddedBackwards.j4 kj13 l1)) = some r := by rw [if_neg (show ¬ (false = true) by decide)] at H; exact H
     clear H
     have H := H1
     clear H1
     have HC52 := Aside0.mk H
     clear H
     go_upto_if 152 with (fail)
     repeat (go_quiet (fail); go_upto_if 152 with (fail))
     go_cut [] (fun wc => ∃ (kq : Nat), Aside0 (laws_FnAddedBackwards.j4 kq l1 = some r) ∧ Aside0 (kq ≤ kj13) ∧ Aside0 (Below w.heap.size w wc))
     case first =>
      as_aux_lemma =>
      have H := HC52.out
      clear HC52
      by_cases c53 : t410 = true
      ·subst c53
       have H1 : (if (t409.length : Int) = (t397.length : Int) then ((laws_qSum.f kj13 t409).bind fun t432 => (laws_FnAddedBackwards.j1 kj13 l1 t397 t398 t401 t402 t409 t417 (t397.length : Int) (t417 != (t432 == 0)))) else (laws_FnAddedBackwards.j1 kj13 l1 t397 t398 t401 t402 t409 t417 (t397.length : Int) true)) = some r := by rw [if_pos rfl] at H; exact H
       clear H
       have H := H1
       clear H1
       have HC54 := Aside0.mk H
       clear H
       go_upto_region 16 with (fail)
       repeat (go_quiet (fail); go_upto_region 16 with (fail))
       go_cut [165] (fun v165 wc => ∃ (kq : Nat) (x165_53 : Bool), v165 = .bool x165_53 ∧ Aside0 (laws_FnAddedBackwards.j1 kq l1 t397 t398 t401 t402 t409 t417 (t397.length : Int) x165_53 = some r) ∧ Aside0 (kq ≤ kj13) ∧ Aside0 (Kd.R (Kd.int .i64) 3 wc w.heap.size (fun k_ => some k_ ≠ (v403 : Value).ownBlock ∧ some k_ ≠ (v411 : Value).ownBlock) (.slice Ao16 t397.length co16) t397) ∧ Aside0 (Kd.R (Kd.int .i64) 3 wc w.heap.size (fun k_ => some k_ ≠ ((.slice Ao16 t397.length co16) : Value).ownBlock ∧ some k_ ≠ (v411 : Value).ownBlock) v403 t401) ∧ Aside0 (Kd.R (Kd.int .i64) 3 wc w.heap.size (fun k_ => some k_ ≠ ((.slice Ao16 t397.length co16) : Value).ownBlock ∧ some k_ ≠ (v403 : Value).ownBlock) v411 t409) ∧ Aside0 (Below w.heap.size w wc))
       case first =>
        as_aux_lemma =>
        have H := HC54.out
        clear HC54
        by_cases c55 : (t409.length : Int) = (t397.length : Int)
        ·rw [if_pos c55] at H
         have c55b0 : ((t409.length : Int) == (t397.length : Int)) = true := beq_iff_eq.mpr c55
         have c55b1 : ((t409.length : Int) != (t397.length : Int)) = false := bne_eq_false_iff_eq.mpr c55
         have c55b2 : (t409.length == t397.length) = true := by first | simpa using c55 | (simp at c55 ⊢; omega)
         clear c55
         (first | rw [c55b0] | (simp only [i64_w, i32_w]; rw [c55b0]) | skip)
         replace H := Option.bind_eq_some_iff.mp H
         obtain ⟨t432, A560, H⟩ := H
         replace H : (laws_FnAddedBackwards.j1 kj13 l1 t397 t398 t401 t402 t409 t417 (t397.length : Int) (t417 != (t432 == 0))) = some r := H
         have A56 := Aside0.mk A560
         clear A560
         have H' := Aside0.mk H
         clear H
         obtain ⟨Ao57, co57, eo57⟩ := Kd.R_slice HO_11.out
         subst eo57
         go_wp2_with (first | (go_at_call 65; (with_reducible refine (laws_qSum.calls kj13 _ _ t409 t432 _ ?side1 ?side2 A56.out).mono ?_); (case side1 => repeat (first | exact (Kd.R_reads' HO_11.out).2.2 | (with_reducible refine Kd.C_alloc ?_ _) | (with_reducible refine Kd.C_drewN ?_ _) | (with_reducible refine Kd.C_drew ?_))); (case side2 => exact (Kd.R_reads' HO_11.out).2.1); rintro e w' ⟨rfl, ⟨nd, rfl⟩⟩; (try first | exact ⟨rfl, _, World.drewN_drewN _ _ _⟩ | exact ⟨rfl, _, Eq.trans (World.drewN_drewN _ _ _) (congrArg (World.drewN _) (Nat.add_assoc _ _ _))⟩)))
         repeat (go_quiet (first | (go_at_call 65; (with_reducible refine (laws_qSum.calls kj13 _ _ t409 t432 _ ?side1 ?side2 A56.out).mono ?_); (case side1 => repeat (first | exact (Kd.R_reads' HO_11.out).2.2 | (with_reducible refine Kd.C_alloc ?_ _) | (with_reducible refine Kd.C_drewN ?_ _) | (with_reducible refine Kd.C_drew ?_))); (case side2 => exact (Kd.R_reads' HO_11.out).2.1); rintro e w' ⟨rfl, ⟨nd, rfl⟩⟩; (try first | exact ⟨rfl, _, World.drewN_drewN _ _ _⟩ | exact ⟨rfl, _, Eq.trans (World.drewN_drewN _ _ _) (congrArg (World.drewN _) (Nat.add_assoc _ _ _))⟩))); try go_wp2_with (first | (go_at_call 65; (with_reducible refine (laws_qSum.calls kj13 _ _ t409 t432 _ ?side1 ?side2 A56.out).mono ?_); (case side1 => repeat (first | exact (Kd.R_reads' HO_11.out).2.2 | (with_reducible refine Kd.C_alloc ?_ _) | (with_reducible refine Kd.C_drewN ?_ _) | (with_reducible refine Kd.C_drew ?_))); (case side2 => exact (Kd.R_reads' HO_11.out).2.1); rintro e w' ⟨rfl, ⟨nd, rfl⟩⟩; (try first | exact ⟨rfl, _, World.drewN_drewN _ _ _⟩ | exact ⟨rfl, _, Eq.trans (World.drewN_drewN _ _ _) (congrArg (World.drewN _) (Nat.add_assoc _ _ _))⟩))))
         go_meet
         case rel => exact ⟨_, ((t417 != (t432 == 0))), (by first | rfl | (simp; done) | (simp [*]; done)), H', ⟨by have := HJ13.out; first | omega | exact Nat.le_refl _⟩, ⟨by (with_reducible repeat (first | apply Kd.R_alloc | apply Kd.R_drewN | apply Kd.R_drew)); exact HO_5.out⟩, ⟨by (with_reducible repeat (first | apply Kd.R_alloc | apply Kd.R_drewN | apply Kd.R_drew)); exact HO_7.out⟩, ⟨by (with_reducible repeat (first | apply Kd.R_alloc | apply Kd.R_drewN | apply Kd.R_drew)); exact HO_11.out⟩, ⟨by repeat (first | (with_reducible first | exact HB.out | apply below_alloc | apply pw_below_drewN | apply below_drew1) | exact HB.out)⟩⟩
        ·rw [if_neg c55] at H
         have c55b0 : ((t409.length : Int) == (t397.length : Int)) = false := beq_eq_false_iff_ne.mpr c55
         have c55b1 : ((t409.length : Int) != (t397.length : Int)) = true := bne_iff_ne.mpr c55
         have c55b2 : (t409.length == t397.length) = false := by first | simpa using c55 | (simp at c55 ⊢; omega)
         (first | rw [c55b0] | (simp only [i64_w, i32_w]; rw [c55b0]) | skip)
         exact (laws_FnAddedBackwards.j1_no HR_.out _ _ _ _ _ _ _ _ _ H).elim
       case rest =>
        as_aux_lemma =>
        clear HC54
        try clear c1
        try clear c2
        try clear p2
        try clear c3
        try clear c4
        try clear c5
        try clear c6
        try clear c25
        try clear c25b0
        try clear c25b1
        try clear c25b2
        try clear c27
        try clear c28
        try clear c28b0
        try clear c28b1
        try clear c28b2
        try clear c30
        try clear c31
        try clear c31b0
        try clear c31b1
        try clear c31b2
        try clear c32
        try clear c32b0
        try clear c32b1
        try clear c32b2
        try clear c33
        try clear c33b0
        try clear c33b1
        try clear c33b2
        try clear c35
        try clear c36
        try clear c36b0
        try clear c36b1
        try clear c36b2
        try clear c37
        try clear c37b0
        try clear c37b1
        try clear c37b2
        try clear c38
        try clear c51
        try clear c53
        try clear c55
        try clear c55b0
        try clear c55b1
        try clear c55b2
        try clear p2
        obtain ⟨kq, x165_53, rfl, HA, HJ53, HO_5, HO_7, HO_11, HB⟩ := hcut
        cases kq with
        | zero => exact absurd HA.out (by simp [laws_FnAddedBackwards.j1])
        | succ kj53 =>
         have H := HA.out
         clear HA
         simp only [laws_FnAddedBackwards.j1] at H
         by_cases c58 : x165_53 = true
         ·subst c58
          have H1 : (some false) = some r := by rw [if_pos rfl] at H; exact H
          clear H
          have H := H1
          clear H1
          exact absurd (Option.some.inj H) (by rw [HR_.out]; decide)
         ·replace c58 := Bool.eq_false_iff.mpr c58
          subst c58
          have H1 : ((laws_qBack.f kj53 t397).bind fun t433 => (if t402 = true then (if 0 ≤ (wrap64 ((t397.length : Int) - 1)) then (if (wrap64 ((t397.length : Int) - 1)) < (t409.length : Int) then (if (t401.length : Int) = (wrap64 ((t397.length : Int) + (rd t409 (wrap64 ((t397.length : Int) - 1))))) then (laws_FnAddedBackwards.l0 kj53 l1 t397 t398 t401 t409 t417 (t397.length : Int) t433 (rd t409 (wrap64 ((t397.length : Int) - 1))) 0 (wrap64 ((t397.length : Int) - 1))) else (some false)) else (none)) else (none)) else (laws_FnAddedBackwards.j4 kj53 l1))) = some r := by rw [if_neg (show ¬ (false = true) by decide)] at H; exact H
          clear H
          have H := H1
          clear H1
          replace H := Option.bind_eq_some_iff.mp H
          obtain ⟨t433, A590, H⟩ := H
          replace H : (if t402 = true then (if 0 ≤ (wrap64 ((t397.length : Int) - 1)) then (if (wrap64 ((t397.length : Int) - 1)) < (t409.length : Int) then (if (t401.length : Int) = (wrap64 ((t397.length : Int) + (rd t409 (wrap64 ((t397.length : Int) - 1))))) then (laws_FnAddedBackwards.l0 kj53 l1 t397 t398 t401 t409 t417 (t397.length : Int) t433 (rd t409 (wrap64 ((t397.length : Int) - 1))) 0 (wrap64 ((t397.length : Int) - 1))) else (some false)) else (none)) else (none)) else (laws_FnAddedBackwards.j4 kj53 l1)) = some r := H
          have A59 := Aside0.mk A590
          clear A590
          by_cases c60 : t402 = true
          ·subst c60
           have H1 : (if 0 ≤ (wrap64 ((t397.length : Int) - 1)) then (if (wrap64 ((t397.length : Int) - 1)) < (t409.length : Int) then (if (t401.length : Int) = (wrap64 ((t397.length : Int) + (rd t409 (wrap64 ((t397.length : Int) - 1))))) then (laws_FnAddedBackwards.l0 kj53 l1 t397 t398 t401 t409 t417 (t397.length : Int) t433 (rd t409 (wrap64 ((t397.length : Int) - 1))) 0 (wrap64 ((t397.length : Int) - 1))) else (some false)) else (none)) else (none)) = some r := by rw [if_pos rfl] at H; exact H
           clear H
           have H := H1
           clear H1
           obtain ⟨ji61, hji61⟩ : ∃ j_ : Int, (wrap64 ((t397.length : Int) - 1)) = j_ := ⟨_, rfl⟩
           replace H : (if 0 ≤ (ji61) then (if (ji61) < (t409.length : Int) then (if (t401.length : Int) = (wrap64 ((t397.length : Int) + (rd t409 (ji61)))) then (laws_FnAddedBackwards.l0 kj53 l1 t397 t398 t401 t409 t417 (t397.length : Int) t433 (rd t409 (ji61)) 0 ji61) else (some false)) else (none)) else (none)) = some r := by first | (rw [hji61] at H; exact H) | (simp only [hji61] at H ⊢; exact H)
           (try rw [hji61] at A59)
           have hji61w : (IntKind.i64.wrap ((t397.length : Int) - 1)) = ji61 := (i64_w _).trans hji61
           by_cases c62 : 0 ≤ (ji61)
           ·rw [if_pos c62] at H
            have c62b0 : decide (0 ≤ (ji61)) = true := decide_eq_true c62
            clear c62
            by_cases c63 : (ji61) < (t409.length : Int)
            ·rw [if_pos c63] at H
             have c63b0 : decide ((ji61) < (t409.length : Int)) = true := decide_eq_true c63
             clear c63
             by_cases c64 : (t401.length : Int) = (wrap64 ((t397.length : Int) + (rd t409 (ji61))))
             ·rw [if_pos c64] at H
              have c64b0 : ((t401.length : Int) == (wrap64 ((t397.length : Int) + (rd t409 (ji61))))) = true := beq_iff_eq.mpr c64
              have c64b1 : ((t401.length : Int) != (wrap64 ((t397.length : Int) + (rd t409 (ji61))))) = false := bne_eq_false_iff_eq.mpr c64
              clear c64
              have H' := Aside0.mk H
              clear H
              go_wp2_with (first | (go_at_call 66; (with_reducible refine (laws_qBack.calls kj53 _ _ t397 t433 _ ?side1 ?side2 A59.out).mono ?_); (case side1 => repeat (first | exact (Kd.R_reads' HO_5.out).2.2 | (with_reducible refine Kd.C_alloc ?_ _) | (with_reducible refine Kd.C_drewN ?_ _) | (with_reducible refine Kd.C_drew ?_))); (case side2 => exact (Kd.R_reads' HO_5.out).2.1); rintro e w65 ⟨v434, rfl, ho0, hb⟩; have n0_ := Aside0.mk (Kd.R_elder' (by (with_reducible repeat (first | apply Kd.R_alloc | apply Kd.R_drewN | apply Kd.R_drew)); exact HO_5.out) (Kd.R_base ho0) hb); have n1_ := Aside0.mk (Kd.R_elder' (by (with_reducible repeat (first | apply Kd.R_alloc | apply Kd.R_drewN | apply Kd.R_drew)); exact HO_7.out) (Kd.R_base ho0) hb); have n2_ := Aside0.mk (Kd.R_elder' (by (with_reducible repeat (first | apply Kd.R_alloc | apply Kd.R_drewN | apply Kd.R_drew)); exact HO_11.out) (Kd.R_base ho0) hb); have n3_ := Aside0.mk (Kd.R_lower (Kd.R_new' (Kd.R_new' (Kd.R_new' ho0 (Kd.R_lt (by (with_reducible repeat (first | apply Kd.R_alloc | apply Kd.R_drewN | apply Kd.R_drew)); exact HO_5.out))) (Kd.R_lt (by (with_reducible repeat (first | apply Kd.R_alloc | apply Kd.R_drewN | apply Kd.R_drew)); exact HO_7.out))) (Kd.R_lt (by (with_reducible repeat (first | apply Kd.R_alloc | apply Kd.R_drewN | apply Kd.R_drew)); exact HO_11.out))) (below_size (by repeat (first | (with_reducible first | exact HB.out | apply below_alloc | apply pw_below_drewN | apply below_drew1) | exact HB.out)))); have n4_ := Aside0.mk (below_step (by repeat (first | (with_reducible first | exact HB.out | apply below_alloc | apply pw_below_drewN | apply below_drew1) | exact HB.out)) hb); clear HO_5; clear HO_7; clear HO_11; clear HB; have HO_5 := n0_; have HO_7 := n1_; have HO_11 := n2_; have HO435 := n3_; have HB := n4_; clear n0_ n1_ n2_ n3_ n4_; (try clear hb); (try clear hb2); (try clear hk); (try clear hi); (try clear ho0); obtain ⟨Ao66, co66, eo66⟩ := Kd.R_slice HO_11.out; subst eo66; have p436 : 0 ≤ ((ji61) : Int) := of_decide_eq_true (by first | (with_reducible assumption) | assumption); have q436 : (ji61) < (t409.length : Int) := of_decide_eq_true (by first | (with_reducible assumption) | assumption); obtain ⟨ad436, e436, hx436_0⟩ := Kd.at_int (Kd.R_reads' HO_11.out).2.2 (ji61) p436 q436; cases e436; replace p436 := eq_true p436; replace q436 := eq_true q436; obtain ⟨Ao67, co67, eo67⟩ := Kd.R_slice HO_7.out; subst eo67))
              repeat (go_quiet (first | (go_at_call 66; (with_reducible refine (laws_qBack.calls kj53 _ _ t397 t433 _ ?side1 ?side2 A59.out).mono ?_); (case side1 => repeat (first | exact (Kd.R_reads' HO_5.out).2.2 | (with_reducible refine Kd.C_alloc ?_ _) | (with_reducible refine Kd.C_drewN ?_ _) | (with_reducible refine Kd.C_drew ?_))); (case side2 => exact (Kd.R_reads' HO_5.out).2.1); rintro e w65 ⟨v434, rfl, ho0, hb⟩; have n0_ := Aside0.mk (Kd.R_elder' (by (with_reducible repeat (first | apply Kd.R_alloc | apply Kd.R_drewN | apply Kd.R_drew)); exact HO_5.out) (Kd.R_base ho0) hb); have n1_ := Aside0.mk (Kd.R_elder' (by (with_reducible repeat (first | apply Kd.R_alloc | apply Kd.R_drewN | apply Kd.R_drew)); exact HO_7.out) (Kd.R_base ho0) hb); have n2_ := Aside0.mk (Kd.R_elder' (by (with_reducible repeat (first | apply Kd.R_alloc | apply Kd.R_drewN | apply Kd.R_drew)); exact HO_11.out) (Kd.R_base ho0) hb); have n3_ := Aside0.mk (Kd.R_lower (Kd.R_new' (Kd.R_new' (Kd.R_new' ho0 (Kd.R_lt (by (with_reducible repeat (first | apply Kd.R_alloc | apply Kd.R_drewN | apply Kd.R_drew)); exact HO_5.out))) (Kd.R_lt (by (with_reducible repeat (first | apply Kd.R_alloc | apply Kd.R_drewN | apply Kd.R_drew)); exact HO_7.out))) (Kd.R_lt (by (with_reducible repeat (first | apply Kd.R_alloc | apply Kd.R_drewN | apply Kd.R_drew)); exact HO_11.out))) (below_size (by repeat (first | (with_reducible first | exact HB.out | apply below_alloc | apply pw_below_drewN | apply below_drew1) | exact HB.out)))); have n4_ := Aside0.mk (below_step (by repeat (first | (with_reducible first | exact HB.out | apply below_alloc | apply pw_below_drewN | apply below_drew1) | exact HB.out)) hb); clear HO_5; clear HO_7; clear HO_11; clear HB; have HO_5 := n0_; have HO_7 := n1_; have HO_11 := n2_; have HO435 := n3_; have HB := n4_; clear n0_ n1_ n2_ n3_ n4_; (try clear hb); (try clear hb2); (try clear hk); (try clear hi); (try clear ho0); obtain ⟨Ao66, co66, eo66⟩ := Kd.R_slice HO_11.out; subst eo66; have p436 : 0 ≤ ((ji61) : Int) := of_decide_eq_true (by first | (with_reducible assumption) | assumption); have q436 : (ji61) < (t409.length : Int) := of_decide_eq_true (by first | (with_reducible assumption) | assumption); obtain ⟨ad436, e436, hx436_0⟩ := Kd.at_int (Kd.R_reads' HO_11.out).2.2 (ji61) p436 q436; cases e436; replace p436 := eq_true p436; replace q436 := eq_true q436; obtain ⟨Ao67, co67, eo67⟩ := Kd.R_slice HO_7.out; subst eo67)); try go_wp2_with (first | (go_at_call 66; (with_reducible refine (laws_qBack.calls kj53 _ _ t397 t433 _ ?side1 ?side2 A59.out).mono ?_); (case side1 => repeat (first | exact (Kd.R_reads' HO_5.out).2.2 | (with_reducible refine Kd.C_alloc ?_ _) | (with_reducible refine Kd.C_drewN ?_ _) | (with_reducible refine Kd.C_drew ?_))); (case side2 => exact (Kd.R_reads' HO_5.out).2.1); rintro e w65 ⟨v434, rfl, ho0, hb⟩; have n0_ := Aside0.mk (Kd.R_elder' (by (with_reducible repeat (first | apply Kd.R_alloc | apply Kd.R_drewN | apply Kd.R_drew)); exact HO_5.out) (Kd.R_base ho0) hb); have n1_ := Aside0.mk (Kd.R_elder' (by (with_reducible repeat (first | apply Kd.R_alloc | apply Kd.R_drewN | apply Kd.R_drew)); exact HO_7.out) (Kd.R_base ho0) hb); have n2_ := Aside0.mk (Kd.R_elder' (by (with_reducible repeat (first | apply Kd.R_alloc | apply Kd.R_drewN | apply Kd.R_drew)); exact HO_11.out) (Kd.R_base ho0) hb); have n3_ := Aside0.mk (Kd.R_lower (Kd.R_new' (Kd.R_new' (Kd.R_new' ho0 (Kd.R_lt (by (with_reducible repeat (first | apply Kd.R_alloc | apply Kd.R_drewN | apply Kd.R_drew)); exact HO_5.out))) (Kd.R_lt (by (with_reducible repeat (first | apply Kd.R_alloc | apply Kd.R_drewN | apply Kd.R_drew)); exact HO_7.out))) (Kd.R_lt (by (with_reducible repeat (first | apply Kd.R_alloc | apply Kd.R_drewN | apply Kd.R_drew)); exact HO_11.out))) (below_size (by repeat (first | (with_reducible first | exact HB.out | apply below_alloc | apply pw_below_drewN | apply below_drew1) | exact HB.out)))); have n4_ := Aside0.mk (below_step (by repeat (first | (with_reducible first | exact HB.out | apply below_alloc | apply pw_below_drewN | apply below_drew1) | exact HB.out)) hb); clear HO_5; clear HO_7; clear HO_11; clear HB; have HO_5 := n0_; have HO_7 := n1_; have HO_11 := n2_; have HO435 := n3_; have HB := n4_; clear n0_ n1_ n2_ n3_ n4_; (try clear hb); (try clear hb2); (try clear hk); (try clear hi); (try clear ho0); obtain ⟨Ao66, co66, eo66⟩ := Kd.R_slice HO_11.out; subst eo66; have p436 : 0 ≤ ((ji61) : Int) := of_decide_eq_true (by first | (with_reducible assumption) | assumption); have q436 : (ji61) < (t409.length : Int) := of_decide_eq_true (by first | (with_reducible assumption) | assumption); obtain ⟨ad436, e436, hx436_0⟩ := Kd.at_int (Kd.R_reads' HO_11.out).2.2 (ji61) p436 q436; cases e436; replace p436 := eq_true p436; replace q436 := eq_true q436; obtain ⟨Ao67, co67, eo67⟩ := Kd.R_slice HO_7.out; subst eo67)))
              go_loopg [26, 27] kj53 (fun kq v26 v27 w' => ∃ (x26_3 : Int) (x27_3 : Int), v26 = .int .i64 x26_3 ∧ v27 = .int .i64 x27_3 ∧ Aside0 (laws_FnAddedBackwards.l0 kq l1 t397 t398 t401 t409 t417 (t397.length : Int) t433 (rd t409 (ji61)) x26_3 x27_3 = some r) ∧ Aside0 (kq ≤ kj53) ∧ Aside0 (Kd.R (Kd.int .i64) 3 w' w.heap.size (fun k_ => some k_ ≠ ((.slice Ao67 t401.length co67) : Value).ownBlock ∧ some k_ ≠ ((.slice (some ad436) t409.length co66) : Value).ownBlock ∧ some k_ ≠ (v434 : Value).ownBlock) (.slice Ao16 t397.length co16) t397) ∧ Aside0 (Kd.R (Kd.int .i64) 3 w' w.heap.size (fun k_ => some k_ ≠ ((.slice Ao16 t397.length co16) : Value).ownBlock ∧ some k_ ≠ ((.slice (some ad436) t409.length co66) : Value).ownBlock ∧ some k_ ≠ (v434 : Value).ownBlock) (.slice Ao67 t401.length co67) t401) ∧ Aside0 (Kd.R (Kd.int .i64) 3 w' w.heap.size (fun k_ => some k_ ≠ ((.slice Ao16 t397.length co16) : Value).ownBlock ∧ some k_ ≠ ((.slice Ao67 t401.length co67) : Value).ownBlock ∧ some k_ ≠ (v434 : Value).ownBlock) (.slice (some ad436) t409.length co66) t409) ∧ Aside0 (Kd.R (Kd.int .i64) 3 w' w.heap.size (fun k_ => some k_ ≠ ((.slice Ao16 t397.length co16) : Value).ownBlock ∧ some k_ ≠ ((.slice Ao67 t401.length co67) : Value).ownBlock ∧ some k_ ≠ ((.slice (some ad436) t409.length co66) : Value).ownBlock) v434 t433) ∧ Aside0 (Below w.heap.size w w'))
              case atStart => exact ⟨(0), (ji61), (by first | rfl | (simp; done) | (simp [*]; done)), (by first | rfl | (simp; done) | (simp only [← hji61] <;> (first | rfl | simp)) | (simp [*]; done)), H', ⟨Nat.le_refl _⟩, ⟨by (with_reducible repeat (first | apply Kd.R_alloc | apply Kd.R_drewN | apply Kd.R_drew)); exact Kd.R_mono HO_5.out (fun _ hk => ⟨hk.1.1, ⟨hk.1.2, hk.2⟩⟩)⟩, ⟨by (with_reducible repeat (first | apply Kd.R_alloc | apply Kd.R_drewN | apply Kd.R_drew)); exact Kd.R_mono HO_7.out (fun _ hk => ⟨hk.1.1, ⟨hk.1.2, hk.2⟩⟩)⟩, ⟨by (with_reducible repeat (first | apply Kd.R_alloc | apply Kd.R_drewN | apply Kd.R_drew)); exact Kd.R_mono HO_11.out (fun _ hk => ⟨hk.1.1, ⟨hk.1.2, hk.2⟩⟩)⟩, ⟨by (with_reducible repeat (first | apply Kd.R_alloc | apply Kd.R_drewN | apply Kd.R_drew)); exact Kd.R_mono HO435.out (fun _ hk => ⟨hk.1.1.2, ⟨hk.1.2, hk.2⟩⟩)⟩, ⟨by repeat (first | (with_reducible first | exact HB.out | apply below_alloc | apply pw_below_drewN | apply below_drew1) | exact HB.out)⟩⟩
              case round =>
               as_aux_lemma =>
               clear H'
               try clear c1
               try clear c2
               try clear p2
               try clear c3
               try clear c4
               try clear p4
               try clear q4
               try clear hx4
               try clear c5
               try clear c6
               try clear p6
               try clear c25
               try clear c25b0
               try clear c25b1
               try clear c25b2
               try clear c27
               try clear c28
               try clear c28b0
               try clear c28b1
               try clear c28b2
               try clear c30
               try clear c31
               try clear c31b0
               try clear c31b1
               try clear c31b2
               try clear c32
               try clear c32b0
               try clear c32b1
               try clear c32b2
               try clear c33
               try clear c33b0
               try clear c33b1
               try clear c33b2
               try clear c35
               try clear c36
               try clear c36b0
               try clear c36b1
               try clear c36b2
               try clear c37
               try clear c37b0
               try clear c37b1
               try clear c37b2
               try clear c38
               try clear p43
               try clear q43
               try clear hx43
               try clear c51
               try clear c53
               try clear c55
               try clear c55b0
               try clear c55b1
               try clear c55b2
               try clear c58
               try clear c60
               try clear c62
               try clear c62b0
               try clear c63
               try clear c63b0
               try clear c64
               try clear c64b0
               try clear c64b1
               try clear p64
               try clear hx436_0
               try clear p2
               try clear p436
               try clear q436
               obtain ⟨x26_3, x27_3, rfl, rfl, HA, HK3, HO_5, HO_7, HO_11, HO_24, HB⟩ := hrel
               cases gk with
               | zero => exact absurd HA.out (by simp [laws_FnAddedBackwards.l0])
               | succ k3 =>
                have H := HA.out
                clear HA
                simp only [laws_FnAddedBackwards.l0] at H
                by_cases c68 : x27_3 ≥ 0
                ·rw [if_pos c68] at H
                 have c68b0 : decide (0 ≤ x27_3) = true := decide_eq_true c68
                 clear c68
                 by_cases c69 : 0 ≤ x27_3
                 ·rw [if_pos c69] at H
                  have c69b0 : decide (0 ≤ x27_3) = true := decide_eq_true c69
                  clear c69
                  by_cases c70 : x27_3 < (t397.length : Int)
                  ·rw [if_pos c70] at H
                   have c70b0 : decide (x27_3 < (t397.length : Int)) = true := decide_eq_true c70
                   clear c70
                   by_cases c71 : x27_3 < (t433.length : Int)
                   ·rw [if_pos c71] at H
                    have c71b0 : decide (x27_3 < (t433.length : Int)) = true := decide_eq_true c71
                    clear c71
                    obtain ⟨ji72, hji72⟩ : ∃ j_ : Int, (wrap64 ((rd t409 (ji61)) + x27_3)) = j_ := ⟨_, rfl⟩
                    replace H : (if 0 ≤ (ji72) then (if (ji72) < (t401.length : Int) then (if 0 ≤ (wrap64 ((wrap64 ((t397.length : Int) - 1)) - x27_3)) then (if (wrap64 ((wrap64 ((t397.length : Int) - 1)) - x27_3)) < (t409.length : Int) then (if (wrap64 ((wrap64 ((rd t397 x27_3) + (rd t433 x27_3))) + x26_3)) = (wrap64 ((rd t401 (ji72)) + (wrap64 (t398 * (rd t409 (wrap64 ((wrap64 ((t397.length : Int) - 1)) - x27_3))))))) then (laws_FnAddedBackwards.l0 k3 l1 t397 t398 t401 t409 t417 (t397.length : Int) t433 (rd t409 (ji61)) (rd t409 (wrap64 ((wrap64 ((t397.length : Int) - 1)) - x27_3))) (wrap64 (x27_3 - 1))) else (some false)) else (none)) else (none)) else (none)) else (none)) = some r := by first | (rw [hji72] at H; exact H) | (simp only [hji72] at H ⊢; exact H)
                    have hji72w : (IntKind.i64.wrap ((rd t409 (ji61)) + x27_3)) = ji72 := (i64_w _).trans hji72
                    by_cases c73 : 0 ≤ (ji72)
                    ·rw [if_pos c73] at H
                     have c73b0 : decide (0 ≤ (ji72)) = true := decide_eq_true c73
                     clear c73
                     by_cases c74 : (ji72) < (t401.length : Int)
                     ·rw [if_pos c74] at H
                      have c74b0 : decide ((ji72) < (t401.length : Int)) = true := decide_eq_true c74
                      clear c74
                      obtain ⟨ji75, hji75⟩ : ∃ j_ : Int, (wrap64 ((wrap64 ((t397.length : Int) - 1)) - x27_3)) = j_ := ⟨_, rfl⟩
                      have hji75yji61 : (wrap64 (ji61 - x27_3)) = ji75 := (by have h_ := hji75; rw [hji61] at h_; exact h_)
                      have hji75zji61 := (i64_w _).trans hji75yji61
                      replace H : (if 0 ≤ (ji75) then (if (ji75) < (t409.length : Int) then (if (wrap64 ((wrap64 ((rd t397 x27_3) + (rd t433 x27_3))) + x26_3)) = (wrap64 ((rd t401 (ji72)) + (wrap64 (t398 * (rd t409 (ji75)))))) then (laws_FnAddedBackwards.l0 k3 l1 t397 t398 t401 t409 t417 (t397.length : Int) t433 (rd t409 (ji61)) (rd t409 (ji75)) (wrap64 (x27_3 - 1))) else (some false)) else (none)) else (none)) = some r := by first | (rw [hji75] at H; exact H) | (simp only [hji75] at H ⊢; exact H)
                      have hji75w : (IntKind.i64.wrap ((wrap64 ((t397.length : Int) - 1)) - x27_3)) = ji75 := (i64_w _).trans hji75
                      by_cases c76 : 0 ≤ (ji75)
                      ·rw [if_pos c76] at H
                       have c76b0 : decide (0 ≤ (ji75)) = true := decide_eq_true c76
                       clear c76
                       by_cases c77 : (ji75) < (t409.length : Int)
                       ·rw [if_pos c77] at H
                        have c77b0 : decide ((ji75) < (t409.length : Int)) = true := decide_eq_true c77
                        clear c77
                        by_cases c78 : (wrap64 ((wrap64 ((rd t397 x27_3) + (rd t433 x27_3))) + x26_3)) = (wrap64 ((rd t401 (ji72)) + (wrap64 (t398 * (rd t409 (ji75))))))
                        ·rw [if_pos c78] at H
                         have c78b0 : ((wrap64 ((wrap64 ((rd t397 x27_3) + (rd t433 x27_3))) + x26_3)) == (wrap64 ((rd t401 (ji72)) + (wrap64 (t398 * (rd t409 (ji75))))))) = true := beq_iff_eq.mpr c78
                         have c78b1 : ((wrap64 ((wrap64 ((rd t397 x27_3) + (rd t433 x27_3))) + x26_3)) != (wrap64 ((rd t401 (ji72)) + (wrap64 (t398 * (rd t409 (ji75))))))) = false := bne_eq_false_iff_eq.mpr c78
                         clear c78
                         have H' := Aside0.mk H
                         clear H
                         have p437 : 0 ≤ (x27_3 : Int) := of_decide_eq_true (by first | (with_reducible assumption) | assumption)
                         have q437 : x27_3 < (t397.length : Int) := of_decide_eq_true (by first | (with_reducible assumption) | assumption)
                         obtain ⟨ad437, e437, hx437_0⟩ := Kd.at_int (Kd.R_reads' HO_5.out).2.2 x27_3 p437 q437
                         cases e437
                         replace p437 := eq_true p437
                         replace q437 := eq_true q437
                         obtain ⟨Ao79, co79, eo79⟩ := Kd.R_slice HO_24.out
                         subst eo79
                         have p438 : 0 ≤ (x27_3 : Int) := of_decide_eq_true (by first | (with_reducible assumption) | assumption)
                         have q438 : x27_3 < (t433.length : Int) := of_decide_eq_true (by first | (with_reducible assumption) | assumption)
                         obtain ⟨ad438, e438, hx438_0⟩ := Kd.at_int (Kd.R_reads' HO_24.out).2.2 x27_3 p438 q438
                         cases e438
                         replace p438 := eq_true p438
                         replace q438 := eq_true q438
                         have p439 : 0 ≤ ((ji72) : Int) := of_decide_eq_true (by first | (with_reducible assumption) | assumption)
                         have q439 : (ji72) < (t401.length : Int) := of_decide_eq_true (by first | (with_reducible assumption) | assumption)
                         obtain ⟨ad439, e439, hx439_0⟩ := Kd.at_int (Kd.R_reads' HO_7.out).2.2 (ji72) p439 q439
                         cases e439
                         replace p439 := eq_true p439
                         replace q439 := eq_true q439
                         have p440 : 0 ≤ ((ji75) : Int) := of_decide_eq_true (by first | (with_reducible assumption) | assumption)
                         have q440 : (ji75) < (t409.length : Int) := of_decide_eq_true (by first | (with_reducible assumption) | assumption)
                         obtain ⟨ad440, e440, hx440_0⟩ := Kd.at_int (Kd.R_reads' HO_11.out).2.2 (ji75) p440 q440
                         obtain rfl : ad436 = ad440 := (by injection e440)
                         replace p440 := eq_true p440
                         replace q440 := eq_true q440
                         have p441 : 0 ≤ ((ji75) : Int) := of_decide_eq_true (by first | (with_reducible assumption) | assumption)
                         have q441 : (ji75) < (t409.length : Int) := of_decide_eq_true (by first | (with_reducible assumption) | assumption)
                         obtain ⟨ad441, e441, hx441_0⟩ := Kd.at_int (Kd.R_reads' HO_11.out).2.2 (ji75) p441 q441
                         obtain rfl : ad436 = ad441 := (by injection e441)
                         replace p441 := eq_true p441
                         replace q441 := eq_true q441
                         go_wp2
                         repeat (go_quiet (fail); try go_wp2)
                         go_roundg k3
                         case measure => have := HJ13.out; have := HJ53.out; have := HK3.out; omega
                         case rel => exact ⟨(rd t409 (ji75)), (wrap64 (x27_3 - 1)), (by first | rfl | (simp; done) | (simp only [← hji75] <;> (first | rfl | simp)) | (simp [*]; done)), (by first | rfl | (simp; done) | (simp [*]; done)), H', ⟨by have := HJ13.out; have := HJ53.out; have := HK3.out; omega⟩, ⟨by (with_reducible repeat (first | apply Kd.R_alloc | apply Kd.R_drewN | apply Kd.R_drew)); exact HO_5.out⟩, ⟨by (with_reducible repeat (first | apply Kd.R_alloc | apply Kd.R_drewN | apply Kd.R_drew)); exact HO_7.out⟩, ⟨by (with_reducible repeat (first | apply Kd.R_alloc | apply Kd.R_drewN | apply Kd.R_drew)); exact HO_11.out⟩, ⟨by (with_reducible repeat (first | apply Kd.R_alloc | apply Kd.R_drewN | apply Kd.R_drew)); exact HO_24.out⟩, ⟨by repeat (first | (with_reducible first | exact HB.out | apply below_alloc | apply pw_below_drewN | apply below_drew1) | exact HB.out)⟩⟩
                        ·rw [if_neg c78] at H
                         have c78b0 : ((wrap64 ((wrap64 ((rd t397 x27_3) + (rd t433 x27_3))) + x26_3)) == (wrap64 ((rd t401 (ji72)) + (wrap64 (t398 * (rd t409 (ji75))))))) = false := beq_eq_false_iff_ne.mpr c78
                         have c78b1 : ((wrap64 ((wrap64 ((rd t397 x27_3) + (rd t433 x27_3))) + x26_3)) != (wrap64 ((rd t401 (ji72)) + (wrap64 (t398 * (rd t409 (ji75))))))) = true := bne_iff_ne.mpr c78
                         exact absurd (Option.some.inj H) (by rw [HR_.out]; decide)
                       ·rw [if_neg c77] at H
                        exact absurd H (by simp)
                      ·rw [if_neg c76] at H
                       exact absurd H (by simp)
                     ·rw [if_neg c74] at H
                      exact absurd H (by simp)
                    ·rw [if_neg c73] at H
                     exact absurd H (by simp)
                   ·rw [if_neg c71] at H
                    exact absurd H (by simp)
                  ·rw [if_neg c70] at H
                   exact absurd H (by simp)
                 ·rw [if_neg c69] at H
                  exact absurd H (by simp)
                ·rw [if_neg c68] at H
                 have c68b0 : decide (0 ≤ x27_3) = false := decide_eq_false c68
                 clear c68
                 replace H := Option.bind_eq_some_iff.mp H
                 obtain ⟨⟨t442, t443⟩, A800, H⟩ := H
                 replace H : (if t443 = true then (if t417 = true then (laws_FnAddedBackwards.j3 k3 l1 t397 t398 t401 (t397.length : Int) t433 (!t442)) else (laws_FnAddedBackwards.j3 k3 l1 t397 t398 t401 (t397.length : Int) t433 false)) else (laws_FnAddedBackwards.j3 k3 l1 t397 t398 t401 (t397.length : Int) t433 true)) = some r := H
                 have A80 := Aside0.mk A800
                 clear A800
                 have HC81 := Aside0.mk H
                 clear H
                 go_upto_region 31 with (first | (go_at_call 67; (with_reducible refine (impl_IsSymmetric.calls k3 _ _ t401 t398 t442 t443 _ ?side1 ?side2 A80.out).mono ?_); (case side1 => repeat (first | exact (Kd.R_reads' HO_7.out).2.2 | (with_reducible refine Kd.C_alloc ?_ _) | (with_reducible refine Kd.C_drewN ?_ _) | (with_reducible refine Kd.C_drew ?_))); (case side2 => exact (Kd.R_reads' HO_7.out).2.1); rintro e w82 ⟨rfl, hb⟩; have n0_ := Aside0.mk (Kd.R_below (by (with_reducible repeat (first | apply Kd.R_alloc | apply Kd.R_drewN | apply Kd.R_drew)); exact HO_5.out) hb); have n1_ := Aside0.mk (Kd.R_below (by (with_reducible repeat (first | apply Kd.R_alloc | apply Kd.R_drewN | apply Kd.R_drew)); exact HO_7.out) hb); have n2_ := Aside0.mk (Kd.R_below (by (with_reducible repeat (first | apply Kd.R_alloc | apply Kd.R_drewN | apply Kd.R_drew)); exact HO_11.out) hb); have n3_ := Aside0.mk (Kd.R_below (by (with_reducible repeat (first | apply Kd.R_alloc | apply Kd.R_drewN | apply Kd.R_drew)); exact HO_24.out) hb); have n4_ := Aside0.mk (below_step (by repeat (first | (with_reducible first | exact HB.out | apply below_alloc | apply pw_below_drewN | apply below_drew1) | exact HB.out)) hb); clear HO_5; clear HO_7; clear HO_11; clear HO_24; clear HB; have HO_5 := n0_; have HO_7 := n1_; have HO_11 := n2_; have HO_24 := n3_; have HB := n4_; clear n0_ n1_ n2_ n3_ n4_; (try clear hb); (try clear hb2); (try clear hk); (try clear hi)))
                 repeat (go_quiet (first | (go_at_call 67; (with_reducible refine (impl_IsSymmetric.calls k3 _ _ t401 t398 t442 t443 _ ?side1 ?side2 A80.out).mono ?_); (case side1 => repeat (first | exact (Kd.R_reads' HO_7.out).2.2 | (with_reducible refine Kd.C_alloc ?_ _) | (with_reducible refine Kd.C_drewN ?_ _) | (with_reducible refine Kd.C_drew ?_))); (case side2 => exact (Kd.R_reads' HO_7.out).2.1); rintro e w82 ⟨rfl, hb⟩; have n0_ := Aside0.mk (Kd.R_below (by (with_reducible repeat (first | apply Kd.R_alloc | apply Kd.R_drewN | apply Kd.R_drew)); exact HO_5.out) hb); have n1_ := Aside0.mk (Kd.R_below (by (with_reducible repeat (first | apply Kd.R_alloc | apply Kd.R_drewN | apply Kd.R_drew)); exact HO_7.out) hb); have n2_ := Aside0.mk (Kd.R_below (by (with_reducible repeat (first | apply Kd.R_alloc | apply Kd.R_drewN | apply Kd.R_drew)); exact HO_11.out) hb); have n3_ := Aside0.mk (Kd.R_below (by (with_reducible repeat (first | apply Kd.R_alloc | apply Kd.R_drewN | apply Kd.R_drew)); exact HO_24.out) hb); have n4_ := Aside0.mk (below_step (by repeat (first | (with_reducible first | exact HB.out | apply below_alloc | apply pw_below_drewN | apply below_drew1) | exact HB.out)) hb); clear HO_5; clear HO_7; clear HO_11; clear HO_24; clear HB; have HO_5 := n0_; have HO_7 := n1_; have HO_11 := n2_; have HO_24 := n3_; have HB := n4_; clear n0_ n1_ n2_ n3_ n4_; (try clear hb); (try clear hb2); (try clear hk); (try clear hi))); go_upto_region 31 with (first | (go_at_call 67; (with_reducible refine (impl_IsSymmetric.calls k3 _ _ t401 t398 t442 t443 _ ?side1 ?side2 A80.out).mono ?_); (case side1 => repeat (first | exact (Kd.R_reads' HO_7.out).2.2 | (with_reducible refine Kd.C_alloc ?_ _) | (with_reducible refine Kd.C_drewN ?_ _) | (with_reducible refine Kd.C_drew ?_))); (case side2 => exact (Kd.R_reads' HO_7.out).2.1); rintro e w82 ⟨rfl, hb⟩; have n0_ := Aside0.mk (Kd.R_below (by (with_reducible repeat (first | apply Kd.R_alloc | apply Kd.R_drewN | apply Kd.R_drew)); exact HO_5.out) hb); have n1_ := Aside0.mk (Kd.R_below (by (with_reducible repeat (first | apply Kd.R_alloc | apply Kd.R_drewN | apply Kd.R_drew)); exact HO_7.out) hb); have n2_ := Aside0.mk (Kd.R_below (by (with_reducible repeat (first | apply Kd.R_alloc | apply Kd.R_drewN | apply Kd.R_drew)); exact HO_11.out) hb); have n3_ := Aside0.mk (Kd.R_below (by (with_reducible repeat (first | apply Kd.R_alloc | apply Kd.R_drewN | apply Kd.R_drew)); exact HO_24.out) hb); have n4_ := Aside0.mk (below_step (by repeat (first | (with_reducible first | exact HB.out | apply below_alloc | apply pw_below_drewN | apply below_drew1) | exact HB.out)) hb); clear HO_5; clear HO_7; clear HO_11; clear HO_24; clear HB; have HO_5 := n0_; have HO_7 := n1_; have HO_11 := n2_; have HO_24 := n3_; have HB := n4_; clear n0_ n1_ n2_ n3_ n4_; (try clear hb); (try clear hb2); (try clear hk); (try clear hi))))
                 (try simp only [Act.put, List.setIfInBounds_toArray, List.set_cons_zero, List.set_cons_succ])
                 go_cut [235] (fun v235 wc => ∃ (kq : Nat) (x235_80 : Bool), v235 = .bool x235_80 ∧ Aside0 (laws_FnAddedBackwards.j3 kq l1 t397 t398 t401 (t397.length : Int) t433 x235_80 = some r) ∧ Aside0 (kq ≤ k3) ∧ Aside0 (Kd.R (Kd.int .i64) 3 wc w.heap.size (fun k_ => some k_ ≠ ((.slice Ao67 t401.length co67) : Value).ownBlock ∧ some k_ ≠ (v434 : Value).ownBlock) (.slice Ao16 t397.length co16) t397) ∧ Aside0 (Kd.R (Kd.int .i64) 3 wc w.heap.size (fun k_ => some k_ ≠ ((.slice Ao16 t397.length co16) : Value).ownBlock ∧ some k_ ≠ (v434 : Value).ownBlock) (.slice Ao67 t401.length co67) t401) ∧ Aside0 (Kd.R (Kd.int .i64) 3 wc w.heap.size (fun k_ => some k_ ≠ ((.slice Ao16 t397.length co16) : Value).ownBlock ∧ some k_ ≠ ((.slice Ao67 t401.length co67) : Value).ownBlock) v434 t433) ∧ Aside0 (Below w.heap.size w wc))
                 case first =>
                  as_aux_lemma =>
                  have H := HC81.out
                  clear HC81
                  by_cases c83 : t443 = true
                  ·subst c83
                   have H1 : (if t417 = true then (laws_FnAddedBackwards.j3 k3 l1 t397 t398 t401 (t397.length : Int) t433 (!t442)) else (laws_FnAddedBackwards.j3 k3 l1 t397 t398 t401 (t397.length : Int) t433 false)) = some r := by rw [if_pos rfl] at H; exact H
                   clear H
                   have H := H1
                   clear H1
                   by_cases c84 : t417 = true
                   ·subst c84
                    have H1 : (laws_FnAddedBackwards.j3 k3 l1 t397 t398 t401 (t397.length : Int) t433 (!t442)) = some r := by rw [if_pos rfl] at H; exact H
                    clear H
                    have H := H1
                    clear H1
                    have H' := Aside0.mk H
                    clear H
                    go_wp2
                    repeat (go_quiet (fail); try go_wp2)
                    go_meet
                    case rel => exact ⟨_, (!t442), (by first | rfl | (simp; done) | (simp [*]; done)), H', ⟨by have := HJ13.out; have := HJ53.out; have := HK3.out; first | omega | exact Nat.le_refl _⟩, ⟨by (with_reducible repeat (first | apply Kd.R_alloc | apply Kd.R_drewN | apply Kd.R_drew)); exact Kd.R_mono HO_5.out (fun _ hk => ⟨hk.1, hk.2.2⟩)⟩, ⟨by (with_reducible repeat (first | apply Kd.R_alloc | apply Kd.R_drewN | apply Kd.R_drew)); exact Kd.R_mono HO_7.out (fun _ hk => ⟨hk.1, hk.2.2⟩)⟩, ⟨by (with_reducible repeat (first | apply Kd.R_alloc | apply Kd.R_drewN | apply Kd.R_drew)); exact Kd.R_mono HO_24.out (fun _ hk => ⟨hk.1, hk.2.1⟩)⟩, ⟨by repeat (first | (with_reducible first | exact HB.out | apply below_alloc | apply pw_below_drewN | apply below_drew1) | exact HB.out)⟩⟩
                   ·replace c84 := Bool.eq_false_iff.mpr c84
                    subst c84
                    have H1 : (laws_FnAddedBackwards.j3 k3 l1 t397 t398 t401 (t397.length : Int) t433 false) = some r := by rw [if_neg (show ¬ (false = true) by decide)] at H; exact H
                    clear H
                    have H := H1
                    clear H1
                    have H' := Aside0.mk H
                    clear H
                    go_wp2
                    repeat (go_quiet (fail); try go_wp2)
                    go_meet
                    case rel => exact ⟨_, (false), (by first | rfl | (simp; done) | (simp [*]; done)), H', ⟨by have := HJ13.out; have := HJ53.out; have := HK3.out; first | omega | exact Nat.le_refl _⟩, ⟨by (with_reducible repeat (first | apply Kd.R_alloc | apply Kd.R_drewN | apply Kd.R_drew)); exact Kd.R_mono HO_5.out (fun _ hk => ⟨hk.1, hk.2.2⟩)⟩, ⟨by (with_reducible repeat (first | apply Kd.R_alloc | apply Kd.R_drewN | apply Kd.R_drew)); exact Kd.R_mono HO_7.out (fun _ hk => ⟨hk.1, hk.2.2⟩)⟩, ⟨by (with_reducible repeat (first | apply Kd.R_alloc | apply Kd.R_drewN | apply Kd.R_drew)); exact Kd.R_mono HO_24.out (fun _ hk => ⟨hk.1, hk.2.1⟩)⟩, ⟨by repeat (first | (with_reducible first | exact HB.out | apply below_alloc | apply pw_below_drewN | apply below_drew1) | exact HB.out)⟩⟩
                  ·replace c83 := Bool.eq_false_iff.mpr c83
                   subst c83
                   have H1 : (laws_FnAddedBackwards.j3 k3 l1 t397 t398 t401 (t397.length : Int) t433 true) = some r := by rw [if_neg (show ¬ (false = true) by decide)] at H; exact H
                   clear H
                   have H := H1
                   clear H1
                   exact (laws_FnAddedBackwards.j3_no HR_.out _ _ _ _ _ _ _ H).elim
                 case rest =>
                  as_aux_lemma =>
                  clear HC81
                  try clear c1
                  try clear c2
                  try clear p2
                  try clear c3
                  try clear c4
                  try clear p4
                  try clear q4
                  try clear hx4
                  try clear c5
                  try clear c6
                  try clear p6
                  try clear c7
                  try clear c8
                  try clear c25
                  try clear c25b0
                  try clear c25b1
                  try clear c25b2
                  try clear c27
                  try clear c28
                  try clear c28b0
                  try clear c28b1
                  try clear c28b2
                  try clear c30
                  try clear c31
                  try clear c31b0
                  try clear c31b1
                  try clear c31b2
                  try clear c32
                  try clear c32b0
                  try clear c32b1
                  try clear c32b2
                  try clear c33
                  try clear c33b0
                  try clear c33b1
                  try clear c33b2
                  try clear c35
                  try clear c36
                  try clear c36b0
                  try clear c36b1
                  try clear c36b2
                  try clear c37
                  try clear c37b0
                  try clear c37b1
                  try clear c37b2
                  try clear c38
                  try clear p43
                  try clear q43
                  try clear hx43
                  try clear p44
                  try clear q44
                  try clear hx44
                  try clear c51
                  try clear c53
                  try clear c55
                  try clear c55b0
                  try clear c55b1
                  try clear c55b2
                  try clear c58
                  try clear c60
                  try clear c62
                  try clear c62b0
                  try clear c63
                  try clear c63b0
                  try clear c64
                  try clear c64b0
                  try clear c64b1
                  try clear p64
                  try clear c68
                  try clear c68b0
                  try clear c69
                  try clear c69b0
                  try clear c70
                  try clear c70b0
                  try clear c71
                  try clear c71b0
                  try clear c73
                  try clear c73b0
                  try clear c74
                  try clear c74b0
                  try clear c76
                  try clear c76b0
                  try clear c77
                  try clear c77b0
                  try clear c78
                  try clear c78b0
                  try clear c78b1
                  try clear c83
                  try clear c84
                  try clear hx436_0
                  try clear hx437_0
                  try clear hx438_0
                  try clear hx439_0
                  try clear hx440_0
                  try clear hx441_0
                  try clear p2
                  try clear p4
                  try clear p43
                  try clear p436
                  try clear p437
                  try clear p438
                  try clear p439
                  try clear p440
                  try clear p441
                  try clear p6
                  try clear p64
                  try clear q4
                  try clear q43
                  try clear q436
                  try clear q437
                  try clear q438
                  try clear q439
                  try clear q440
                  try clear q441
                  obtain ⟨kq, x235_80, rfl, HA, HJ80, HO_5, HO_7, HO_24, HB⟩ := hcut
                  cases kq with
                  | zero => exact absurd HA.out (by simp [laws_FnAddedBackwards.j3])
                  | succ kj80 =>
                   have H := HA.out
                   clear HA
                   simp only [laws_FnAddedBackwards.j3] at H
                   by_cases c85 : x235_80 = true
                   ·subst c85
                    have H1 : (some false) = some r := by rw [if_pos rfl] at H; exact H
                    clear H
                    have H := H1
                    clear H1
                    exact absurd (Option.some.inj H) (by rw [HR_.out]; decide)
                   ·replace c85 := Bool.eq_false_iff.mpr c85
                    subst c85
                    have H1 : (if 0 ≤ (wrap64 ((t397.length : Int) - 1)) then (if (wrap64 ((t397.length : Int) - 1)) < (t397.length : Int) then (if (rd t397 (wrap64 ((t397.length : Int) - 1))) > 0 then ((impl_AddReversed.f kj80 t433 t398).bind fun bt445 => (if bt445.2 = true then ((laws_qSame.f kj80 bt445.1 t401).bind fun t449 => (if t449 = true then (laws_FnAddedBackwards.j4 kj80 l1) else (some false))) else (some false))) else (laws_FnAddedBackwards.j4 kj80 l1)) else (none)) else (none)) = some r := by rw [if_neg (show ¬ (false = true) by decide)] at H; exact H
                    clear H
                    have H := H1
                    clear H1
                    obtain ⟨ji86, hji86⟩ : ∃ j_ : Int, (wrap64 ((t397.length : Int) - 1)) = j_ := ⟨_, rfl⟩
                    have hji86eji61 : ji61 = ji86 := hji61.symm.trans hji86
                    replace H : (if 0 ≤ (ji86) then (if (ji86) < (t397.length : Int) then (if (rd t397 (ji86)) > 0 then ((impl_AddReversed.f kj80 t433 t398).bind fun bt445 => (if bt445.2 = true then ((laws_qSame.f kj80 bt445.1 t401).bind fun t449 => (if t449 = true then (laws_FnAddedBackwards.j4 kj80 l1) else (some false))) else (some false))) else (laws_FnAddedBackwards.j4 kj80 l1)) else (none)) else (none)) = some r := by first | (rw [hji86] at H; exact H) | (simp only [hji86] at H ⊢; exact H)
                    have hji86w : (IntKind.i64.wrap ((t397.length : Int) - 1)) = ji86 := (i64_w _).trans hji86
                    by_cases c87 : 0 ≤ (ji86)
                    ·rw [if_pos c87] at H
                     have c87b0 : decide (0 ≤ (ji86)) = true := decide_eq_true c87
                     clear c87
                     by_cases c88 : (ji86) < (t397.length : Int)
                     ·rw [if_pos c88] at H
                      have c88b0 : decide ((ji86) < (t397.length : Int)) = true := decide_eq_true c88
                      clear c88
                      by_cases c89 : (rd t397 (ji86)) > 0
                      ·rw [if_pos c89] at H
                       have c89b0 : decide (0 < (rd t397 (ji86))) = true := decide_eq_true c89
                       clear c89
                       replace H := Option.bind_eq_some_iff.mp H
                       obtain ⟨⟨t445, t446⟩, A900, H⟩ := H
                       replace H : (if t446 = true then ((laws_qSame.f kj80 t445 t401).bind fun t449 => (if t449 = true then (laws_FnAddedBackwards.j4 kj80 l1) else (some false))) else (some false)) = some r := H
                       have A90 := Aside0.mk A900
                       clear A900
                       by_cases c91 : t446 = true
                       ·subst c91
                        have H1 : ((laws_qSame.f kj80 t445 t401).bind fun t449 => (if t449 = true then (laws_FnAddedBackwards.j4 kj80 l1) else (some false))) = some r := by rw [if_pos rfl] at H; exact H
                        clear H
                        have H := H1
                        clear H1
                        replace H := Option.bind_eq_some_iff.mp H
                        obtain ⟨t449, A920, H⟩ := H
                        replace H : (if t449 = true then (laws_FnAddedBackwards.j4 kj80 l1) else (some false)) = some r := H
                        have A92 := Aside0.mk A920
                        clear A920
                        by_cases c93 : t449 = true
                        ·subst c93
                         have H1 : (laws_FnAddedBackwards.j4 kj80 l1) = some r := by rw [if_pos rfl] at H; exact H
                         clear H
                         have H := H1
                         clear H1
                         have H' := Aside0.mk H
                         clear H
                         have p444 : 0 ≤ ((ji86) : Int) := of_decide_eq_true (by first | (with_reducible assumption) | assumption)
                         have q444 : (ji86) < (t397.length : Int) := of_decide_eq_true (by first | (with_reducible assumption) | assumption)
                         obtain ⟨ad444, e444, hx444_0⟩ := Kd.at_int (Kd.R_reads' HO_5.out).2.2 (ji86) p444 q444
                         cases e444
                         replace p444 := eq_true p444
                         replace q444 := eq_true q444
                         obtain ⟨Ao94, co94, eo94⟩ := Kd.R_slice HO_24.out
                         subst eo94
                         go_wp2_with (first | (go_at_call 57; (with_reducible refine (impl_AddReversed.calls kj80 _ _ t433 t398 t445 true _ ?side1 ?side2 A90.out).mono ?_); (case side1 => repeat (first | exact (Kd.R_reads' HO_24.out).2.2 | (with_reducible refine Kd.C_alloc ?_ _) | (with_reducible refine Kd.C_drewN ?_ _) | (with_reducible refine Kd.C_drew ?_))); (case side2 => exact (Kd.R_reads' HO_24.out).2.1); rintro e w95 ⟨v447, rfl, ho0, hb⟩; have n0_ := Aside0.mk (Kd.R_elder' (by (with_reducible repeat (first | apply Kd.R_alloc | apply Kd.R_drewN | apply Kd.R_drew)); exact HO_5.out) (Kd.R_base ho0) hb); have n1_ := Aside0.mk (Kd.R_elder' (by (with_reducible repeat (first | apply Kd.R_alloc | apply Kd.R_drewN | apply Kd.R_drew)); exact HO_7.out) (Kd.R_base ho0) hb); have n2_ := Aside0.mk (Kd.R_elder' (by (with_reducible repeat (first | apply Kd.R_alloc | apply Kd.R_drewN | apply Kd.R_drew)); exact HO_24.out) (Kd.R_base ho0) hb); have n3_ := Aside0.mk (Kd.R_lower (Kd.R_new' (Kd.R_new' (Kd.R_new' ho0 (Kd.R_lt (by (with_reducible repeat (first | apply Kd.R_alloc | apply Kd.R_drewN | apply Kd.R_drew)); exact HO_5.out))) (Kd.R_lt (by (with_reducible repeat (first | apply Kd.R_alloc | apply Kd.R_drewN | apply Kd.R_drew)); exact HO_7.out))) (Kd.R_lt (by (with_reducible repeat (first | apply Kd.R_alloc | apply Kd.R_drewN | apply Kd.R_drew)); exact HO_24.out))) (below_size (by repeat (first | (with_reducible first | exact HB.out | apply below_alloc | apply pw_below_drewN | apply below_drew1) | exact HB.out)))); have n4_ := Aside0.mk (below_step (by repeat (first | (with_reducible first | exact HB.out | apply below_alloc | apply pw_below_drewN | apply below_drew1) | exact HB.out)) hb); clear HO_5; clear HO_7; clear HO_24; clear HB; have HO_5 := n0_; have HO_7 := n1_; have HO_24 := n2_; have HO448 := n3_; have HB := n4_; clear n0_ n1_ n2_ n3_ n4_; (try clear hb); (try clear hb2); (try clear hk); (try clear hi); (try clear ho0); obtain ⟨Ao96, co96, eo96⟩ := Kd.R_slice HO448.out; subst eo96) | (go_at_call 34; (with_reducible refine (laws_qSame.calls kj80 _ _ t445 _ _ t401 true _ ?side1 ?side2 ?side3 ?side4 A92.out).mono ?_); (case side1 => repeat (first | exact (Kd.R_reads' HO448.out).2.2 | (with_reducible refine Kd.C_alloc ?_ _) | (with_reducible refine Kd.C_drewN ?_ _) | (with_reducible refine Kd.C_drew ?_))); (case side2 => exact (Kd.R_reads' HO448.out).2.1); (case side3 => repeat (first | exact (Kd.R_reads' HO_7.out).2.2 | (with_reducible refine Kd.C_alloc ?_ _) | (with_reducible refine Kd.C_drewN ?_ _) | (with_reducible refine Kd.C_drew ?_))); (case side4 => exact (Kd.R_reads' HO_7.out).2.1); rintro e w' ⟨rfl, ⟨nd, rfl⟩⟩; (try first | exact ⟨rfl, _, World.drewN_drewN _ _ _⟩ | exact ⟨rfl, _, Eq.trans (World.drewN_drewN _ _ _) (congrArg (World.drewN _) (Nat.add_assoc _ _ _))⟩)))
                         repeat (go_quiet (first | (go_at_call 57; (with_reducible refine (impl_AddReversed.calls kj80 _ _ t433 t398 t445 true _ ?side1 ?side2 A90.out).mono ?_); (case side1 => repeat (first | exact (Kd.R_reads' HO_24.out).2.2 | (with_reducible refine Kd.C_alloc ?_ _) | (with_reducible refine Kd.C_drewN ?_ _) | (with_reducible refine Kd.C_drew ?_))); (case side2 => exact (Kd.R_reads' HO_24.out).2.1); rintro e w95 ⟨v447, rfl, ho0, hb⟩; have n0_ := Aside0.mk (Kd.R_elder' (by (with_reducible repeat (first | apply Kd.R_alloc | apply Kd.R_drewN | apply Kd.R_drew)); exact HO_5.out) (Kd.R_base ho0) hb); have n1_ := Aside0.mk (Kd.R_elder' (by (with_reducible repeat (first | apply Kd.R_alloc | apply Kd.R_drewN | apply Kd.R_drew)); exact HO_7.out) (Kd.R_base ho0) hb); have n2_ := Aside0.mk (Kd.R_elder' (by (with_reducible repeat (first | apply Kd.R_alloc | apply Kd.R_drewN | apply Kd.R_drew)); exact HO_24.out) (Kd.R_base ho0) hb); have n3_ := Aside0.mk (Kd.R_lower (Kd.R_new' (Kd.R_new' (Kd.R_new' ho0 (Kd.R_lt (by (with_reducible repeat (first | apply Kd.R_alloc | apply Kd.R_drewN | apply Kd.R_drew)); exact HO_5.out))) (Kd.R_lt (by (with_reducible repeat (first | apply Kd.R_alloc | apply Kd.R_drewN | apply Kd.R_drew)); exact HO_7.out))) (Kd.R_lt (by (with_reducible repeat (first | apply Kd.R_alloc | apply Kd.R_drewN | apply Kd.R_drew)); exact HO_24.out))) (below_size (by repeat (first | (with_reducible first | exact HB.out | apply below_alloc | apply pw_below_drewN | apply below_drew1) | exact HB.out)))); have n4_ := Aside0.mk (below_step (by repeat (first | (with_reducible first | exact HB.out | apply below_alloc | apply pw_below_drewN | apply below_drew1) | exact HB.out)) hb); clear HO_5; clear HO_7; clear HO_24; clear HB; have HO_5 := n0_; have HO_7 := n1_; have HO_24 := n2_; have HO448 := n3_; have HB := n4_; clear n0_ n1_ n2_ n3_ n4_; (try clear hb); (try clear hb2); (try clear hk); (try clear hi); (try clear ho0); obtain ⟨Ao96, co96, eo96⟩ := Kd.R_slice HO448.out; subst eo96) | (go_at_call 34; (with_reducible refine (laws_qSame.calls kj80 _ _ t445 _ _ t401 true _ ?side1 ?side2 ?side3 ?side4 A92.out).mono ?_); (case side1 => repeat (first | exact (Kd.R_reads' HO448.out).2.2 | (with_reducible refine Kd.C_alloc ?_ _) | (with_reducible refine Kd.C_drewN ?_ _) | (with_reducible refine Kd.C_drew ?_))); (case side2 => exact (Kd.R_reads' HO448.out).2.1); (case side3 => repeat (first | exact (Kd.R_reads' HO_7.out).2.2 | (with_reducible refine Kd.C_alloc ?_ _) | (with_reducible refine Kd.C_drewN ?_ _) | (with_reducible refine Kd.C_drew ?_))); (case side4 => exact (Kd.R_reads' HO_7.out).2.1); rintro e w' ⟨rfl, ⟨nd, rfl⟩⟩; (try first | exact ⟨rfl, _, World.drewN_drewN _ _ _⟩ | exact ⟨rfl, _, Eq.trans (World.drewN_drewN _ _ _) (congrArg (World.drewN _) (Nat.add_assoc _ _ _))⟩))); try go_wp2_with (first | (go_at_call 57; (with_reducible refine (impl_AddReversed.calls kj80 _ _ t433 t398 t445 true _ ?side1 ?side2 A90.out).mono ?_); (case side1 => repeat (first | exact (Kd.R_reads' HO_24.out).2.2 | (with_reducible refine Kd.C_alloc ?_ _) | (with_reducible refine Kd.C_drewN ?_ _) | (with_reducible refine Kd.C_drew ?_))); (case side2 => exact (Kd.R_reads' HO_24.out).2.1); rintro e w95 ⟨v447, rfl, ho0, hb⟩; have n0_ := Aside0.mk (Kd.R_elder' (by (with_reducible repeat (first | apply Kd.R_alloc | apply Kd.R_drewN | apply Kd.R_drew)); exact HO_5.out) (Kd.R_base ho0) hb); have n1_ := Aside0.mk (Kd.R_elder' (by (with_reducible repeat (first | apply Kd.R_alloc | apply Kd.R_drewN | apply Kd.R_drew)); exact HO_7.out) (Kd.R_base ho0) hb); have n2_ := Aside0.mk (Kd.R_elder' (by (with_reducible repeat (first | apply Kd.R_alloc | apply Kd.R_drewN | apply Kd.R_drew)); exact HO_24.out) (Kd.R_base ho0) hb); have n3_ := Aside0.mk (Kd.R_lower (Kd.R_new' (Kd.R_new' (Kd.R_new' ho0 (Kd.R_lt (by (with_reducible repeat (first | apply Kd.R_alloc | apply Kd.R_drewN | apply Kd.R_drew)); exact HO_5.out))) (Kd.R_lt (by (with_reducible repeat (first | apply Kd.R_alloc | apply Kd.R_drewN | apply Kd.R_drew)); exact HO_7.out))) (Kd.R_lt (by (with_reducible repeat (first | apply Kd.R_alloc | apply Kd.R_drewN | apply Kd.R_drew)); exact HO_24.out))) (below_size (by repeat (first | (with_reducible first | exact HB.out | apply below_alloc | apply pw_below_drewN | apply below_drew1) | exact HB.out)))); have n4_ := Aside0.mk (below_step (by repeat (first | (with_reducible first | exact HB.out | apply below_alloc | apply pw_below_drewN | apply below_drew1) | exact HB.out)) hb); clear HO_5; clear HO_7; clear HO_24; clear HB; have HO_5 := n0_; have HO_7 := n1_; have HO_24 := n2_; have HO448 := n3_; have HB := n4_; clear n0_ n1_ n2_ n3_ n4_; (try clear hb); (try clear hb2); (try clear hk); (try clear hi); (try clear ho0); obtain ⟨Ao96, co96, eo96⟩ := Kd.R_slice HO448.out; subst eo96) | (go_at_call 34; (with_reducible refine (laws_qSame.calls kj80 _ _ t445 _ _ t401 true _ ?side1 ?side2 ?side3 ?side4 A92.out).mono ?_); (case side1 => repeat (first | exact (Kd.R_reads' HO448.out).2.2 | (with_reducible refine Kd.C_alloc ?_ _) | (with_reducible refine Kd.C_drewN ?_ _) | (with_reducible refine Kd.C_drew ?_))); (case side2 => exact (Kd.R_reads' HO448.out).2.1); (case side3 => repeat (first | exact (Kd.R_reads' HO_7.out).2.2 | (with_reducible refine Kd.C_alloc ?_ _) | (with_reducible refine Kd.C_drewN ?_ _) | (with_reducible refine Kd.C_drew ?_))); (case side4 => exact (Kd.R_reads' HO_7.out).2.1); rintro e w' ⟨rfl, ⟨nd, rfl⟩⟩; (try first | exact ⟨rfl, _, World.drewN_drewN _ _ _⟩ | exact ⟨rfl, _, Eq.trans (World.drewN_drewN _ _ _) (congrArg (World.drewN _) (Nat.add_assoc _ _ _))⟩))))
                         go_meet
                         case rel => exact ⟨_, H', ⟨by have := HJ13.out; have := HJ53.out; have := HK3.out; have := HJ80.out; first | omega | exact Nat.le_refl _⟩, ⟨by repeat (first | (with_reducible first | exact HB.out | apply below_alloc | apply pw_below_drewN | apply below_drew1) | exact HB.out)⟩⟩
                        ·replace c93 := Bool.eq_false_iff.mpr c93
                         subst c93
                         have H1 : (some false) = some r := by rw [if_neg (show ¬ (false = true) by decide)] at H; exact H
                         clear H
                         have H := H1
                         clear H1
                         exact absurd (Option.some.inj H) (by rw [HR_.out]; decide)
                       ·replace c91 := Bool.eq_false_iff.mpr c91
                        subst c91
                        have H1 : (some false) = some r := by rw [if_neg (show ¬ (false = true) by decide)] at H; exact H
                        clear H
                        have H := H1
                        clear H1
                        exact absurd (Option.some.inj H) (by rw [HR_.out]; decide)
                      ·rw [if_neg c89] at H
                       have c89b0 : decide (0 < (rd t397 (ji86))) = false := decide_eq_false c89
                       clear c89
                       have H' := Aside0.mk H
                       clear H
                       have p444 : 0 ≤ ((ji86) : Int) := of_decide_eq_true (by first | (with_reducible assumption) | assumption)
                       have q444 : (ji86) < (t397.length : Int) := of_decide_eq_true (by first | (with_reducible assumption) | assumption)
                       obtain ⟨ad444, e444, hx444_0⟩ := Kd.at_int (Kd.R_reads' HO_5.out).2.2 (ji86) p444 q444
                       cases e444
                       replace p444 := eq_true p444
                       replace q444 := eq_true q444
                       go_wp2
                       repeat (go_quiet (fail); try go_wp2)
                       go_meet
                       case rel => exact ⟨_, H', ⟨by have := HJ13.out; have := HJ53.out; have := HK3.out; have := HJ80.out; first | omega | exact Nat.le_refl _⟩, ⟨by repeat (first | (with_reducible first | exact HB.out | apply below_alloc | apply pw_below_drewN | apply below_drew1) | exact HB.out)⟩⟩
                     ·rw [if_neg c88] at H
                      exact absurd H (by simp)
                    ·rw [if_neg c87] at H
                     exact absurd H (by simp)
             ·rw [if_neg c64] at H
              have c64b0 : ((t401.length : Int) == (wrap64 ((t397.length : Int) + (rd t409 (ji61))))) = false := beq_eq_false_iff_ne.mpr c64
              have c64b1 : ((t401.length : Int) != (wrap64 ((t397.length : Int) + (rd t409 (ji61))))) = true := bne_iff_ne.mpr c64
              exact absurd (Option.some.inj H) (by rw [HR_.out]; decide)
            ·rw [if_neg c63] at H
             exact absurd H (by simp)
           ·rw [if_neg c62] at H
            exact absurd H (by simp)
          ·replace c60 := Bool.eq_false_iff.mpr c60
           subst c60
           have H1 : (laws_FnAddedBackwards.j4 kj53 l1) = some r := by rw [if_neg (show ¬ (false = true) by decide)] at H; exact H
           clear H
           have H := H1
           clear H1
           have H' := Aside0.mk H
           clear H
           go_wp2_with (first | (go_at_call 66; (with_reducible refine (laws_qBack.calls kj53 _ _ t397 t433 _ ?side1 ?side2 A59.out).mono ?_); (case side1 => repeat (first | exact (Kd.R_reads' HO_5.out).2.2 | (with_reducible refine Kd.C_alloc ?_ _) | (with_reducible refine Kd.C_drewN ?_ _) | (with_reducible refine Kd.C_drew ?_))); (case side2 => exact (Kd.R_reads' HO_5.out).2.1); rintro e w97 ⟨v434, rfl, ho0, hb⟩; have n0_ := Aside0.mk (Kd.R_elder' (by (with_reducible repeat (first | apply Kd.R_alloc | apply Kd.R_drewN | apply Kd.R_drew)); exact HO_5.out) (Kd.R_base ho0) hb); have n1_ := Aside0.mk (Kd.R_elder' (by (with_reducible repeat (first | apply Kd.R_alloc | apply Kd.R_drewN | apply Kd.R_drew)); exact HO_7.out) (Kd.R_base ho0) hb); have n2_ := Aside0.mk (Kd.R_elder' (by (with_reducible repeat (first | apply Kd.R_alloc | apply Kd.R_drewN | apply Kd.R_drew)); exact HO_11.out) (Kd.R_base ho0) hb); have n3_ := Aside0.mk (Kd.R_lower (Kd.R_new' (Kd.R_new' (Kd.R_new' ho0 (Kd.R_lt (by (with_reducible repeat (first | apply Kd.R_alloc | apply Kd.R_drewN | apply Kd.R_drew)); exact HO_5.out))) (Kd.R_lt (by (with_reducible repeat (first | apply Kd.R_alloc | apply Kd.R_drewN | apply Kd.R_drew)); exact HO_7.out))) (Kd.R_lt (by (with_reducible repeat (first | apply Kd.R_alloc | apply Kd.R_drewN | apply Kd.R_drew)); exact HO_11.out))) (below_size (by repeat (first | (with_reducible first | exact HB.out | apply below_alloc | apply pw_below_drewN | apply below_drew1) | exact HB.out)))); have n4_ := Aside0.mk (below_step (by repeat (first | (with_reducible first | exact HB.out | apply below_alloc | apply pw_below_drewN | apply below_drew1) | exact HB.out)) hb); clear HO_5; clear HO_7; clear HO_11; clear HB; have HO_5 := n0_; have HO_7 := n1_; have HO_11 := n2_; have HO435 := n3_; have HB := n4_; clear n0_ n1_ n2_ n3_ n4_; (try clear hb); (try clear hb2); (try clear hk); (try clear hi); (try clear ho0)))
           repeat (go_quiet (first | (go_at_call 66; (with_reducible refine (laws_qBack.calls kj53 _ _ t397 t433 _ ?side1 ?side2 A59.out).mono ?_); (case side1 => repeat (first | exact (Kd.R_reads' HO_5.out).2.2 | (with_reducible refine Kd.C_alloc ?_ _) | (with_reducible refine Kd.C_drewN ?_ _) | (with_reducible refine Kd.C_drew ?_))); (case side2 => exact (Kd.R_reads' HO_5.out).2.1); rintro e w97 ⟨v434, rfl, ho0, hb⟩; have n0_ := Aside0.mk (Kd.R_elder' (by (with_reducible repeat (first | apply Kd.R_alloc | apply Kd.R_drewN | apply Kd.R_drew)); exact HO_5.out) (Kd.R_base ho0) hb); have n1_ := Aside0.mk (Kd.R_elder' (by (with_reducible repeat (first | apply Kd.R_alloc | apply Kd.R_drewN | apply Kd.R_drew)); exact HO_7.out) (Kd.R_base ho0) hb); have n2_ := Aside0.mk (Kd.R_elder' (by (with_reducible repeat (first | apply Kd.R_alloc | apply Kd.R_drewN | apply Kd.R_drew)); exact HO_11.out) (Kd.R_base ho0) hb); have n3_ := Aside0.mk (Kd.R_lower (Kd.R_new' (Kd.R_new' (Kd.R_new' ho0 (Kd.R_lt (by (with_reducible repeat (first | apply Kd.R_alloc | apply Kd.R_drewN | apply Kd.R_drew)); exact HO_5.out))) (Kd.R_lt (by (with_reducible repeat (first | apply Kd.R_alloc | apply Kd.R_drewN | apply Kd.R_drew)); exact HO_7.out))) (Kd.R_lt (by (with_reducible repeat (first | apply Kd.R_alloc | apply Kd.R_drewN | apply Kd.R_drew)); exact HO_11.out))) (below_size (by repeat (first | (with_reducible first | exact HB.out | apply below_alloc | apply pw_below_drewN | apply below_drew1) | exact HB.out)))); have n4_ := Aside0.mk (below_step (by repeat (first | (with_reducible first | exact HB.out | apply below_alloc | apply pw_below_drewN | apply below_drew1) | exact HB.out)) hb); clear HO_5; clear HO_7; clear HO_11; clear HB; have HO_5 := n0_; have HO_7 := n1_; have HO_11 := n2_; have HO435 := n3_; have HB := n4_; clear n0_ n1_ n2_ n3_ n4_; (try clear hb); (try clear hb2); (try clear hk); (try clear hi); (try clear ho0))); try go_wp2_with (first | (go_at_call 66; (with_reducible refine (laws_qBack.calls kj53 _ _ t397 t433 _ ?side1 ?side2 A59.out).mono ?_); (case side1 => repeat (first | exact (Kd.R_reads' HO_5.out).2.2 | (with_reducible refine Kd.C_alloc ?_ _) | (with_reducible refine Kd.C_drewN ?_ _) | (with_reducible refine Kd.C_drew ?_))); (case side2 => exact (Kd.R_reads' HO_5.out).2.1); rintro e w97 ⟨v434, rfl, ho0, hb⟩; have n0_ := Aside0.mk (Kd.R_elder' (by (with_reducible repeat (first | apply Kd.R_alloc | apply Kd.R_drewN | apply Kd.R_drew)); exact HO_5.out) (Kd.R_base ho0) hb); have n1_ := Aside0.mk (Kd.R_elder' (by (with_reducible repeat (first | apply Kd.R_alloc | apply Kd.R_drewN | apply Kd.R_drew)); exact HO_7.out) (Kd.R_base ho0) hb); have n2_ := Aside0.mk (Kd.R_elder' (by (with_reducible repeat (first | apply Kd.R_alloc | apply Kd.R_drewN | apply Kd.R_drew)); exact HO_11.out) (Kd.R_base ho0) hb); have n3_ := Aside0.mk (Kd.R_lower (Kd.R_new' (Kd.R_new' (Kd.R_new' ho0 (Kd.R_lt (by (with_reducible repeat (first | apply Kd.R_alloc | apply Kd.R_drewN | apply Kd.R_drew)); exact HO_5.out))) (Kd.R_lt (by (with_reducible repeat (first | apply Kd.R_alloc | apply Kd.R_drewN | apply Kd.R_drew)); exact HO_7.out))) (Kd.R_lt (by (with_reducible repeat (first | apply Kd.R_alloc | apply Kd.R_drewN | apply Kd.R_drew)); exact HO_11.out))) (below_size (by repeat (first | (with_reducible first | exact HB.out | apply below_alloc | apply pw_below_drewN | apply below_drew1) | exact HB.out)))); have n4_ := Aside0.mk (below_step (by repeat (first | (with_reducible first | exact HB.out | apply below_alloc | apply pw_below_drewN | apply below_drew1) | exact HB.out)) hb); clear HO_5; clear HO_7; clear HO_11; clear HB; have HO_5 := n0_; have HO_7 := n1_; have HO_11 := n2_; have HO435 := n3_; have HB := n4_; clear n0_ n1_ n2_ n3_ n4_; (try clear hb); (try clear hb2); (try clear hk); (try clear hi); (try clear ho0))))
           go_meet
           case rel => exact ⟨_, H', ⟨by have := HJ13.out; have := HJ53.out; first | omega | exact Nat.le_refl _⟩, ⟨by repeat (first | (with_reducible first | exact HB.out | apply below_alloc | apply pw_below_drewN | apply below_drew1) | exact HB.out)⟩⟩
      ·replace c53 := Bool.eq_false_iff.mpr c53
       subst c53
       have H1 : (laws_FnAddedBackwards.j4 kj13 l1) = some r := by rw [if_neg (show ¬ (false = true) by decide)] at H; exact H
       clear H
       have H := H1
       clear H1
       have H' := Aside0.mk H
       clear H
       go_wp2
       repeat (go_quiet (fail); try go_wp2)
       go_meet
       case rel => exact ⟨_, H', ⟨by have := HJ13.out; first | omega | exact Nat.le_refl _⟩, ⟨by repeat (first | (with_reducible first | exact HB.out | apply below_alloc | apply pw_below_drewN | apply below_drew1) | exact HB.out)⟩⟩
     case rest =>
      as_aux_lemma =>
      clear HC52
      try clear c1
      try clear c2
      try clear p2
      try clear c3
      try clear c4
      try clear p4
      try clear q4
      try clear hx4
      try clear c5
      try clear c6
      try clear p6
      try clear c7
      try clear c8
      try clear c9
      try clear c25
      try clear c25b0
      try clear c25b1
      try clear c25b2
      try clear c27
      try clear c28
      try clear c28b0
      try clear c28b1
      try clear c28b2
      try clear c30
      try clear c31
      try clear c31b0
      try clear c31b1
      try clear c31b2
      try clear c32
      try clear c32b0
      try clear c32b1
      try clear c32b2
      try clear c33
      try clear c33b0
      try clear c33b1
      try clear c33b2
      try clear c35
      try clear c36
      try clear c36b0
      try clear c36b1
      try clear c36b2
      try clear c37
      try clear c37b0
      try clear c37b1
      try clear c37b2
      try clear c38
      try clear p43
      try clear q43
      try clear hx43
      try clear p44
      try clear q44
      try clear hx44
      try clear c51
      try clear c53
      try clear c55
      try clear c55b0
      try clear c55b1
      try clear c55b2
      try clear c58
      try clear c60
      try clear c62
      try clear c62b0
      try clear c63
      try clear c63b0
      try clear c64
      try clear c64b0
      try clear c64b1
      try clear p64
      try clear c68
      try clear c68b0
      try clear c69
      try clear c69b0
      try clear c70
      try clear c70b0
      try clear c71
      try clear c71b0
      try clear c73
      try clear c73b0
      try clear c74
      try clear c74b0
      try clear c76
      try clear c76b0
      try clear c77
      try clear c77b0
      try clear c78
      try clear c78b0
      try clear c78b1
      try clear c83
      try clear c84
      try clear c85
      try clear c87
      try clear c87b0
      try clear c88
      try clear c88b0
      try clear c89
      try clear c89b0
      try clear c91
      try clear c93
      try clear hx436_0
      try clear hx437_0
      try clear hx438_0
      try clear hx439_0
      try clear hx440_0
      try clear hx441_0
      try clear hx444_0
      try clear p2
      try clear p4
      try clear p43
      try clear p436
      try clear p437
      try clear p438
      try clear p439
      try clear p44
      try clear p440
      try clear p441
      try clear p444
      try clear p6
      try clear p64
      try clear q4
      try clear q43
      try clear q436
      try clear q437
      try clear q438
      try clear q439
      try clear q44
      try clear q440
      try clear q441
      try clear q444
      obtain ⟨kq, HA, HJ51, HB⟩ := hcut
      cases kq with
      | zero => exact absurd HA.out (by simp [laws_FnAddedBackwards.j4])
      | succ kj51 =>
       have H := HA.out
       clear HA
       simp only [laws_FnAddedBackwards.j4] at H
       replace H := Option.bind_eq_some_iff.mp H
       obtain ⟨⟨t450, t451⟩, A980, H⟩ := H
       replace H : ((impl_IsSymmetric.f kj51 t450 t451).bind fun bt454 => ((spec_IsSymmetric.f kj51 t450 t451).bind fun bt456 => (if (bt454.2 != bt456.2) = true then (laws_FnAddedBackwards.j5 kj51 t450 bt454.1 bt454.2 true) else (laws_FnAddedBackwards.j5 kj51 t450 bt454.1 bt454.2 (bt454.1 != bt456.1))))) = some r := H
       have A98 := Aside0.mk A980
       clear A980
       replace H := Option.bind_eq_some_iff.mp H
       obtain ⟨⟨t454, t455⟩, A990, H⟩ := H
       replace H : ((spec_IsSymmetric.f kj51 t450 t451).bind fun bt456 => (if (t455 != bt456.2) = true then (laws_FnAddedBackwards.j5 kj51 t450 t454 t455 true) else (laws_FnAddedBackwards.j5 kj51 t450 t454 t455 (t454 != bt456.1)))) = some r := H
       have A99 := Aside0.mk A990
       clear A990
       replace H := Option.bind_eq_some_iff.mp H
       obtain ⟨⟨t456, t457⟩, A1000, H⟩ := H
       replace H : (if (t455 != t457) = true then (laws_FnAddedBackwards.j5 kj51 t450 t454 t455 true) else (laws_FnAddedBackwards.j5 kj51 t450 t454 t455 (t454 != t456))) = some r := H
       have A100 := Aside0.mk A1000
       clear A1000
       have HC101 := Aside0.mk H
       clear H
       go_upto_region 40 with (first | (go_at_call 68; (with_reducible refine (spec_DrawIsSymmetric.calls kj51 _ _ l1 t450 t451 _ ?side1 ?side2 A98.out).mono ?_); (case side1 => repeat (first | exact (Kd.C_below HR1.out HB.out) | (with_reducible refine Kd.C_alloc ?_ _) | (with_reducible refine Kd.C_drewN ?_ _) | (with_reducible refine Kd.C_drew ?_))); (case side2 => exact HC1.out); rintro e w102 ⟨v452, rfl, ho0, hb⟩; have n0_ := Aside0.mk (Kd.R_lower ho0 (below_size (by repeat (first | (with_reducible first | exact HB.out | apply below_alloc | apply pw_below_drewN | apply below_drew1) | exact HB.out)))); have n1_ := Aside0.mk (below_step (by repeat (first | (with_reducible first | exact HB.out | apply below_alloc | apply pw_below_drewN | apply below_drew1) | exact HB.out)) hb); clear HB; have HO453 := n0_; have HB := n1_; clear n0_ n1_; (try clear hb); (try clear hb2); (try clear hk); (try clear hi); (try clear ho0); obtain ⟨Ao103, co103, eo103⟩ := Kd.R_slice HO453.out; subst eo103) | (go_at_call 67; (with_reducible refine (impl_IsSymmetric.calls kj51 _ _ t450 t451 t454 t455 _ ?side1 ?side2 A99.out).mono ?_); (case side1 => repeat (first | exact (Kd.R_reads' HO453.out).2.2 | (with_reducible refine Kd.C_alloc ?_ _) | (with_reducible refine Kd.C_drewN ?_ _) | (with_reducible refine Kd.C_drew ?_))); (case side2 => exact (Kd.R_reads' HO453.out).2.1); rintro e w104 ⟨rfl, hb⟩; have n0_ := Aside0.mk (Kd.R_below (by (with_reducible repeat (first | apply Kd.R_alloc | apply Kd.R_drewN | apply Kd.R_drew)); exact HO453.out) hb); have n1_ := Aside0.mk (below_step (by repeat (first | (with_reducible first | exact HB.out | apply below_alloc | apply pw_below_drewN | apply below_drew1) | exact HB.out)) hb); clear HO453; clear HB; have HO453 := n0_; have HB := n1_; clear n0_ n1_; (try clear hb); (try clear hb2); (try clear hk); (try clear hi)) | (go_at_call 69; (with_reducible refine (spec_IsSymmetric.calls kj51 _ _ t450 t451 t456 t457 _ ?side1 ?side2 A100.out).mono ?_); (case side1 => repeat (first | exact (Kd.R_reads' HO453.out).2.2 | (with_reducible refine Kd.C_alloc ?_ _) | (with_reducible refine Kd.C_drewN ?_ _) | (with_reducible refine Kd.C_drew ?_))); (case side2 => exact (Kd.R_reads' HO453.out).2.1); rintro e w105 ⟨rfl, hb⟩; have n0_ := Aside0.mk (Kd.R_below (by (with_reducible repeat (first | apply Kd.R_alloc | apply Kd.R_drewN | apply Kd.R_drew)); exact HO453.out) hb); have n1_ := Aside0.mk (below_step (by repeat (first | (with_reducible first | exact HB.out | apply below_alloc | apply pw_below_drewN | apply below_drew1) | exact HB.out)) hb); clear HO453; clear HB; have HO453 := n0_; have HB := n1_; clear n0_ n1_; (try clear hb); (try clear hb2); (try clear hk); (try clear hi)))
       repeat (go_quiet (first | (go_at_call 68; (with_reducible refine (spec_DrawIsSymmetric.calls kj51 _ _ l1 t450 t451 _ ?side1 ?side2 A98.out).mono ?_); (case side1 => repeat (first | exact (Kd.C_below HR1.out HB.out) | (with_reducible refine Kd.C_alloc ?_ _) | (with_reducible refine Kd.C_drewN ?_ _) | (with_reducible refine Kd.C_drew ?_))); (case side2 => exact HC1.out); rintro e w102 ⟨v452, rfl, ho0, hb⟩; have n0_ := Aside0.mk (Kd.R_lower ho0 (below_size (by repeat (first | (with_reducible first | exact HB.out | apply below_alloc | apply pw_below_drewN | apply below_drew1) | exact HB.out)))); have n1_ := Aside0.mk (below_step (by repeat (first | (with_reducible first | exact HB.out | apply below_alloc | apply pw_below_drewN | apply below_drew1) | exact HB.out)) hb); clear HB; have HO453 := n0_; have HB := n1_; clear n0_ n1_; (try clear hb); (try clear hb2); (try clear hk); (try clear hi); (try clear ho0); obtain ⟨Ao103, co103, eo103⟩ := Kd.R_slice HO453.out; subst eo103) | (go_at_call 67; (with_reducible refine (impl_IsSymmetric.calls kj51 _ _ t450 t451 t454 t455 _ ?side1 ?side2 A99.out).mono ?_); (case side1 => repeat (first | exact (Kd.R_reads' HO453.out).2.2 | (with_reducible refine Kd.C_alloc ?_ _) | (with_reducible refine Kd.C_drewN ?_ _) | (with_reducible refine Kd.C_drew ?_))); (case side2 => exact (Kd.R_reads' HO453.out).2.1); rintro e w104 ⟨rfl, hb⟩; have n0_ := Aside0.mk (Kd.R_below (by (with_reducible repeat (first | apply Kd.R_alloc | apply Kd.R_drewN | apply Kd.R_drew)); exact HO453.out) hb); have n1_ := Aside0.mk (below_step (by repeat (first | (with_reducible first | exact HB.out | apply below_alloc | apply pw_below_drewN | apply below_drew1) | exact HB.out)) hb); clear HO453; clear HB; have HO453 := n0_; have HB := n1_; clear n0_ n1_; (try clear hb); (try clear hb2); (try clear hk); (try clear hi)) | (go_at_call 69; (with_reducible refine (spec_IsSymmetric.calls kj51 _ _ t450 t451 t456 t457 _ ?side1 ?side2 A100.out).mono ?_); (case side1 => repeat (first | exact (Kd.R_reads' HO453.out).2.2 | (with_reducible refine Kd.C_alloc ?_ _) | (with_reducible refine Kd.C_drewN ?_ _) | (with_reducible refine Kd.C_drew ?_))); (case side2 => exact (Kd.R_reads' HO453.out).2.1); rintro e w105 ⟨rfl, hb⟩; have n0_ := Aside0.mk (Kd.R_below (by (with_reducible repeat (first | apply Kd.R_alloc | apply Kd.R_drewN | apply Kd.R_drew)); exact HO453.out) hb); have n1_ := Aside0.mk (below_step (by repeat (first | (with_reducible first | exact HB.out | apply below_alloc | apply pw_below_drewN | apply below_drew1) | exact HB.out)) hb); clear HO453; clear HB; have HO453 := n0_; have HB := n1_; clear n0_ n1_; (try clear hb); (try clear hb2); (try clear hk); (try clear hi))); go_upto_region 40 with (first | (go_at_call 68; (with_reducible refine (spec_DrawIsSymmetric.calls kj51 _ _ l1 t450 t451 _ ?side1 ?side2 A98.out).mono ?_); (case side1 => repeat (first | exact (Kd.C_below HR1.out HB.out) | (with_reducible refine Kd.C_alloc ?_ _) | (with_reducible refine Kd.C_drewN ?_ _) | (with_reducible refine Kd.C_drew ?_))); (case side2 => exact HC1.out); rintro e w102 ⟨v452, rfl, ho0, hb⟩; have n0_ := Aside0.mk (Kd.R_lower ho0 (below_size (by repeat (first | (with_reducible first | exact HB.out | apply below_alloc | apply pw_below_drewN | apply below_drew1) | exact HB.out)))); have n1_ := Aside0.mk (below_step (by repeat (first | (with_reducible first | exact HB.out | apply below_alloc | apply pw_below_drewN | apply below_drew1) | exact HB.out)) hb); clear HB; have HO453 := n0_; have HB := n1_; clear n0_ n1_; (try clear hb); (try clear hb2); (try clear hk); (try clear hi); (try clear ho0); obtain ⟨Ao103, co103, eo103⟩ := Kd.R_slice HO453.out; subst eo103) | (go_at_call 67; (with_reducible refine (impl_IsSymmetric.calls kj51 _ _ t450 t451 t454 t455 _ ?side1 ?side2 A99.out).mono ?_); (case side1 => repeat (first | exact (Kd.R_reads' HO453.out).2.2 | (with_reducible refine Kd.C_alloc ?_ _) | (with_reducible refine Kd.C_drewN ?_ _) | (with_reducible refine Kd.C_drew ?_))); (case side2 => exact (Kd.R_reads' HO453.out).2.1); rintro e w104 ⟨rfl, hb⟩; have n0_ := Aside0.mk (Kd.R_below (by (with_reducible repeat (first | apply Kd.R_alloc | apply Kd.R_drewN | apply Kd.R_drew)); exact HO453.out) hb); have n1_ := Aside0.mk (below_step (by repeat (first | (with_reducible first | exact HB.out | apply below_alloc | apply pw_below_drewN | apply below_drew1) | exact HB.out)) hb); clear HO453; clear HB; have HO453 := n0_; have HB := n1_; clear n0_ n1_; (try clear hb); (try clear hb2); (try clear hk); (try clear hi)) | (go_at_call 69; (with_reducible refine (spec_IsSymmetric.calls kj51 _ _ t450 t451 t456 t457 _ ?side1 ?side2 A100.out).mono ?_); (case side1 => repeat (first | exact (Kd.R_reads' HO453.out).2.2 | (with_reducible refine Kd.C_alloc ?_ _) | (with_reducible refine Kd.C_drewN ?_ _) | (with_reducible refine Kd.C_drew ?_))); (case side2 => exact (Kd.R_reads' HO453.out).2.1); rintro e w105 ⟨rfl, hb⟩; have n0_ := Aside0.mk (Kd.R_below (by (with_reducible repeat (first | apply Kd.R_alloc | apply Kd.R_drewN | apply Kd.R_drew)); exact HO453.out) hb); have n1_ := Aside0.mk (below_step (by repeat (first | (with_reducible first | exact HB.out | apply below_alloc | apply pw_below_drewN | apply below_drew1) | exact HB.out)) hb); clear HO453; clear HB; have HO453 := n0_; have HB := n1_; clear n0_ n1_; (try clear hb); (try clear hb2); (try clear hk); (try clear hi))))
       (try simp only [Act.put, List.setIfInBounds_toArray, List.set_cons_zero, List.set_cons_succ])
       go_cut [280] (fun v280 wc => ∃ (kq : Nat) (x280_100 : Bool), v280 = .bool x280_100 ∧ Aside0 (laws_FnAddedBackwards.j5 kq t450 t454 t455 x280_100 = some r) ∧ Aside0 (kq ≤ kj51) ∧ Aside0 (Kd.R (Kd.int .i64) 3 wc w.heap.size (fun _ => True) (.slice Ao103 t450.length co103) t450) ∧ Aside0 (Below w.heap.size w wc))
       case first =>
        as_aux_lemma =>
        have H := HC101.out
        clear HC101
        by_cases c106 : (t455 != t457) = true
        ·rw [if_pos c106] at H
         have c106b0 : (t455 != t457) = true := c106
         (try (have c106b1 : decide (t455 = t457) = false := by simpa using c106))
         (try (have c106b2 : (t455 == t457) = false := by simpa using c106))
         (try (have c106b3 : ¬ (t455 = t457) := by simpa using c106))
         clear c106
         (first | rw [c106b0] | (simp only [i64_w, i32_w]; rw [c106b0]) | skip)
         exact (laws_FnAddedBackwards.j5_no HR_.out _ _ _ _ H).elim
        ·rw [if_neg c106] at H
         have c106b0 : (t455 != t457) = false := by simpa using c106
         (try (have c106b1 : decide (t455 = t457) = true := by simpa using c106))
         (try (have c106b2 : (t455 == t457) = true := by simpa using c106))
         clear c106
         (first | rw [c106b0] | (simp only [i64_w, i32_w]; rw [c106b0]) | skip)
         have H' := Aside0.mk H
         clear H
         go_wp2
         repeat (go_quiet (fail); try go_wp2)
         go_meet
         case rel => exact ⟨_, ((t454 != t456)), (by first | rfl | (simp; done) | (simp [*]; done)), H', ⟨by have := HJ13.out; have := HJ51.out; first | omega | exact Nat.le_refl _⟩, ⟨by (with_reducible repeat (first | apply Kd.R_alloc | apply Kd.R_drewN | apply Kd.R_drew)); exact HO453.out⟩, ⟨by repeat (first | (with_reducible first | exact HB.out | apply below_alloc | apply pw_below_drewN | apply below_drew1) | exact HB.out)⟩⟩
       case rest =>
        as_aux_lemma =>
        clear HC101
        try clear c1
        try clear c2
        try clear p2
        try clear c3
        try clear c4
        try clear p4
        try clear q4
        try clear hx4
        try clear c5
        try clear c6
        try clear p6
        try clear c7
        try clear c8
        try clear c9
        try clear c10
        try clear c25
        try clear c25b0
        try clear c25b1
        try clear c25b2
        try clear c27
        try clear c28
        try clear c28b0
        try clear c28b1
        try clear c28b2
        try clear c30
        try clear c31
        try clear c31b0
        try clear c31b1
        try clear c31b2
        try clear c32
        try clear c32b0
        try clear c32b1
        try clear c32b2
        try clear c33
        try clear c33b0
        try clear c33b1
        try clear c33b2
        try clear c35
        try clear c36
        try clear c36b0
        try clear c36b1
        try clear c36b2
        try clear c37
        try clear c37b0
        try clear c37b1
        try clear c37b2
        try clear c38
        try clear p43
        try clear q43
        try clear hx43
        try clear p44
        try clear q44
        try clear hx44
        try clear c51
        try clear c53
        try clear c55
        try clear c55b0
        try clear c55b1
        try clear c55b2
        try clear c58
        try clear c60
        try clear c62
        try clear c62b0
        try clear c63
        try clear c63b0
        try clear c64
        try clear c64b0
        try clear c64b1
        try clear p64
        try clear c68
        try clear c68b0
        try clear c69
        try clear c69b0
        try clear c70
        try clear c70b0
        try clear c71
        try clear c71b0
        try clear c73
        try clear c73b0
        try clear c74
        try clear c74b0
        try clear c76
        try clear c76b0
        try clear c77
        try clear c77b0
        try clear c78
        try clear c78b0
        try clear c78b1
        try clear c83
        try clear c84
        try clear c85
        try clear c87
        try clear c87b0
        try clear c88
        try clear c88b0
        try clear c89
        try clear c89b0
        try clear c91
        try clear c93
        try clear c106
        try clear c106b0
        try clear c106b1
        try clear c106b2
        try clear hx436_0
        try clear hx437_0
        try clear hx438_0
        try clear hx439_0
        try clear hx440_0
        try clear hx441_0
        try clear hx444_0
        try clear p2
        try clear p4
        try clear p43
        try clear p436
        try clear p437
        try clear p438
        try clear p439
        try clear p44
        try clear p440
        try clear p441
        try clear p444
        try clear p6
        try clear p64
        try clear q4
        try clear q43
        try clear q436
        try clear q437
        try clear q438
        try clear q439
        try clear q44
        try clear q440
        try clear q441
        try clear q444
        obtain ⟨kq, x280_100, rfl, HA, HJ100, HO_32, HB⟩ := hcut
        cases kq with
        | zero => exact absurd HA.out (by simp [laws_FnAddedBackwards.j5])
        | succ kj100 =>
         have H := HA.out
         clear HA
         simp only [laws_FnAddedBackwards.j5] at H
         by_cases c107 : x280_100 = true
         ·subst c107
          have H1 : (some false) = some r := by rw [if_pos rfl] at H; exact H
          clear H
          have H := H1
          clear H1
          exact absurd (Option.some.inj H) (by rw [HR_.out]; decide)
         ·replace c107 := Bool.eq_false_iff.mpr c107
          subst c107
          have H1 : (if t455 = true then ((laws_qBack.f kj100 t450).bind fun t458 => ((laws_qSame.f kj100 t450 t458).bind fun t461 => (some (t454 == t461)))) else (some true)) = some r := by rw [if_neg (show ¬ (false = true) by decide)] at H; exact H
          clear H
          have H := H1
          clear H1
          by_cases c108 : t455 = true
          ·subst c108
           have H1 : ((laws_qBack.f kj100 t450).bind fun t458 => ((laws_qSame.f kj100 t450 t458).bind fun t461 => (some (t454 == t461)))) = some r := by rw [if_pos rfl] at H; exact H
           clear H
           have H := H1
           clear H1
           replace H := Option.bind_eq_some_iff.mp H
           obtain ⟨t458, A1090, H⟩ := H
           replace H : ((laws_qSame.f kj100 t450 t458).bind fun t461 => (some (t454 == t461))) = some r := H
           have A109 := Aside0.mk A1090
           clear A1090
           replace H := Option.bind_eq_some_iff.mp H
           obtain ⟨t461, A1100, H⟩ := H
           replace H : (some (t454 == t461)) = some r := H
           have A110 := Aside0.mk A1100
           clear A1100
           obtain rfl := Option.some.inj H
           go_wp2_with (first | (go_at_call 66; (with_reducible refine (laws_qBack.calls kj100 _ _ t450 t458 _ ?side1 ?side2 A109.out).mono ?_); (case side1 => repeat (first | exact (Kd.R_reads' HO_32.out).2.2 | (with_reducible refine Kd.C_alloc ?_ _) | (with_reducible refine Kd.C_drewN ?_ _) | (with_reducible refine Kd.C_drew ?_))); (case side2 => exact (Kd.R_reads' HO_32.out).2.1); rintro e w111 ⟨v459, rfl, ho0, hb⟩; have n0_ := Aside0.mk (Kd.R_elder' (by (with_reducible repeat (first | apply Kd.R_alloc | apply Kd.R_drewN | apply Kd.R_drew)); exact HO_32.out) (Kd.R_base ho0) hb); have n1_ := Aside0.mk (Kd.R_lower (Kd.R_new' ho0 (Kd.R_lt (by (with_reducible repeat (first | apply Kd.R_alloc | apply Kd.R_drewN | apply Kd.R_drew)); exact HO_32.out))) (below_size (by repeat (first | (with_reducible first | exact HB.out | apply below_alloc | apply pw_below_drewN | apply below_drew1) | exact HB.out)))); have n2_ := Aside0.mk (below_step (by repeat (first | (with_reducible first | exact HB.out | apply below_alloc | apply pw_below_drewN | apply below_drew1) | exact HB.out)) hb); clear HO_32; clear HB; have HO_32 := n0_; have HO460 := n1_; have HB := n2_; clear n0_ n1_ n2_; (try clear hb); (try clear hb2); (try clear hk); (try clear hi); (try clear ho0); obtain ⟨Ao112, co112, eo112⟩ := Kd.R_slice HO460.out; subst eo112) | (go_at_call 34; (with_reducible refine (laws_qSame.calls kj100 _ _ t450 _ _ t458 t461 _ ?side1 ?side2 ?side3 ?side4 A110.out).mono ?_); (case side1 => repeat (first | exact (Kd.R_reads' HO_32.out).2.2 | (with_reducible refine Kd.C_alloc ?_ _) | (with_reducible refine Kd.C_drewN ?_ _) | (with_reducible refine Kd.C_drew ?_))); (case side2 => exact (Kd.R_reads' HO_32.out).2.1); (case side3 => repeat (first | exact (Kd.R_reads' HO460.out).2.2 | (with_reducible refine Kd.C_alloc ?_ _) | (with_reducible refine Kd.C_drewN ?_ _) | (with_reducible refine Kd.C_drew ?_))); (case side4 => exact (Kd.R_reads' HO460.out).2.1); rintro e w' ⟨rfl, ⟨nd, rfl⟩⟩; (try first | exact ⟨rfl, _, World.drewN_drewN _ _ _⟩ | exact ⟨rfl, _, Eq.trans (World.drewN_drewN _ _ _) (congrArg (World.drewN _) (Nat.add_assoc _ _ _))⟩)))
           repeat (go_quiet (first | (go_at_call 66; (with_reducible refine (laws_qBack.calls kj100 _ _ t450 t458 _ ?side1 ?side2 A109.out).mono ?_); (case side1 => repeat (first | exact (Kd.R_reads' HO_32.out).2.2 | (with_reducible refine Kd.C_alloc ?_ _) | (with_reducible refine Kd.C_drewN ?_ _) | (with_reducible refine Kd.C_drew ?_))); (case side2 => exact (Kd.R_reads' HO_32.out).2.1); rintro e w111 ⟨v459, rfl, ho0, hb⟩; have n0_ := Aside0.mk (Kd.R_elder' (by (with_reducible repeat (first | apply Kd.R_alloc | apply Kd.R_drewN | apply Kd.R_drew)); exact HO_32.out) (Kd.R_base ho0) hb); have n1_ := Aside0.mk (Kd.R_lower (Kd.R_new' ho0 (Kd.R_lt (by (with_reducible repeat (first | apply Kd.R_alloc | apply Kd.R_drewN | apply Kd.R_drew)); exact HO_32.out))) (below_size (by repeat (first | (with_reducible first | exact HB.out | apply below_alloc | apply pw_below_drewN | apply below_drew1) | exact HB.out)))); have n2_ := Aside0.mk (below_step (by repeat (first | (with_reducible first | exact HB.out | apply below_alloc | apply pw_below_drewN | apply below_drew1) | exact HB.out)) hb); clear HO_32; clear HB; have HO_32 := n0_; have HO460 := n1_; have HB := n2_; clear n0_ n1_ n2_; (try clear hb); (try clear hb2); (try clear hk); (try clear hi); (try clear ho0); obtain ⟨Ao112, co112, eo112⟩ := Kd.R_slice HO460.out; subst eo112) | (go_at_call 34; (with_reducible refine (laws_qSame.calls kj100 _ _ t450 _ _ t458 t461 _ ?side1 ?side2 ?side3 ?side4 A110.out).mono ?_); (case side1 => repeat (first | exact (Kd.R_reads' HO_32.out).2.2 | (with_reducible refine Kd.C_alloc ?_ _) | (with_reducible refine Kd.C_drewN ?_ _) | (with_reducible refine Kd.C_drew ?_))); (case side2 => exact (Kd.R_reads' HO_32.out).2.1); (case side3 => repeat (first | exact (Kd.R_reads' HO460.out).2.2 | (with_reducible refine Kd.C_alloc ?_ _) | (with_reducible refine Kd.C_drewN ?_ _) | (with_reducible refine Kd.C_drew ?_))); (case side4 => exact (Kd.R_reads' HO460.out).2.1); rintro e w' ⟨rfl, ⟨nd, rfl⟩⟩; (try first | exact ⟨rfl, _, World.drewN_drewN _ _ _⟩ | exact ⟨rfl, _, Eq.trans (World.drewN_drewN _ _ _) (congrArg (World.drewN _) (Nat.add_assoc _ _ _))⟩))); try go_wp2_with (first | (go_at_call 66; (with_reducible refine (laws_qBack.calls kj100 _ _ t450 t458 _ ?side1 ?side2 A109.out).mono ?_); (case side1 => repeat (first | exact (Kd.R_reads' HO_32.out).2.2 | (with_reducible refine Kd.C_alloc ?_ _) | (with_reducible refine Kd.C_drewN ?_ _) | (with_reducible refine Kd.C_drew ?_))); (case side2 => exact (Kd.R_reads' HO_32.out).2.1); rintro e w111 ⟨v459, rfl, ho0, hb⟩; have n0_ := Aside0.mk (Kd.R_elder' (by (with_reducible repeat (first | apply Kd.R_alloc | apply Kd.R_drewN | apply Kd.R_drew)); exact HO_32.out) (Kd.R_base ho0) hb); have n1_ := Aside0.mk (Kd.R_lower (Kd.R_new' ho0 (Kd.R_lt (by (with_reducible repeat (first | apply Kd.R_alloc | apply Kd.R_drewN | apply Kd.R_drew)); exact HO_32.out))) (below_size (by repeat (first | (with_reducible first | exact HB.out | apply below_alloc | apply pw_below_drewN | apply below_drew1) | exact HB.out)))); have n2_ := Aside0.mk (below_step (by repeat (first | (with_reducible first | exact HB.out | apply below_alloc | apply pw_below_drewN | apply below_drew1) | exact HB.out)) hb); clear HO_32; clear HB; have HO_32 := n0_; have HO460 := n1_; have HB := n2_; clear n0_ n1_ n2_; (try clear hb); (try clear hb2); (try clear hk); (try clear hi); (try clear ho0); obtain ⟨Ao112, co112, eo112⟩ := Kd.R_slice HO460.out; subst eo112) | (go_at_call 34; (with_reducible refine (laws_qSame.calls kj100 _ _ t450 _ _ t458 t461 _ ?side1 ?side2 ?side3 ?side4 A110.out).mono ?_); (case side1 => repeat (first | exact (Kd.R_reads' HO_32.out).2.2 | (with_reducible refine Kd.C_alloc ?_ _) | (with_reducible refine Kd.C_drewN ?_ _) | (with_reducible refine Kd.C_drew ?_))); (case side2 => exact (Kd.R_reads' HO_32.out).2.1); (case side3 => repeat (first | exact (Kd.R_reads' HO460.out).2.2 | (with_reducible refine Kd.C_alloc ?_ _) | (with_reducible refine Kd.C_drewN ?_ _) | (with_reducible refine Kd.C_drew ?_))); (case side4 => exact (Kd.R_reads' HO460.out).2.1); rintro e w' ⟨rfl, ⟨nd, rfl⟩⟩; (try first | exact ⟨rfl, _, World.drewN_drewN _ _ _⟩ | exact ⟨rfl, _, Eq.trans (World.drewN_drewN _ _ _) (congrArg (World.drewN _) (Nat.add_assoc _ _ _))⟩))))
           go_ret
           exact ⟨by first | rfl | (simp [errW_none, errW_some] <;> rfl) | (simp [*, errW_none, errW_some] <;> rfl), by repeat (first | (with_reducible first | exact HB.out | apply below_alloc | apply pw_below_drewN | apply below_drew1) | exact HB.out)⟩
          ·replace c108 := Bool.eq_false_iff.mpr c108
           subst c108
           have H1 : (some true) = some r := by rw [if_neg (show ¬ (false = true) by decide)] at H; exact H
           clear H
           have H := H1
           clear H1
           obtain rfl := Option.some.inj H
           go_wp2
           repeat (go_quiet (fail); try go_wp2)
           go_ret
           exact ⟨by first | rfl | (simp [errW_none, errW_some] <;> rfl) | (simp [*, errW_none, errW_some] <;> rfl), by repeat (first | (with_reducible first | exact HB.out | apply below_alloc | apply pw_below_drewN | apply below_drew1) | exact HB.out)⟩

/-- THE ONE PURE STATEMENT of laws_FnAddedBackwards: yours. -/
def laws_FnAddedBackwards.Pure : Prop := ∀ (l0 : List Int) (l1 : List Int), l0.length ≤ maxLen → l0.length * 1 ≤ 140737488351232 → (∀ x ∈ l0, (Lit.int .u8 x).wf = true) → l1.length ≤ maxLen → l1.length * 1 ≤ 140737488351232 → (∀ x ∈ l1, (Lit.int .u8 x).wf = true) → ∃ k, laws_FnAddedBackwards.f k l0 l1 = some true
theorem laws_FnAddedBackwards.walk (P : laws_FnAddedBackwards.Pure) (a0 : Option Addr) (len0 cap0 : Nat) (z0 : List Int) (a1 : Option Addr) (len1 cap1 : Nat) (z1 : List Int) (w : World) (w0 : (a0 = none ∧ len0 = 0 ∧ cap0 = 0 ∧ z0 = []) ∨ ∃ x, a0 = some x ∧ len0 ≤ cap0 ∧ cap0 ≤ maxLen ∧ z0.length = cap0 ∧ (∀ i, i < z0.length → w.cell? (x.add i) = some (.int .u8 (z0.getD i 0))) ∧ ∀ n ∈ z0, (Lit.int .u8 n).wf = true) (y0 : len0 * 1 ≤ 140737488351232) (w1 : (a1 = none ∧ len1 = 0 ∧ cap1 = 0 ∧ z1 = []) ∨ ∃ x, a1 = some x ∧ len1 ≤ cap1 ∧ cap1 ≤ maxLen ∧ z1.length = cap1 ∧ (∀ i, i < z1.length → w.cell? (x.add i) = some (.int .u8 (z1.getD i 0))) ∧ ∀ n ∈ z1, (Lit.int .u8 n).wf = true) (y1 : len1 * 1 ≤ 140737488351232) :
  Calls Try.prog 6 #[.slice a0 len0 cap0, .slice a1 len1 cap1] w fun e w' => e = .returned (.bool true) ∧ Below w.heap.size w w' := by
 obtain ⟨l0, rfl, hr0, hm0, hw0, hc0⟩ := ReadsInt.ofRowC w0
 obtain ⟨l1, rfl, hr1, hm1, hw1, hc1⟩ := ReadsInt.ofRowC w1
 obtain ⟨k, h⟩ := P l0 l1 hm0 y0 hw0 hm1 y1 hw1
 refine (laws_FnAddedBackwards.calls k _ _ l0 _ _ l1 true w (Kd.C_of_reads (d := (0 : Int)) (h1 := fun _ => rfl) hr0) hc0 (Kd.C_of_reads (d := (0 : Int)) (h1 := fun _ => rfl) hr1) hc1 h rfl).mono ?_
 rintro e w' ⟨rfl, hd⟩
 exact ⟨rfl, hd⟩

end Go.Proofs.Ytiheocddlopfcaa.PFnAddedBackwards
