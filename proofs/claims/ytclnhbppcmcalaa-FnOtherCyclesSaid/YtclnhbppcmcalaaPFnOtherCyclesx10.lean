-- out of the kit's print, turned by wip/own_print.py
import Derived.Test.YtclnhbppcmcalaaPFnOtherCyclesx0
import Derived.Test.YtclnhbppcmcalaaPFnOtherCyclesx1
import Derived.Test.YtclnhbppcmcalaaPFnOtherCyclesx3
import Derived.Test.YtclnhbppcmcalaaPFnOtherCyclesx5
import Derived.Test.YtclnhbppcmcalaaPFnOtherCyclesx6
import Derived.Test.YtclnhbppcmcalaaPFnOtherCyclesx7
import Derived.Test.YtclnhbppcmcalaaPFnOtherCyclesx8
import Derived.Test.YtclnhbppcmcalaaPFnOtherCyclesx9
namespace Go.Proofs.Ytclnhbppcmcalaa.PFnOtherCycles
open Go.RowKit Go.Proofs.YtclnhbppcmcalaaW.PrintWords Go.Proofs.YtclnhbppcmcalaaW.PrintLast Go.Proofs.YtclnhbppcmcalaaW.PrintMore
attribute [local go_sem] max2_int min2_int max_two min_two max_three min_three max_four min_four   -- for this text's walks alone
set_option linter.unusedVariables false
set_option linter.unusedSimpArgs false

/-! ### laws_FnOtherCycles: function 4 -/
mutual
def laws_FnOtherCycles.j0 : Nat → List Int → Int → Int → List (List Int) → Bool → Bool → Option (Bool)
 | 0, _, _, _, _, _, _ => none
 | k + 1, x1, x5, x6, x7, x8, x64 => if x64 = true then (some false) else (if x8 = true then (laws_FnOtherCycles.l0 k x1 x5 x6 x7 x7 (x7.length : Int) 0) else (laws_FnOtherCycles.j5 k x1))
def laws_FnOtherCycles.j5 : Nat → List Int → Option (Bool)
 | 0, _ => none
 | k + 1, x1 => (spec_DrawStepWith.f k x1).bind fun bt408 => ((impl_StepWith.f k bt408.1 bt408.2).bind fun bt410 => ((spec_StepWith.f k bt408.1 bt408.2).bind fun bt412 => ((spec_DrawCycleOfWord.f k x1).bind fun t414 => ((impl_CycleOfWord.f k t414).bind fun bt415 => ((spec_CycleOfWord.f k t414).bind fun bt418 => (if (bt410.2 != bt412.2) = true then (laws_FnOtherCycles.j6 k t414 bt415.1 bt415.2.1 bt415.2.2 true) else (if bt410.1 = bt412.1 then (if (bt415.2.2 != bt418.2.2) = true then (laws_FnOtherCycles.j6 k t414 bt415.1 bt415.2.1 bt415.2.2 true) else (if bt415.1 = bt418.1 then (laws_FnOtherCycles.j6 k t414 bt415.1 bt415.2.1 bt415.2.2 (bt415.2.1 != bt418.2.1)) else (laws_FnOtherCycles.j6 k t414 bt415.1 bt415.2.1 bt415.2.2 true))) else (laws_FnOtherCycles.j6 k t414 bt415.1 bt415.2.1 bt415.2.2 true))))))))
def laws_FnOtherCycles.j6 : Nat → ByteArray → Int → Int → Bool → Bool → Option (Bool)
 | 0, _, _, _, _, _ => none
 | k + 1, x26, x27, x28, x29, x217 => if x217 = true then (some false) else (if x29 = true then (laws_FnOtherCycles.l3 k x26 x27 x28 x27 1 0) else (some true))
def laws_FnOtherCycles.l3 : Nat → ByteArray → Int → Int → Int → Int → Int → Option (Bool)
 | 0, _, _, _, _, _, _ => none
 | k + 1, x26, x27, x28, x33, x34, x35 => if x35 < (x26.size : Int) then (laws_FnOtherCycles.j8 k x26 x27 x28 x33 x34 x35 (decide ((x26.size : Int) ≤ 12))) else (laws_FnOtherCycles.j8 k x26 x27 x28 x33 x34 x35 false)
def laws_FnOtherCycles.j8 : Nat → ByteArray → Int → Int → Int → Int → Int → Bool → Option (Bool)
 | 0, _, _, _, _, _, _, _ => none
 | k + 1, x26, x27, x28, x33, x34, x35, x228 => if x228 = true then (if 0 ≤ x35 then (if x35 < (x26.size : Int) then (if (bt x26 x35) = 49 then (laws_FnOtherCycles.l3 k x26 x27 x28 (wrap64 ((wrap64 (3 * x33)) + (wrap64 (x28 * x34)))) (wrap64 (x34 * 2)) (wrap64 (x35 + 1))) else (laws_FnOtherCycles.l3 k x26 x27 x28 x33 (wrap64 (x34 * 2)) (wrap64 (x35 + 1)))) else (none)) else (none)) else (if x28 ≥ 1 then (if (x26.size : Int) > 12 then (some true) else (some (x33 == (wrap64 (x27 * x34))))) else (some false))
def laws_FnOtherCycles.l0 : Nat → List Int → Int → Int → List (List Int) → List (List Int) → Int → Int → Option (Bool)
 | 0, _, _, _, _, _, _, _ => none
 | k + 1, x1, x5, x6, x7, x66, x67, x68 => if x68 < x67 then (if 0 ≤ x68 then (if x68 < (x66.length : Int) then (laws_FnOtherCycles.l1 k x1 x5 x6 x7 x68 (rd_L2 x66 x68) x66 x67 x68 (rd_L2 x66 x68) ((rd_L2 x66 x68).length : Int) 0) else (none)) else (none)) else (if x5 = 1 then (if (x7.length : Int) = 1 then (if 0 < (x7.length : Int) then (if 0 < ((rd_L2 x7 0).length : Int) then (laws_FnOtherCycles.j3 k x1 x5 x6 x7 ((rd (rd_L2 x7 0) 0) != 1)) else (none)) else (none)) else (laws_FnOtherCycles.j3 k x1 x5 x6 x7 true)) else (laws_FnOtherCycles.j3 k x1 x5 x6 x7 false))
def laws_FnOtherCycles.l1 : Nat → List Int → Int → Int → List (List Int) → Int → List Int → List (List Int) → Int → Int → List Int → Int → Int → Option (Bool)
 | 0, _, _, _, _, _, _, _, _, _, _, _, _ => none
 | k + 1, x1, x5, x6, x7, x11, x12, x66, x67, x68, x73, x74, x75 => if x75 < x74 then (if 0 ≤ x75 then (if x75 < (x73.length : Int) then ((impl_StepWith.f k (rd x73 x75) x5).bind fun bt394 => (if bt394.2 = true then (if (x12.length : Int) = 0 then (none) else (if 0 ≤ (Int.tmod (wrap64 (x75 + 1)) (x12.length : Int)) then (if (Int.tmod (wrap64 (x75 + 1)) (x12.length : Int)) < (x12.length : Int) then (if bt394.1 = (rd x12 (Int.tmod (wrap64 (x75 + 1)) (x12.length : Int))) then (if 0 < (x12.length : Int) then (if (rd x73 x75) < (rd x12 0) then (some false) else (if x11 > 0 then (if 0 ≤ (wrap64 (x11 - 1)) then (if (wrap64 (x11 - 1)) < (x7.length : Int) then (if 0 < ((rd_L2 x7 (wrap64 (x11 - 1))).length : Int) then (if (rd (rd_L2 x7 (wrap64 (x11 - 1))) 0) ≥ (rd x12 0) then (some false) else (laws_FnOtherCycles.l1 k x1 x5 x6 x7 x11 x12 x66 x67 x68 x73 x74 (wrap64 (x75 + 1)))) else (none)) else (none)) else (none)) else (laws_FnOtherCycles.l1 k x1 x5 x6 x7 x11 x12 x66 x67 x68 x73 x74 (wrap64 (x75 + 1))))) else (none)) else (some false)) else (none)) else (none))) else (some false))) else (none)) else (none)) else (laws_FnOtherCycles.l0 k x1 x5 x6 x7 x66 x67 (wrap64 (x68 + 1)))
def laws_FnOtherCycles.j3 : Nat → List Int → Int → Int → List (List Int) → Bool → Option (Bool)
 | 0, _, _, _, _, _ => none
 | k + 1, x1, x5, x6, x7, x140 => if x140 = true then (some false) else (if x5 ≤ x6 then (laws_FnOtherCycles.l2 k x1 x5 false x7 (x7.length : Int) 0) else (laws_FnOtherCycles.j5 k x1))
def laws_FnOtherCycles.l2 : Nat → List Int → Int → Bool → List (List Int) → Int → Int → Option (Bool)
 | 0, _, _, _, _, _, _ => none
 | k + 1, x1, x5, x17, x144, x145, x146 => if x146 < x145 then (if 0 ≤ x146 then (if x146 < (x144.length : Int) then (if x17 = true then (laws_FnOtherCycles.l2 k x1 x5 true x144 x145 (wrap64 (x146 + 1))) else ((laws_rSame.f k (rd_L2 x144 x146) (([x5, wrap64 (4 * x5), wrap64 (2 * x5)] : List Int))).bind fun t407 => (laws_FnOtherCycles.l2 k x1 x5 t407 x144 x145 (wrap64 (x146 + 1))))) else (none)) else (none)) else (if x17 = true then (laws_FnOtherCycles.j5 k x1) else (some false))
end
def laws_FnOtherCycles.f (k : Nat) (l0 : List Int) (l1 : List Int) : Option (Bool) := (laws_big.f l0 l1).bind fun t380 => (if t380 = true then (some true) else ((spec_DrawCyclesWith.f l0).bind fun bt381 => ((impl_CyclesWith.f k bt381.1 bt381.2).bind fun bt383 => ((spec_CyclesWith.f k bt381.1 bt381.2).bind fun bt387 => (if (bt383.2 != bt387.2) = true then (laws_FnOtherCycles.j0 k l1 bt381.1 bt381.2 bt383.1 bt383.2 true) else ((laws_rRows.f k bt383.1 bt387.1).bind fun t391 => (laws_FnOtherCycles.j0 k l1 bt381.1 bt381.2 bt383.1 bt383.2 (!t391))))))))
theorem laws_FnOtherCycles.mono_l : ∀ k, (∀ y0 y1 y2 y3 y4 y5, LeO (laws_FnOtherCycles.j0 k y0 y1 y2 y3 y4 y5) (laws_FnOtherCycles.j0 (k + 1) y0 y1 y2 y3 y4 y5)) ∧ (∀ y0, LeO (laws_FnOtherCycles.j5 k y0) (laws_FnOtherCycles.j5 (k + 1) y0)) ∧ (∀ y0 y1 y2 y3 y4, LeO (laws_FnOtherCycles.j6 k y0 y1 y2 y3 y4) (laws_FnOtherCycles.j6 (k + 1) y0 y1 y2 y3 y4)) ∧ (∀ y0 y1 y2 y3 y4 y5, LeO (laws_FnOtherCycles.l3 k y0 y1 y2 y3 y4 y5) (laws_FnOtherCycles.l3 (k + 1) y0 y1 y2 y3 y4 y5)) ∧ (∀ y0 y1 y2 y3 y4 y5 y6, LeO (laws_FnOtherCycles.j8 k y0 y1 y2 y3 y4 y5 y6) (laws_FnOtherCycles.j8 (k + 1) y0 y1 y2 y3 y4 y5 y6)) ∧ (∀ y0 y1 y2 y3 y4 y5 y6, LeO (laws_FnOtherCycles.l0 k y0 y1 y2 y3 y4 y5 y6) (laws_FnOtherCycles.l0 (k + 1) y0 y1 y2 y3 y4 y5 y6)) ∧ (∀ y0 y1 y2 y3 y4 y5 y6 y7 y8 y9 y10 y11, LeO (laws_FnOtherCycles.l1 k y0 y1 y2 y3 y4 y5 y6 y7 y8 y9 y10 y11) (laws_FnOtherCycles.l1 (k + 1) y0 y1 y2 y3 y4 y5 y6 y7 y8 y9 y10 y11)) ∧ (∀ y0 y1 y2 y3 y4, LeO (laws_FnOtherCycles.j3 k y0 y1 y2 y3 y4) (laws_FnOtherCycles.j3 (k + 1) y0 y1 y2 y3 y4)) ∧ (∀ y0 y1 y2 y3 y4 y5, LeO (laws_FnOtherCycles.l2 k y0 y1 y2 y3 y4 y5) (laws_FnOtherCycles.l2 (k + 1) y0 y1 y2 y3 y4 y5))
 | 0 => ⟨fun _ _ _ _ _ _ r h => by simp [laws_FnOtherCycles.j0] at h, fun _ r h => by simp [laws_FnOtherCycles.j5] at h, fun _ _ _ _ _ r h => by simp [laws_FnOtherCycles.j6] at h, fun _ _ _ _ _ _ r h => by simp [laws_FnOtherCycles.l3] at h, fun _ _ _ _ _ _ _ r h => by simp [laws_FnOtherCycles.j8] at h, fun _ _ _ _ _ _ _ r h => by simp [laws_FnOtherCycles.l0] at h, fun _ _ _ _ _ _ _ _ _ _ _ _ r h => by simp [laws_FnOtherCycles.l1] at h, fun _ _ _ _ _ r h => by simp [laws_FnOtherCycles.j3] at h, fun _ _ _ _ _ _ r h => by simp [laws_FnOtherCycles.l2] at h⟩
 | k + 1 => by
  obtain ⟨ih0, ih1, ih2, ih3, ih4, ih5, ih6, ih7, ih8⟩ := laws_FnOtherCycles.mono_l k
  refine ⟨?_, ?_, ?_, ?_, ?_, ?_, ?_, ?_, ?_⟩
  ·intro y0 y1 y2 y3 y4 y5
   unfold laws_FnOtherCycles.j0
   repeat' first
   | (with_reducible exact ih0 _ _ _ _ _ _)
   | (with_reducible exact ih1 _)
   | (with_reducible exact ih2 _ _ _ _ _)
   | (with_reducible exact ih3 _ _ _ _ _ _)
   | (with_reducible exact ih4 _ _ _ _ _ _ _)
   | (with_reducible exact ih5 _ _ _ _ _ _ _)
   | (with_reducible exact ih6 _ _ _ _ _ _ _ _ _ _ _ _)
   | (with_reducible exact ih7 _ _ _ _ _)
   | (with_reducible exact ih8 _ _ _ _ _ _)
   | (with_reducible exact impl_CycleOfWord.mono _ _)
   | (with_reducible exact impl_CyclesWith.mono _ _ _)
   | (with_reducible exact impl_StepWith.mono _ _ _)
   | (with_reducible exact laws_rRows.mono _ _ _)
   | (with_reducible exact laws_rSame.mono _ _ _)
   | (with_reducible exact spec_CycleOfWord.mono _ _)
   | (with_reducible exact spec_CyclesWith.mono _ _ _)
   | (with_reducible exact spec_DrawCycleOfWord.mono _ _)
   | (with_reducible exact spec_DrawStepWith.mono _ _)
   | (with_reducible exact spec_StepWith.mono _ _ _)
   | (with_reducible exact LeO.refl _)
   | (with_reducible exact LeO.none _)
   | (with_reducible refine LeO.ite ?_ ?_)
   | (with_reducible refine LeO.bind ?_ (fun _ => ?_))
   | exact ih0 _ _ _ _ _ _
   | exact ih1 _
   | exact ih2 _ _ _ _ _
   | exact ih3 _ _ _ _ _ _
   | exact ih4 _ _ _ _ _ _ _
   | exact ih5 _ _ _ _ _ _ _
   | exact ih6 _ _ _ _ _ _ _ _ _ _ _ _
   | exact ih7 _ _ _ _ _
   | exact ih8 _ _ _ _ _ _
   | exact impl_CycleOfWord.mono _ _
   | exact impl_CyclesWith.mono _ _ _
   | exact impl_StepWith.mono _ _ _
   | exact laws_rRows.mono _ _ _
   | exact laws_rSame.mono _ _ _
   | exact spec_CycleOfWord.mono _ _
   | exact spec_CyclesWith.mono _ _ _
   | exact spec_DrawCycleOfWord.mono _ _
   | exact spec_DrawStepWith.mono _ _
   | exact spec_StepWith.mono _ _ _
   | exact LeO.none _
   | refine LeO.ite ?_ ?_
   | refine LeO.bind ?_ (fun _ => ?_)
  ·intro y0
   unfold laws_FnOtherCycles.j5
   repeat' first
   | (with_reducible exact ih0 _ _ _ _ _ _)
   | (with_reducible exact ih1 _)
   | (with_reducible exact ih2 _ _ _ _ _)
   | (with_reducible exact ih3 _ _ _ _ _ _)
   | (with_reducible exact ih4 _ _ _ _ _ _ _)
   | (with_reducible exact ih5 _ _ _ _ _ _ _)
   | (with_reducible exact ih6 _ _ _ _ _ _ _ _ _ _ _ _)
   | (with_reducible exact ih7 _ _ _ _ _)
   | (with_reducible exact ih8 _ _ _ _ _ _)
   | (with_reducible exact impl_CycleOfWord.mono _ _)
   | (with_reducible exact impl_CyclesWith.mono _ _ _)
   | (with_reducible exact impl_StepWith.mono _ _ _)
   | (with_reducible exact laws_rRows.mono _ _ _)
   | (with_reducible exact laws_rSame.mono _ _ _)
   | (with_reducible exact spec_CycleOfWord.mono _ _)
   | (with_reducible exact spec_CyclesWith.mono _ _ _)
   | (with_reducible exact spec_DrawCycleOfWord.mono _ _)
   | (with_reducible exact spec_DrawStepWith.mono _ _)
   | (with_reducible exact spec_StepWith.mono _ _ _)
   | (with_reducible exact LeO.refl _)
   | (with_reducible exact LeO.none _)
   | (with_reducible refine LeO.ite ?_ ?_)
   | (with_reducible refine LeO.bind ?_ (fun _ => ?_))
   | exact ih0 _ _ _ _ _ _
   | exact ih1 _
   | exact ih2 _ _ _ _ _
   | exact ih3 _ _ _ _ _ _
   | exact ih4 _ _ _ _ _ _ _
   | exact ih5 _ _ _ _ _ _ _
   | exact ih6 _ _ _ _ _ _ _ _ _ _ _ _
   | exact ih7 _ _ _ _ _
   | exact ih8 _ _ _ _ _ _
   | exact impl_CycleOfWord.mono _ _
   | exact impl_CyclesWith.mono _ _ _
   | exact impl_StepWith.mono _ _ _
   | exact laws_rRows.mono _ _ _
   | exact laws_rSame.mono _ _ _
   | exact spec_CycleOfWord.mono _ _
   | exact spec_CyclesWith.mono _ _ _
   | exact spec_DrawCycleOfWord.mono _ _
   | exact spec_DrawStepWith.mono _ _
   | exact spec_StepWith.mono _ _ _
   | exact LeO.none _
   | refine LeO.ite ?_ ?_
   | refine LeO.bind ?_ (fun _ => ?_)
  ·intro y0 y1 y2 y3 y4
   unfold laws_FnOtherCycles.j6
   repeat' first
   | (with_reducible exact ih0 _ _ _ _ _ _)
   | (with_reducible exact ih1 _)
   | (with_reducible exact ih2 _ _ _ _ _)
   | (with_reducible exact ih3 _ _ _ _ _ _)
   | (with_reducible exact ih4 _ _ _ _ _ _ _)
   | (with_reducible exact ih5 _ _ _ _ _ _ _)
   | (with_reducible exact ih6 _ _ _ _ _ _ _ _ _ _ _ _)
   | (with_reducible exact ih7 _ _ _ _ _)
   | (with_reducible exact ih8 _ _ _ _ _ _)
   | (with_reducible exact impl_CycleOfWord.mono _ _)
   | (with_reducible exact impl_CyclesWith.mono _ _ _)
   | (with_reducible exact impl_StepWith.mono _ _ _)
   | (with_reducible exact laws_rRows.mono _ _ _)
   | (with_reducible exact laws_rSame.mono _ _ _)
   | (with_reducible exact spec_CycleOfWord.mono _ _)
   | (with_reducible exact spec_CyclesWith.mono _ _ _)
   | (with_reducible exact spec_DrawCycleOfWord.mono _ _)
   | (with_reducible exact spec_DrawStepWith.mono _ _)
   | (with_reducible exact spec_StepWith.mono _ _ _)
   | (with_reducible exact LeO.refl _)
   | (with_reducible exact LeO.none _)
   | (with_reducible refine LeO.ite ?_ ?_)
   | (with_reducible refine LeO.bind ?_ (fun _ => ?_))
   | exact ih0 _ _ _ _ _ _
   | exact ih1 _
   | exact ih2 _ _ _ _ _
   | exact ih3 _ _ _ _ _ _
   | exact ih4 _ _ _ _ _ _ _
   | exact ih5 _ _ _ _ _ _ _
   | exact ih6 _ _ _ _ _ _ _ _ _ _ _ _
   | exact ih7 _ _ _ _ _
   | exact ih8 _ _ _ _ _ _
   | exact impl_CycleOfWord.mono _ _
   | exact impl_CyclesWith.mono _ _ _
   | exact impl_StepWith.mono _ _ _
   | exact laws_rRows.mono _ _ _
   | exact laws_rSame.mono _ _ _
   | exact spec_CycleOfWord.mono _ _
   | exact spec_CyclesWith.mono _ _ _
   | exact spec_DrawCycleOfWord.mono _ _
   | exact spec_DrawStepWith.mono _ _
   | exact spec_StepWith.mono _ _ _
   | exact LeO.none _
   | refine LeO.ite ?_ ?_
   | refine LeO.bind ?_ (fun _ => ?_)
  ·intro y0 y1 y2 y3 y4 y5
   unfold laws_FnOtherCycles.l3
   repeat' first
   | (with_reducible exact ih0 _ _ _ _ _ _)
   | (with_reducible exact ih1 _)
   | (with_reducible exact ih2 _ _ _ _ _)
   | (with_reducible exact ih3 _ _ _ _ _ _)
   | (with_reducible exact ih4 _ _ _ _ _ _ _)
   | (with_reducible exact ih5 _ _ _ _ _ _ _)
   | (with_reducible exact ih6 _ _ _ _ _ _ _ _ _ _ _ _)
   | (with_reducible exact ih7 _ _ _ _ _)
   | (with_reducible exact ih8 _ _ _ _ _ _)
   | (with_reducible exact impl_CycleOfWord.mono _ _)
   | (with_reducible exact impl_CyclesWith.mono _ _ _)
   | (with_reducible exact impl_StepWith.mono _ _ _)
   | (with_reducible exact laws_rRows.mono _ _ _)
   | (with_reducible exact laws_rSame.mono _ _ _)
   | (with_reducible exact spec_CycleOfWord.mono _ _)
   | (with_reducible exact spec_CyclesWith.mono _ _ _)
   | (with_reducible exact spec_DrawCycleOfWord.mono _ _)
   | (with_reducible exact spec_DrawStepWith.mono _ _)
   | (with_reducible exact spec_StepWith.mono _ _ _)
   | (with_reducible exact LeO.refl _)
   | (with_reducible exact LeO.none _)
   | (with_reducible refine LeO.ite ?_ ?_)
   | (with_reducible refine LeO.bind ?_ (fun _ => ?_))
   | exact ih0 _ _ _ _ _ _
   | exact ih1 _
   | exact ih2 _ _ _ _ _
   | exact ih3 _ _ _ _ _ _
   | exact ih4 _ _ _ _ _ _ _
   | exact ih5 _ _ _ _ _ _ _
   | exact ih6 _ _ _ _ _ _ _ _ _ _ _ _
   | exact ih7 _ _ _ _ _
   | exact ih8 _ _ _ _ _ _
   | exact impl_CycleOfWord.mono _ _
   | exact impl_CyclesWith.mono _ _ _
   | exact impl_StepWith.mono _ _ _
   | exact laws_rRows.mono _ _ _
   | exact laws_rSame.mono _ _ _
   | exact spec_CycleOfWord.mono _ _
   | exact spec_CyclesWith.mono _ _ _
   | exact spec_DrawCycleOfWord.mono _ _
   | exact spec_DrawStepWith.mono _ _
   | exact spec_StepWith.mono _ _ _
   | exact LeO.none _
   | refine LeO.ite ?_ ?_
   | refine LeO.bind ?_ (fun _ => ?_)
  ·intro y0 y1 y2 y3 y4 y5 y6
   unfold laws_FnOtherCycles.j8
   repeat' first
   | (with_reducible exact ih0 _ _ _ _ _ _)
   | (with_reducible exact ih1 _)
   | (with_reducible exact ih2 _ _ _ _ _)
   | (with_reducible exact ih3 _ _ _ _ _ _)
   | (with_reducible exact ih4 _ _ _ _ _ _ _)
   | (with_reducible exact ih5 _ _ _ _ _ _ _)
   | (with_reducible exact ih6 _ _ _ _ _ _ _ _ _ _ _ _)
   | (with_reducible exact ih7 _ _ _ _ _)
   | (with_reducible exact ih8 _ _ _ _ _ _)
   | (with_reducible exact impl_CycleOfWord.mono _ _)
   | (with_reducible exact impl_CyclesWith.mono _ _ _)
   | (with_reducible exact impl_StepWith.mono _ _ _)
   | (with_reducible exact laws_rRows.mono _ _ _)
   | (with_reducible exact laws_rSame.mono _ _ _)
   | (with_reducible exact spec_CycleOfWord.mono _ _)
   | (with_reducible exact spec_CyclesWith.mono _ _ _)
   | (with_reducible exact spec_DrawCycleOfWord.mono _ _)
   | (with_reducible exact spec_DrawStepWith.mono _ _)
   | (with_reducible exact spec_StepWith.mono _ _ _)
   | (with_reducible exact LeO.refl _)
   | (with_reducible exact LeO.none _)
   | (with_reducible refine LeO.ite ?_ ?_)
   | (with_reducible refine LeO.bind ?_ (fun _ => ?_))
   | exact ih0 _ _ _ _ _ _
   | exact ih1 _
   | exact ih2 _ _ _ _ _
   | exact ih3 _ _ _ _ _ _
   | exact ih4 _ _ _ _ _ _ _
   | exact ih5 _ _ _ _ _ _ _
   | exact ih6 _ _ _ _ _ _ _ _ _ _ _ _
   | exact ih7 _ _ _ _ _
   | exact ih8 _ _ _ _ _ _
   | exact impl_CycleOfWord.mono _ _
   | exact impl_CyclesWith.mono _ _ _
   | exact impl_StepWith.mono _ _ _
   | exact laws_rRows.mono _ _ _
   | exact laws_rSame.mono _ _ _
   | exact spec_CycleOfWord.mono _ _
   | exact spec_CyclesWith.mono _ _ _
   | exact spec_DrawCycleOfWord.mono _ _
   | exact spec_DrawStepWith.mono _ _
   | exact spec_StepWith.mono _ _ _
   | exact LeO.none _
   | refine LeO.ite ?_ ?_
   | refine LeO.bind ?_ (fun _ => ?_)
  ·intro y0 y1 y2 y3 y4 y5 y6
   unfold laws_FnOtherCycles.l0
   repeat' first
   | (with_reducible exact ih0 _ _ _ _ _ _)
   | (with_reducible exact ih1 _)
   | (with_reducible exact ih2 _ _ _ _ _)
   | (with_reducible exact ih3 _ _ _ _ _ _)
   | (with_reducible exact ih4 _ _ _ _ _ _ _)
   | (with_reducible exact ih5 _ _ _ _ _ _ _)
   | (with_reducible exact ih6 _ _ _ _ _ _ _ _ _ _ _ _)
   | (with_reducible exact ih7 _ _ _ _ _)
   | (with_reducible exact ih8 _ _ _ _ _ _)
   | (with_reducible exact impl_CycleOfWord.mono _ _)
   | (with_reducible exact impl_CyclesWith.mono _ _ _)
   | (with_reducible exact impl_StepWith.mono _ _ _)
   | (with_reducible exact laws_rRows.mono _ _ _)
   | (with_reducible exact laws_rSame.mono _ _ _)
   | (with_reducible exact spec_CycleOfWord.mono _ _)
   | (with_reducible exact spec_CyclesWith.mono _ _ _)
   | (with_reducible exact spec_DrawCycleOfWord.mono _ _)
   | (with_reducible exact spec_DrawStepWith.mono _ _)
   | (with_reducible exact spec_StepWith.mono _ _ _)
   | (with_reducible exact LeO.refl _)
   | (with_reducible exact LeO.none _)
   | (with_reducible refine LeO.ite ?_ ?_)
   | (with_reducible refine LeO.bind ?_ (fun _ => ?_))
   | exact ih0 _ _ _ _ _ _
   | exact ih1 _
   | exact ih2 _ _ _ _ _
   | exact ih3 _ _ _ _ _ _
   | exact ih4 _ _ _ _ _ _ _
   | exact ih5 _ _ _ _ _ _ _
   | exact ih6 _ _ _ _ _ _ _ _ _ _ _ _
   | exact ih7 _ _ _ _ _
   | exact ih8 _ _ _ _ _ _
   | exact impl_CycleOfWord.mono _ _
   | exact impl_CyclesWith.mono _ _ _
   | exact impl_StepWith.mono _ _ _
   | exact laws_rRows.mono _ _ _
   | exact laws_rSame.mono _ _ _
   | exact spec_CycleOfWord.mono _ _
   | exact spec_CyclesWith.mono _ _ _
   | exact spec_DrawCycleOfWord.mono _ _
   | exact spec_DrawStepWith.mono _ _
   | exact spec_StepWith.mono _ _ _
   | exact LeO.none _
   | refine LeO.ite ?_ ?_
   | refine LeO.bind ?_ (fun _ => ?_)
  ·intro y0 y1 y2 y3 y4 y5 y6 y7 y8 y9 y10 y11
   unfold laws_FnOtherCycles.l1
   repeat' first
   | (with_reducible exact ih0 _ _ _ _ _ _)
   | (with_reducible exact ih1 _)
   | (with_reducible exact ih2 _ _ _ _ _)
   | (with_reducible exact ih3 _ _ _ _ _ _)
   | (with_reducible exact ih4 _ _ _ _ _ _ _)
   | (with_reducible exact ih5 _ _ _ _ _ _ _)
   | (with_reducible exact ih6 _ _ _ _ _ _ _ _ _ _ _ _)
   | (with_reducible exact ih7 _ _ _ _ _)
   | (with_reducible exact ih8 _ _ _ _ _ _)
   | (with_reducible exact impl_CycleOfWord.mono _ _)
   | (with_reducible exact impl_CyclesWith.mono _ _ _)
   | (with_reducible exact impl_StepWith.mono _ _ _)
   | (with_reducible exact laws_rRows.mono _ _ _)
   | (with_reducible exact laws_rSame.mono _ _ _)
   | (with_reducible exact spec_CycleOfWord.mono _ _)
   | (with_reducible exact spec_CyclesWith.mono _ _ _)
   | (with_reducible exact spec_DrawCycleOfWord.mono _ _)
   | (with_reducible exact spec_DrawStepWith.mono _ _)
   | (with_reducible exact spec_StepWith.mono _ _ _)
   | (with_reducible exact LeO.refl _)
   | (with_reducible exact LeO.none _)
   | (with_reducible refine LeO.ite ?_ ?_)
   | (with_reducible refine LeO.bind ?_ (fun _ => ?_))
   | exact ih0 _ _ _ _ _ _
   | exact ih1 _
   | exact ih2 _ _ _ _ _
   | exact ih3 _ _ _ _ _ _
   | exact ih4 _ _ _ _ _ _ _
   | exact ih5 _ _ _ _ _ _ _
   | exact ih6 _ _ _ _ _ _ _ _ _ _ _ _
   | exact ih7 _ _ _ _ _
   | exact ih8 _ _ _ _ _ _
   | exact impl_CycleOfWord.mono _ _
   | exact impl_CyclesWith.mono _ _ _
   | exact impl_StepWith.mono _ _ _
   | exact laws_rRows.mono _ _ _
   | exact laws_rSame.mono _ _ _
   | exact spec_CycleOfWord.mono _ _
   | exact spec_CyclesWith.mono _ _ _
   | exact spec_DrawCycleOfWord.mono _ _
   | exact spec_DrawStepWith.mono _ _
   | exact spec_StepWith.mono _ _ _
   | exact LeO.none _
   | refine LeO.ite ?_ ?_
   | refine LeO.bind ?_ (fun _ => ?_)
  ·intro y0 y1 y2 y3 y4
   unfold laws_FnOtherCycles.j3
   repeat' first
   | (with_reducible exact ih0 _ _ _ _ _ _)
   | (with_reducible exact ih1 _)
   | (with_reducible exact ih2 _ _ _ _ _)
   | (with_reducible exact ih3 _ _ _ _ _ _)
   | (with_reducible exact ih4 _ _ _ _ _ _ _)
   | (with_reducible exact ih5 _ _ _ _ _ _ _)
   | (with_reducible exact ih6 _ _ _ _ _ _ _ _ _ _ _ _)
   | (with_reducible exact ih7 _ _ _ _ _)
   | (with_reducible exact ih8 _ _ _ _ _ _)
   | (with_reducible exact impl_CycleOfWord.mono _ _)
   | (with_reducible exact impl_CyclesWith.mono _ _ _)
   | (with_reducible exact impl_StepWith.mono _ _ _)
   | (with_reducible exact laws_rRows.mono _ _ _)
   | (with_reducible exact laws_rSame.mono _ _ _)
   | (with_reducible exact spec_CycleOfWord.mono _ _)
   | (with_reducible exact spec_CyclesWith.mono _ _ _)
   | (with_reducible exact spec_DrawCycleOfWord.mono _ _)
   | (with_reducible exact spec_DrawStepWith.mono _ _)
   | (with_reducible exact spec_StepWith.mono _ _ _)
   | (with_reducible exact LeO.refl _)
   | (with_reducible exact LeO.none _)
   | (with_reducible refine LeO.ite ?_ ?_)
   | (with_reducible refine LeO.bind ?_ (fun _ => ?_))
   | exact ih0 _ _ _ _ _ _
   | exact ih1 _
   | exact ih2 _ _ _ _ _
   | exact ih3 _ _ _ _ _ _
   | exact ih4 _ _ _ _ _ _ _
   | exact ih5 _ _ _ _ _ _ _
   | exact ih6 _ _ _ _ _ _ _ _ _ _ _ _
   | exact ih7 _ _ _ _ _
   | exact ih8 _ _ _ _ _ _
   | exact impl_CycleOfWord.mono _ _
   | exact impl_CyclesWith.mono _ _ _
   | exact impl_StepWith.mono _ _ _
   | exact laws_rRows.mono _ _ _
   | exact laws_rSame.mono _ _ _
   | exact spec_CycleOfWord.mono _ _
   | exact spec_CyclesWith.mono _ _ _
   | exact spec_DrawCycleOfWord.mono _ _
   | exact spec_DrawStepWith.mono _ _
   | exact spec_StepWith.mono _ _ _
   | exact LeO.none _
   | refine LeO.ite ?_ ?_
   | refine LeO.bind ?_ (fun _ => ?_)
  ·intro y0 y1 y2 y3 y4 y5
   unfold laws_FnOtherCycles.l2
   repeat' first
   | (with_reducible exact ih0 _ _ _ _ _ _)
   | (with_reducible exact ih1 _)
   | (with_reducible exact ih2 _ _ _ _ _)
   | (with_reducible exact ih3 _ _ _ _ _ _)
   | (with_reducible exact ih4 _ _ _ _ _ _ _)
   | (with_reducible exact ih5 _ _ _ _ _ _ _)
   | (with_reducible exact ih6 _ _ _ _ _ _ _ _ _ _ _ _)
   | (with_reducible exact ih7 _ _ _ _ _)
   | (with_reducible exact ih8 _ _ _ _ _ _)
   | (with_reducible exact impl_CycleOfWord.mono _ _)
   | (with_reducible exact impl_CyclesWith.mono _ _ _)
   | (with_reducible exact impl_StepWith.mono _ _ _)
   | (with_reducible exact laws_rRows.mono _ _ _)
   | (with_reducible exact laws_rSame.mono _ _ _)
   | (with_reducible exact spec_CycleOfWord.mono _ _)
   | (with_reducible exact spec_CyclesWith.mono _ _ _)
   | (with_reducible exact spec_DrawCycleOfWord.mono _ _)
   | (with_reducible exact spec_DrawStepWith.mono _ _)
   | (with_reducible exact spec_StepWith.mono _ _ _)
   | (with_reducible exact LeO.refl _)
   | (with_reducible exact LeO.none _)
   | (with_reducible refine LeO.ite ?_ ?_)
   | (with_reducible refine LeO.bind ?_ (fun _ => ?_))
   | exact ih0 _ _ _ _ _ _
   | exact ih1 _
   | exact ih2 _ _ _ _ _
   | exact ih3 _ _ _ _ _ _
   | exact ih4 _ _ _ _ _ _ _
   | exact ih5 _ _ _ _ _ _ _
   | exact ih6 _ _ _ _ _ _ _ _ _ _ _ _
   | exact ih7 _ _ _ _ _
   | exact ih8 _ _ _ _ _ _
   | exact impl_CycleOfWord.mono _ _
   | exact impl_CyclesWith.mono _ _ _
   | exact impl_StepWith.mono _ _ _
   | exact laws_rRows.mono _ _ _
   | exact laws_rSame.mono _ _ _
   | exact spec_CycleOfWord.mono _ _
   | exact spec_CyclesWith.mono _ _ _
   | exact spec_DrawCycleOfWord.mono _ _
   | exact spec_DrawStepWith.mono _ _
   | exact spec_StepWith.mono _ _ _
   | exact LeO.none _
   | refine LeO.ite ?_ ?_
   | refine LeO.bind ?_ (fun _ => ?_)
theorem laws_FnOtherCycles.mono : ∀ a0 a1 k, LeO (laws_FnOtherCycles.f k a0 a1) (laws_FnOtherCycles.f (k + 1) a0 a1) := by
 intro a0 a1 k
 obtain ⟨ih0, ih1, ih2, ih3, ih4, ih5, ih6, ih7, ih8⟩ := laws_FnOtherCycles.mono_l k
 unfold laws_FnOtherCycles.f
 repeat' first
   | (with_reducible exact ih0 _ _ _ _ _ _)
   | (with_reducible exact ih1 _)
   | (with_reducible exact ih2 _ _ _ _ _)
   | (with_reducible exact ih3 _ _ _ _ _ _)
   | (with_reducible exact ih4 _ _ _ _ _ _ _)
   | (with_reducible exact ih5 _ _ _ _ _ _ _)
   | (with_reducible exact ih6 _ _ _ _ _ _ _ _ _ _ _ _)
   | (with_reducible exact ih7 _ _ _ _ _)
   | (with_reducible exact ih8 _ _ _ _ _ _)
   | (with_reducible exact impl_CycleOfWord.mono _ _)
   | (with_reducible exact impl_CyclesWith.mono _ _ _)
   | (with_reducible exact impl_StepWith.mono _ _ _)
   | (with_reducible exact laws_rRows.mono _ _ _)
   | (with_reducible exact laws_rSame.mono _ _ _)
   | (with_reducible exact spec_CycleOfWord.mono _ _)
   | (with_reducible exact spec_CyclesWith.mono _ _ _)
   | (with_reducible exact spec_DrawCycleOfWord.mono _ _)
   | (with_reducible exact spec_DrawStepWith.mono _ _)
   | (with_reducible exact spec_StepWith.mono _ _ _)
   | (with_reducible exact LeO.refl _)
   | (with_reducible exact LeO.none _)
   | (with_reducible refine LeO.ite ?_ ?_)
   | (with_reducible refine LeO.bind ?_ (fun _ => ?_))
   | exact ih0 _ _ _ _ _ _
   | exact ih1 _
   | exact ih2 _ _ _ _ _
   | exact ih3 _ _ _ _ _ _
   | exact ih4 _ _ _ _ _ _ _
   | exact ih5 _ _ _ _ _ _ _
   | exact ih6 _ _ _ _ _ _ _ _ _ _ _ _
   | exact ih7 _ _ _ _ _
   | exact ih8 _ _ _ _ _ _
   | exact impl_CycleOfWord.mono _ _
   | exact impl_CyclesWith.mono _ _ _
   | exact impl_StepWith.mono _ _ _
   | exact laws_rRows.mono _ _ _
   | exact laws_rSame.mono _ _ _
   | exact spec_CycleOfWord.mono _ _
   | exact spec_CyclesWith.mono _ _ _
   | exact spec_DrawCycleOfWord.mono _ _
   | exact spec_DrawStepWith.mono _ _
   | exact spec_StepWith.mono _ _ _
   | exact LeO.none _
   | refine LeO.ite ?_ ?_
   | refine LeO.bind ?_ (fun _ => ?_)
theorem laws_FnOtherCycles.j0_no {r : Bool} (hr : r = true) (k : Nat) (x1 : List Int) (x5 : Int) (x6 : Int) (x7 : List (List Int)) (x8 : Bool) (h : laws_FnOtherCycles.j0 k x1 x5 x6 x7 x8 true = some r) : False := by
 subst hr
 cases k with
 | zero => simp [laws_FnOtherCycles.j0] at h
 | succ k => simp [laws_FnOtherCycles.j0] at h
theorem laws_FnOtherCycles.j6_no {r : Bool} (hr : r = true) (k : Nat) (x26 : ByteArray) (x27 : Int) (x28 : Int) (x29 : Bool) (h : laws_FnOtherCycles.j6 k x26 x27 x28 x29 true = some r) : False := by
 subst hr
 cases k with
 | zero => simp [laws_FnOtherCycles.j6] at h
 | succ k => simp [laws_FnOtherCycles.j6] at h
theorem laws_FnOtherCycles.j3_no {r : Bool} (hr : r = true) (k : Nat) (x1 : List Int) (x5 : Int) (x6 : Int) (x7 : List (List Int)) (h : laws_FnOtherCycles.j3 k x1 x5 x6 x7 true = some r) : False := by
 subst hr
 cases k with
 | zero => simp [laws_FnOtherCycles.j3] at h
 | succ k => simp [laws_FnOtherCycles.j3] at h
set_option maxHeartbeats 8000000 in
set_option maxRecDepth 100000 in
theorem laws_FnOtherCycles.calls (k : Nat) (A0 : Option Addr) (c0 : Nat) (l0 : List Int) (A1 : Option Addr) (c1 : Nat) (l1 : List Int) (r : Bool) (w : World) (hr0 : Kd.C (Kd.int .u8) w A0 l0.length l0) (hc0 : l0.length ≤ c0) (hr1 : Kd.C (Kd.int .u8) w A1 l1.length l1) (hc1 : l1.length ≤ c1) (h : laws_FnOtherCycles.f k l0 l1 = some r) (hr_ : r = true) :
  Calls Try.prog 4 #[.slice A0 l0.length c0, .slice A1 l1.length c1] w fun e w' => e = .returned (.bool r) ∧ Below w.heap.size w w' := by
 have HR0 := Aside0.mk hr0
 have HC0 := Aside0.mk hc0
 clear hr0 hc0
 have HR1 := Aside0.mk hr1
 have HC1 := Aside0.mk hc1
 clear hr1 hc1
 have HB := Aside0.mk (Below.refl w.heap.size w)
 have H : ((laws_big.f l0 l1).bind fun t380 => (if t380 = true then (some true) else ((spec_DrawCyclesWith.f l0).bind fun bt381 => ((impl_CyclesWith.f k bt381.1 bt381.2).bind fun bt383 => ((spec_CyclesWith.f k bt381.1 bt381.2).bind fun bt387 => (if (bt383.2 != bt387.2) = true then (laws_FnOtherCycles.j0 k l1 bt381.1 bt381.2 bt383.1 bt383.2 true) else ((laws_rRows.f k bt383.1 bt387.1).bind fun t391 => (laws_FnOtherCycles.j0 k l1 bt381.1 bt381.2 bt383.1 bt383.2 (!t391))))))))) = some r := h
 clear h
 have HR_ := Aside0.mk hr_
 clear hr_
 replace H := Option.bind_eq_some_iff.mp H
 obtain ⟨t380, A30, H⟩ := H
 replace H : (if t380 = true then (some true) else ((spec_DrawCyclesWith.f l0).bind fun bt381 => ((impl_CyclesWith.f k bt381.1 bt381.2).bind fun bt383 => ((spec_CyclesWith.f k bt381.1 bt381.2).bind fun bt387 => (if (bt383.2 != bt387.2) = true then (laws_FnOtherCycles.j0 k l1 bt381.1 bt381.2 bt383.1 bt383.2 true) else ((laws_rRows.f k bt383.1 bt387.1).bind fun t391 => (laws_FnOtherCycles.j0 k l1 bt381.1 bt381.2 bt383.1 bt383.2 (!t391)))))))) = some r := H
 have A3 := Aside0.mk A30
 clear A30
 by_cases c4 : t380 = true
 ·subst c4
  have H1 : (some true) = some r := by rw [if_pos rfl] at H; exact H
  clear H
  have H := H1
  clear H1
  as_aux_lemma =>
   obtain rfl := Option.some.inj H
   go_enter Try.func4, Try.ntmps4
   go_wp2_with (first | (go_at_call 5; (with_reducible refine (laws_big.calls _ _ l0 _ _ l1 true _ ?side1 ?side2 ?side3 ?side4 A3.out).mono ?_); (case side1 => repeat (first | exact HR0.out | (with_reducible refine Kd.C_alloc ?_ _) | (with_reducible refine Kd.C_drewN ?_ _) | (with_reducible refine Kd.C_drew ?_))); (case side2 => exact HC0.out); (case side3 => repeat (first | exact HR1.out | (with_reducible refine Kd.C_alloc ?_ _) | (with_reducible refine Kd.C_drewN ?_ _) | (with_reducible refine Kd.C_drew ?_))); (case side4 => exact HC1.out); rintro e w' ⟨rfl, ⟨nd, rfl⟩⟩; (try first | exact ⟨rfl, _, World.drewN_drewN _ _ _⟩ | exact ⟨rfl, _, Eq.trans (World.drewN_drewN _ _ _) (congrArg (World.drewN _) (Nat.add_assoc _ _ _))⟩)))
   repeat (go_quiet (first | (go_at_call 5; (with_reducible refine (laws_big.calls _ _ l0 _ _ l1 true _ ?side1 ?side2 ?side3 ?side4 A3.out).mono ?_); (case side1 => repeat (first | exact HR0.out | (with_reducible refine Kd.C_alloc ?_ _) | (with_reducible refine Kd.C_drewN ?_ _) | (with_reducible refine Kd.C_drew ?_))); (case side2 => exact HC0.out); (case side3 => repeat (first | exact HR1.out | (with_reducible refine Kd.C_alloc ?_ _) | (with_reducible refine Kd.C_drewN ?_ _) | (with_reducible refine Kd.C_drew ?_))); (case side4 => exact HC1.out); rintro e w' ⟨rfl, ⟨nd, rfl⟩⟩; (try first | exact ⟨rfl, _, World.drewN_drewN _ _ _⟩ | exact ⟨rfl, _, Eq.trans (World.drewN_drewN _ _ _) (congrArg (World.drewN _) (Nat.add_assoc _ _ _))⟩))); try go_wp2_with (first | (go_at_call 5; (with_reducible refine (laws_big.calls _ _ l0 _ _ l1 true _ ?side1 ?side2 ?side3 ?side4 A3.out).mono ?_); (case side1 => repeat (first | exact HR0.out | (with_reducible refine Kd.C_alloc ?_ _) | (with_reducible refine Kd.C_drewN ?_ _) | (with_reducible refine Kd.C_drew ?_))); (case side2 => exact HC0.out); (case side3 => repeat (first | exact HR1.out | (with_reducible refine Kd.C_alloc ?_ _) | (with_reducible refine Kd.C_drewN ?_ _) | (with_reducible refine Kd.C_drew ?_))); (case side4 => exact HC1.out); rintro e w' ⟨rfl, ⟨nd, rfl⟩⟩; (try first | exact ⟨rfl, _, World.drewN_drewN _ _ _⟩ | exact ⟨rfl, _, Eq.trans (World.drewN_drewN _ _ _) (congrArg (World.drewN _) (Nat.add_assoc _ _ _))⟩))))
   go_ret
   exact ⟨by first | rfl | (simp [errW_none, errW_some] <;> rfl) | (simp [*, errW_none, errW_some] <;> rfl), by repeat (first | (with_reducible first | exact HB.out | apply below_alloc | apply pw_below_drewN | apply below_drew1) | exact HB.out)⟩
 ·replace c4 := Bool.eq_false_iff.mpr c4
  subst c4
  have H1 : ((spec_DrawCyclesWith.f l0).bind fun bt381 => ((impl_CyclesWith.f k bt381.1 bt381.2).bind fun bt383 => ((spec_CyclesWith.f k bt381.1 bt381.2).bind fun bt387 => (if (bt383.2 != bt387.2) = true then (laws_FnOtherCycles.j0 k l1 bt381.1 bt381.2 bt383.1 bt383.2 true) else ((laws_rRows.f k bt383.1 bt387.1).bind fun t391 => (laws_FnOtherCycles.j0 k l1 bt381.1 bt381.2 bt383.1 bt383.2 (!t391))))))) = some r := by rw [if_neg (show ¬ (false = true) by decide)] at H; exact H
  clear H
  have H := H1
  clear H1
  replace H := Option.bind_eq_some_iff.mp H
  obtain ⟨⟨t381, t382⟩, A50, H⟩ := H
  replace H : ((impl_CyclesWith.f k t381 t382).bind fun bt383 => ((spec_CyclesWith.f k t381 t382).bind fun bt387 => (if (bt383.2 != bt387.2) = true then (laws_FnOtherCycles.j0 k l1 t381 t382 bt383.1 bt383.2 true) else ((laws_rRows.f k bt383.1 bt387.1).bind fun t391 => (laws_FnOtherCycles.j0 k l1 t381 t382 bt383.1 bt383.2 (!t391)))))) = some r := H
  have A5 := Aside0.mk A50
  clear A50
  replace H := Option.bind_eq_some_iff.mp H
  obtain ⟨⟨t383, t386⟩, A60, H⟩ := H
  replace H : ((spec_CyclesWith.f k t381 t382).bind fun bt387 => (if (t386 != bt387.2) = true then (laws_FnOtherCycles.j0 k l1 t381 t382 t383 t386 true) else ((laws_rRows.f k t383 bt387.1).bind fun t391 => (laws_FnOtherCycles.j0 k l1 t381 t382 t383 t386 (!t391))))) = some r := H
  have A6 := Aside0.mk A60
  clear A60
  replace H := Option.bind_eq_some_iff.mp H
  obtain ⟨⟨t387, t390⟩, A70, H⟩ := H
  replace H : (if (t386 != t390) = true then (laws_FnOtherCycles.j0 k l1 t381 t382 t383 t386 true) else ((laws_rRows.f k t383 t387).bind fun t391 => (laws_FnOtherCycles.j0 k l1 t381 t382 t383 t386 (!t391)))) = some r := H
  have A7 := Aside0.mk A70
  clear A70
  have HC8 := Aside0.mk H
  clear H
  go_enter Try.func4, Try.ntmps4
  go_upto_region 6 with (first | (go_at_call 5; (with_reducible refine (laws_big.calls _ _ l0 _ _ l1 false _ ?side1 ?side2 ?side3 ?side4 A3.out).mono ?_); (case side1 => repeat (first | exact HR0.out | (with_reducible refine Kd.C_alloc ?_ _) | (with_reducible refine Kd.C_drewN ?_ _) | (with_reducible refine Kd.C_drew ?_))); (case side2 => exact HC0.out); (case side3 => repeat (first | exact HR1.out | (with_reducible refine Kd.C_alloc ?_ _) | (with_reducible refine Kd.C_drewN ?_ _) | (with_reducible refine Kd.C_drew ?_))); (case side4 => exact HC1.out); rintro e w' ⟨rfl, ⟨nd, rfl⟩⟩; (try first | exact ⟨rfl, _, World.drewN_drewN _ _ _⟩ | exact ⟨rfl, _, Eq.trans (World.drewN_drewN _ _ _) (congrArg (World.drewN _) (Nat.add_assoc _ _ _))⟩)) | (go_at_call 31; (with_reducible refine (spec_DrawCyclesWith.calls _ _ l0 t381 t382 _ ?side1 ?side2 A5.out).mono ?_); (case side1 => repeat (first | exact HR0.out | (with_reducible refine Kd.C_alloc ?_ _) | (with_reducible refine Kd.C_drewN ?_ _) | (with_reducible refine Kd.C_drew ?_))); (case side2 => exact HC0.out); rintro e w9 ⟨rfl, hb⟩; have n0_ := Aside0.mk (below_step (by repeat (first | (with_reducible first | exact HB.out | apply below_alloc | apply pw_below_drewN | apply below_drew1) | exact HB.out)) hb); clear HB; have HB := n0_; clear n0_; (try clear hb); (try clear hb2); (try clear hk); (try clear hi)) | (go_at_call 32; (with_reducible refine (impl_CyclesWith.calls k t381 t382 t383 t386 _ A6.out).mono ?_); rintro e w10 ⟨v384, rfl, ho0, hb⟩; have n0_ := Aside0.mk (Kd.N_lower (Kd.N_mono (ok' := fun k_ => True) ho0 (fun k_ hk_ => trivial)) (below_size (by repeat (first | (with_reducible first | exact HB.out | apply below_alloc | apply pw_below_drewN | apply below_drew1) | exact HB.out)))); have n1_ := Aside0.mk (below_step (by repeat (first | (with_reducible first | exact HB.out | apply below_alloc | apply pw_below_drewN | apply below_drew1) | exact HB.out)) hb); clear HB; have HO385 := n0_; have HB := n1_; clear n0_ n1_; (try clear hb); (try clear hb2); (try clear hk); (try clear hi); (try clear ho0)) | (go_at_call 33; (with_reducible refine (spec_CyclesWith.calls k t381 t382 t387 t390 _ A7.out).mono ?_); rintro e w11 ⟨v388, rfl, ho0, hb⟩; have n0_ := Aside0.mk (Kd.N_elder' (by (with_reducible repeat (first | apply Kd.N_alloc | apply Kd.N_drewN | apply Kd.N_drew)); exact HO385.out) (Kd.N_base ho0) hb); have n1_ := Aside0.mk (Kd.N_lower (Kd.N_mono (ok' := fun k_ => some k_ ≠ (v384 : Value).ownBlock) ho0 (fun k_ hk_ => (Kd.fresh' (Kd.N_lt (by (with_reducible repeat (first | apply Kd.N_alloc | apply Kd.N_drewN | apply Kd.N_drew)); exact HO385.out)) k_ hk_))) (below_size (by repeat (first | (with_reducible first | exact HB.out | apply below_alloc | apply pw_below_drewN | apply below_drew1) | exact HB.out)))); have n2_ := Aside0.mk (below_step (by repeat (first | (with_reducible first | exact HB.out | apply below_alloc | apply pw_below_drewN | apply below_drew1) | exact HB.out)) hb); clear HO385; clear HB; have HO385 := n0_; have HO389 := n1_; have HB := n2_; clear n0_ n1_ n2_; (try clear hb); (try clear hb2); (try clear hk); (try clear hi); (try clear ho0)))
  repeat (go_quiet (first | (go_at_call 5; (with_reducible refine (laws_big.calls _ _ l0 _ _ l1 false _ ?side1 ?side2 ?side3 ?side4 A3.out).mono ?_); (case side1 => repeat (first | exact HR0.out | (with_reducible refine Kd.C_alloc ?_ _) | (with_reducible refine Kd.C_drewN ?_ _) | (with_reducible refine Kd.C_drew ?_))); (case side2 => exact HC0.out); (case side3 => repeat (first | exact HR1.out | (with_reducible refine Kd.C_alloc ?_ _) | (with_reducible refine Kd.C_drewN ?_ _) | (with_reducible refine Kd.C_drew ?_))); (case side4 => exact HC1.out); rintro e w' ⟨rfl, ⟨nd, rfl⟩⟩; (try first | exact ⟨rfl, _, World.drewN_drewN _ _ _⟩ | exact ⟨rfl, _, Eq.trans (World.drewN_drewN _ _ _) (congrArg (World.drewN _) (Nat.add_assoc _ _ _))⟩)) | (go_at_call 31; (with_reducible refine (spec_DrawCyclesWith.calls _ _ l0 t381 t382 _ ?side1 ?side2 A5.out).mono ?_); (case side1 => repeat (first | exact HR0.out | (with_reducible refine Kd.C_alloc ?_ _) | (with_reducible refine Kd.C_drewN ?_ _) | (with_reducible refine Kd.C_drew ?_))); (case side2 => exact HC0.out); rintro e w9 ⟨rfl, hb⟩; have n0_ := Aside0.mk (below_step (by repeat (first | (with_reducible first | exact HB.out | apply below_alloc | apply pw_below_drewN | apply below_drew1) | exact HB.out)) hb); clear HB; have HB := n0_; clear n0_; (try clear hb); (try clear hb2); (try clear hk); (try clear hi)) | (go_at_call 32; (with_reducible refine (impl_CyclesWith.calls k t381 t382 t383 t386 _ A6.out).mono ?_); rintro e w10 ⟨v384, rfl, ho0, hb⟩; have n0_ := Aside0.mk (Kd.N_lower (Kd.N_mono (ok' := fun k_ => True) ho0 (fun k_ hk_ => trivial)) (below_size (by repeat (first | (with_reducible first | exact HB.out | apply below_alloc | apply pw_below_drewN | apply below_drew1) | exact HB.out)))); have n1_ := Aside0.mk (below_step (by repeat (first | (with_reducible first | exact HB.out | apply below_alloc | apply pw_below_drewN | apply below_drew1) | exact HB.out)) hb); clear HB; have HO385 := n0_; have HB := n1_; clear n0_ n1_; (try clear hb); (try clear hb2); (try clear hk); (try clear hi); (try clear ho0)) | (go_at_call 33; (with_reducible refine (spec_CyclesWith.calls k t381 t382 t387 t390 _ A7.out).mono ?_); rintro e w11 ⟨v388, rfl, ho0, hb⟩; have n0_ := Aside0.mk (Kd.N_elder' (by (with_reducible repeat (first | apply Kd.N_alloc | apply Kd.N_drewN | apply Kd.N_drew)); exact HO385.out) (Kd.N_base ho0) hb); have n1_ := Aside0.mk (Kd.N_lower (Kd.N_mono (ok' := fun k_ => some k_ ≠ (v384 : Value).ownBlock) ho0 (fun k_ hk_ => (Kd.fresh' (Kd.N_lt (by (with_reducible repeat (first | apply Kd.N_alloc | apply Kd.N_drewN | apply Kd.N_drew)); exact HO385.out)) k_ hk_))) (below_size (by repeat (first | (with_reducible first | exact HB.out | apply below_alloc | apply pw_below_drewN | apply below_drew1) | exact HB.out)))); have n2_ := Aside0.mk (below_step (by repeat (first | (with_reducible first | exact HB.out | apply below_alloc | apply pw_below_drewN | apply below_drew1) | exact HB.out)) hb); clear HO385; clear HB; have HO385 := n0_; have HO389 := n1_; have HB := n2_; clear n0_ n1_ n2_; (try clear hb); (try clear hb2); (try clear hk); (try clear hi); (try clear ho0))); go_upto_region 6 with (first | (go_at_call 5; (with_reducible refine (laws_big.calls _ _ l0 _ _ l1 false _ ?side1 ?side2 ?side3 ?side4 A3.out).mono ?_); (case side1 => repeat (first | exact HR0.out | (with_reducible refine Kd.C_alloc ?_ _) | (with_reducible refine Kd.C_drewN ?_ _) | (with_reducible refine Kd.C_drew ?_))); (case side2 => exact HC0.out); (case side3 => repeat (first | exact HR1.out | (with_reducible refine Kd.C_alloc ?_ _) | (with_reducible refine Kd.C_drewN ?_ _) | (with_reducible refine Kd.C_drew ?_))); (case side4 => exact HC1.out); rintro e w' ⟨rfl, ⟨nd, rfl⟩⟩; (try first | exact ⟨rfl, _, World.drewN_drewN _ _ _⟩ | exact ⟨rfl, _, Eq.trans (World.drewN_drewN _ _ _) (congrArg (World.drewN _) (Nat.add_assoc _ _ _))⟩)) | (go_at_call 31; (with_reducible refine (spec_DrawCyclesWith.calls _ _ l0 t381 t382 _ ?side1 ?side2 A5.out).mono ?_); (case side1 => repeat (first | exact HR0.out | (with_reducible refine Kd.C_alloc ?_ _) | (with_reducible refine Kd.C_drewN ?_ _) | (with_reducible refine Kd.C_drew ?_))); (case side2 => exact HC0.out); rintro e w9 ⟨rfl, hb⟩; have n0_ := Aside0.mk (below_step (by repeat (first | (with_reducible first | exact HB.out | apply below_alloc | apply pw_below_drewN | apply below_drew1) | exact HB.out)) hb); clear HB; have HB := n0_; clear n0_; (try clear hb); (try clear hb2); (try clear hk); (try clear hi)) | (go_at_call 32; (with_reducible refine (impl_CyclesWith.calls k t381 t382 t383 t386 _ A6.out).mono ?_); rintro e w10 ⟨v384, rfl, ho0, hb⟩; have n0_ := Aside0.mk (Kd.N_lower (Kd.N_mono (ok' := fun k_ => True) ho0 (fun k_ hk_ => trivial)) (below_size (by repeat (first | (with_reducible first | exact HB.out | apply below_alloc | apply pw_below_drewN | apply below_drew1) | exact HB.out)))); have n1_ := Aside0.mk (below_step (by repeat (first | (with_reducible first | exact HB.out | apply below_alloc | apply pw_below_drewN | apply below_drew1) | exact HB.out)) hb); clear HB; have HO385 := n0_; have HB := n1_; clear n0_ n1_; (try clear hb); (try clear hb2); (try clear hk); (try clear hi); (try clear ho0)) | (go_at_call 33; (with_reducible refine (spec_CyclesWith.calls k t381 t382 t387 t390 _ A7.out).mono ?_); rintro e w11 ⟨v388, rfl, ho0, hb⟩; have n0_ := Aside0.mk (Kd.N_elder' (by (with_reducible repeat (first | apply Kd.N_alloc | apply Kd.N_drewN | apply Kd.N_drew)); exact HO385.out) (Kd.N_base ho0) hb); have n1_ := Aside0.mk (Kd.N_lower (Kd.N_mono (ok' := fun k_ => some k_ ≠ (v384 : Value).ownBlock) ho0 (fun k_ hk_ => (Kd.fresh' (Kd.N_lt (by (with_reducible repeat (first | apply Kd.N_alloc | apply Kd.N_drewN | apply Kd.N_drew)); exact HO385.out)) k_ hk_))) (below_size (by repeat (first | (with_reducible first | exact HB.out | apply below_alloc | apply pw_below_drewN | apply below_drew1) | exact HB.out)))); have n2_ := Aside0.mk (below_step (by repeat (first | (with_reducible first | exact HB.out | apply below_alloc | apply pw_below_drewN | apply below_drew1) | exact HB.out)) hb); clear HO385; clear HB; have HO385 := n0_; have HO389 := n1_; have HB := n2_; clear n0_ n1_ n2_; (try clear hb); (try clear hb2); (try clear hk); (try clear hi); (try clear ho0))))
  (try simp only [Act.put, List.setIfInBounds_toArray, List.set_cons_zero, List.set_cons_succ])
  go_cut [64] (fun v64 wc => ∃ (kq : Nat) (x64_7 : Bool), v64 = .bool x64_7 ∧ Aside0 (laws_FnOtherCycles.j0 kq l1 t381 t382 t383 t386 x64_7 = some r) ∧ Aside0 (kq ≤ k) ∧ Aside0 (Kd.N (Kd.slice 3 (Kd.int .i64)) 25 wc w.heap.size (fun _ => True) v384 t383) ∧ Aside0 (Below w.heap.size w wc))
  case first =>
   as_aux_lemma =>
   have H := HC8.out
   clear HC8
   by_cases c12 : (t386 != t390) = true
   ·rw [if_pos c12] at H
    have c12b0 : (t386 != t390) = true := c12
    (try (have c12b1 : decide (t386 = t390) = false := by simpa using c12))
    (try (have c12b2 : (t386 == t390) = false := by simpa using c12))
    (try (have c12b3 : ¬ (t386 = t390) := by simpa using c12))
    clear c12
    (first | rw [c12b0] | (simp only [i64_w, i32_w]; rw [c12b0]) | skip)
    exact (laws_FnOtherCycles.j0_no HR_.out _ _ _ _ _ _ H).elim
   ·rw [if_neg c12] at H
    have c12b0 : (t386 != t390) = false := by simpa using c12
    (try (have c12b1 : decide (t386 = t390) = true := by simpa using c12))
    (try (have c12b2 : (t386 == t390) = true := by simpa using c12))
    clear c12
    (first | rw [c12b0] | (simp only [i64_w, i32_w]; rw [c12b0]) | skip)
    replace H := Option.bind_eq_some_iff.mp H
    obtain ⟨t391, A130, H⟩ := H
    replace H : (laws_FnOtherCycles.j0 k l1 t381 t382 t383 t386 (!t391)) = some r := H
    have A13 := Aside0.mk A130
    clear A130
    as_aux_lemma =>
     have H' := Aside0.mk H
     clear H
     obtain ⟨Ao14, co14, eo14⟩ := Kd.N_slice HO385.out
     subst eo14
     obtain ⟨Ao15, co15, eo15⟩ := Kd.N_slice HO389.out
     subst eo15
     go_wp2_with (first | (go_at_call 34; (with_reducible refine (laws_rRows.calls k _ _ t383 _ _ t387 t391 _ ?side1 ?side2 ?side3 ?side4 A13.out).mono ?_); (case side1 => repeat (first | exact (Kd.N_reads' HO385.out).2.2 | (with_reducible refine Kd.C_alloc ?_ _) | (with_reducible refine Kd.C_drewN ?_ _) | (with_reducible refine Kd.C_drew ?_))); (case side2 => exact (Kd.N_reads' HO385.out).2.1); (case side3 => repeat (first | exact (Kd.N_reads' HO389.out).2.2 | (with_reducible refine Kd.C_alloc ?_ _) | (with_reducible refine Kd.C_drewN ?_ _) | (with_reducible refine Kd.C_drew ?_))); (case side4 => exact (Kd.N_reads' HO389.out).2.1); rintro e w' ⟨rfl, ⟨nd, rfl⟩⟩; (try first | exact ⟨rfl, _, World.drewN_drewN _ _ _⟩ | exact ⟨rfl, _, Eq.trans (World.drewN_drewN _ _ _) (congrArg (World.drewN _) (Nat.add_assoc _ _ _))⟩)))
     repeat (go_quiet (first | (go_at_call 34; (with_reducible refine (laws_rRows.calls k _ _ t383 _ _ t387 t391 _ ?side1 ?side2 ?side3 ?side4 A13.out).mono ?_); (case side1 => repeat (first | exact (Kd.N_reads' HO385.out).2.2 | (with_reducible refine Kd.C_alloc ?_ _) | (with_reducible refine Kd.C_drewN ?_ _) | (with_reducible refine Kd.C_drew ?_))); (case side2 => exact (Kd.N_reads' HO385.out).2.1); (case side3 => repeat (first | exact (Kd.N_reads' HO389.out).2.2 | (with_reducible refine Kd.C_alloc ?_ _) | (with_reducible refine Kd.C_drewN ?_ _) | (with_reducible refine Kd.C_drew ?_))); (case side4 => exact (Kd.N_reads' HO389.out).2.1); rintro e w' ⟨rfl, ⟨nd, rfl⟩⟩; (try first | exact ⟨rfl, _, World.drewN_drewN _ _ _⟩ | exact ⟨rfl, _, Eq.trans (World.drewN_drewN _ _ _) (congrArg (World.drewN _) (Nat.add_assoc _ _ _))⟩))); try go_wp2_with (first | (go_at_call 34; (with_reducible refine (laws_rRows.calls k _ _ t383 _ _ t387 t391 _ ?side1 ?side2 ?side3 ?side4 A13.out).mono ?_); (case side1 => repeat (first | exact (Kd.N_reads' HO385.out).2.2 | (with_reducible refine Kd.C_alloc ?_ _) | (with_reducible refine Kd.C_drewN ?_ _) | (with_reducible refine Kd.C_drew ?_))); (case side2 => exact (Kd.N_reads' HO385.out).2.1); (case side3 => repeat (first | exact (Kd.N_reads' HO389.out).2.2 | (with_reducible refine Kd.C_alloc ?_ _) | (with_reducible refine Kd.C_drewN ?_ _) | (with_reducible refine Kd.C_drew ?_))); (case side4 => exact (Kd.N_reads' HO389.out).2.1); rintro e w' ⟨rfl, ⟨nd, rfl⟩⟩; (try first | exact ⟨rfl, _, World.drewN_drewN _ _ _⟩ | exact ⟨rfl, _, Eq.trans (World.drewN_drewN _ _ _) (congrArg (World.drewN _) (Nat.add_assoc _ _ _))⟩))))
     go_meet
     case rel => exact ⟨_, (!t391), (by first | rfl | (simp; done) | (simp [*]; done)), H', ⟨by first | omega | exact Nat.le_refl _⟩, ⟨by (with_reducible repeat (first | apply Kd.N_alloc | apply Kd.N_drewN | apply Kd.N_drew)); exact Kd.N_mono HO385.out (fun _ hk => trivial)⟩, ⟨by repeat (first | (with_reducible first | exact HB.out | apply below_alloc | apply pw_below_drewN | apply below_drew1) | exact HB.out)⟩⟩
  case rest =>
   as_aux_lemma =>
   clear HC8
   try clear c1
   try clear p2
   try clear c4
   try clear c12
   try clear c12b0
   try clear c12b1
   try clear c12b2
   obtain ⟨kq, x64_7, rfl, HA, HJ7, HO_7, HB⟩ := hcut
   cases kq with
   | zero => exact absurd HA.out (by simp [laws_FnOtherCycles.j0])
   | succ kj7 =>
    have H := HA.out
    clear HA
    simp only [laws_FnOtherCycles.j0] at H
    by_cases c16 : x64_7 = true
    ·subst c16
     have H1 : (some false) = some r := by rw [if_pos rfl] at H; exact H
     clear H
     have H := H1
     clear H1
     exact absurd (Option.some.inj H) (by rw [HR_.out]; decide)
    ·replace c16 := Bool.eq_false_iff.mpr c16
     subst c16
     have H1 : (if t386 = true then (laws_FnOtherCycles.l0 kj7 l1 t381 t382 t383 t383 (t383.length : Int) 0) else (laws_FnOtherCycles.j5 kj7 l1)) = some r := by rw [if_neg (show ¬ (false = true) by decide)] at H; exact H
     clear H
     have H := H1
     clear H1
     have HC17 := Aside0.mk H
     clear H
     go_upto_if 65 with (fail)
     repeat (go_quiet (fail); go_upto_if 65 with (fail))
     go_cut [] (fun wc => ∃ (kq : Nat), Aside0 (laws_FnOtherCycles.j5 kq l1 = some r) ∧ Aside0 (kq ≤ kj7) ∧ Aside0 (Below w.heap.size w wc))
     case first =>
      as_aux_lemma =>
      have H := HC17.out
      clear HC17
      by_cases c18 : t386 = true
      ·subst c18
       have H1 : (laws_FnOtherCycles.l0 kj7 l1 t381 t382 t383 t383 (t383.length : Int) 0) = some r := by rw [if_pos rfl] at H; exact H
       clear H
       have H := H1
       clear H1
       have H' := Aside0.mk H
       clear H
       obtain ⟨Ao19, co19, eo19⟩ := Kd.N_slice HO_7.out
       subst eo19
       go_wp2
       repeat (go_quiet (fail); try go_wp2)
       go_loopg [68] kj7 (fun kq v68 w' => ∃ (x68_2 : Int), v68 = .int .i64 x68_2 ∧ Aside0 (laws_FnOtherCycles.l0 kq l1 t381 t382 t383 t383 (t383.length : Int) x68_2 = some r) ∧ Aside0 (kq ≤ kj7) ∧ Aside0 (Kd.N (Kd.slice 3 (Kd.int .i64)) 25 w' w.heap.size (fun _ => True) (.slice Ao19 t383.length co19) t383) ∧ Aside0 (Kd.N (Kd.slice 3 (Kd.int .i64)) 25 w' w.heap.size (fun _ => True) (.slice Ao19 t383.length co19) t383) ∧ Aside0 (Below w.heap.size w w'))
       case atStart => exact ⟨(0), (by first | rfl | (simp; done) | (simp [*]; done)), H', ⟨Nat.le_refl _⟩, ⟨by (with_reducible repeat (first | apply Kd.N_alloc | apply Kd.N_drewN | apply Kd.N_drew)); exact HO_7.out⟩, ⟨by (with_reducible repeat (first | apply Kd.N_alloc | apply Kd.N_drewN | apply Kd.N_drew)); exact HO_7.out⟩, ⟨by repeat (first | (with_reducible first | exact HB.out | apply below_alloc | apply pw_below_drewN | apply below_drew1) | exact HB.out)⟩⟩
       case round =>
        as_aux_lemma =>
        clear H'
        try clear c1
        try clear p2
        try clear c4
        try clear c12
        try clear c12b0
        try clear c12b1
        try clear c12b2
        try clear c16
        try clear c18
        try clear p2
        obtain ⟨x68_2, rfl, HA, HK2, HO_7, HO_66, HB⟩ := hrel
        cases gk with
        | zero => exact absurd HA.out (by simp [laws_FnOtherCycles.l0])
        | succ k2 =>
         have H := HA.out
         clear HA
         simp only [laws_FnOtherCycles.l0] at H
         by_cases c20 : x68_2 < (t383.length : Int)
         ·rw [if_pos c20] at H
          have c20b0 : decide (x68_2 < (t383.length : Int)) = true := decide_eq_true c20
          clear c20
          (first | rw [c20b0] | (simp only [i64_w, i32_w]; rw [c20b0]) | skip)
          by_cases c21 : 0 ≤ x68_2
          ·rw [if_pos c21] at H
           have c21b0 : decide (0 ≤ x68_2) = true := decide_eq_true c21
           clear c21
           by_cases c22 : x68_2 < (t383.length : Int)
           ·rw [if_pos c22] at H
            have c22b0 : decide (x68_2 < (t383.length : Int)) = true := decide_eq_true c22
            clear c22
            have H' := Aside0.mk H
            clear H
            have p392 : 0 ≤ (x68_2 : Int) := of_decide_eq_true (by first | (with_reducible assumption) | assumption)
            have q392 : x68_2 < (t383.length : Int) := of_decide_eq_true (by first | (with_reducible assumption) | assumption)
            obtain ⟨ad392, A392_0, c392_0, e392, hx392_0, hl392_0, hi392_0⟩ := at_L2 (Kd.N_reads' HO_66.out).2.2 x68_2 p392 q392
            cases e392
            obtain ⟨ce392, hce392, hMe392, hcc392⟩ := Kd.N_get HO_66.out [] x68_2 p392 (by first | exact q392 | exact of_decide_eq_true (by first | (with_reducible assumption) | assumption) | (have e_ := (Kd.N_reads' HO_66.out).1; omega))
            obtain ⟨ua392_0, uc392_0, rfl, ul392_0, ge392_0⟩ := Kd.FK_slice_open hMe392
            have hv392_0 := hcc392 0 _ rfl
            rw [Nat.add_zero, show ((Kd.slice 3 (Kd.int .i64))).sz = 1 from rfl, Nat.mul_one] at hv392_0
            replace hv392_0 := Option.some.inj (hv392_0.symm.trans hx392_0)
            injection hv392_0 with hva_ hvn_ hvc_
            rw [hva_] at ge392_0
            rw [hvc_] at ul392_0
            have HL392_0 := Aside0.mk (show Kd.V (Kd.int .i64) 3 _ w.heap.size _ _ (rd_L2 t383 x68_2) from Kd.V_mk ul392_0 ge392_0)
            clear hva_ hvn_ hvc_ ge392_0 ul392_0
            clear hcc392 hce392
            have HR392_0 := Aside0.mk hi392_0
            have HC392_0 := Aside0.mk hl392_0
            clear hi392_0 hl392_0
            replace p392 := eq_true p392
            replace q392 := eq_true q392
            go_wp2
            repeat (go_quiet (fail); try go_wp2)
            go_loopg [75] k2 (fun kq v75 w' => ∃ (x75_3 : Int), v75 = .int .i64 x75_3 ∧ Aside0 (laws_FnOtherCycles.l1 kq l1 t381 t382 t383 x68_2 (rd_L2 t383 x68_2) t383 (t383.length : Int) x68_2 (rd_L2 t383 x68_2) ((rd_L2 t383 x68_2).length : Int) x75_3 = some r) ∧ Aside0 (kq ≤ k2) ∧ Aside0 (Kd.N (Kd.slice 3 (Kd.int .i64)) 25 w' w.heap.size (fun _ => True) (.slice (some ad392) t383.length co19) t383) ∧ Aside0 (Kd.N (Kd.slice 3 (Kd.int .i64)) 25 w' w.heap.size (fun _ => True) (.slice (some ad392) t383.length co19) t383) ∧ Aside0 (Kd.C (Kd.int .i64) w' A392_0 (rd_L2 t383 x68_2).length (rd_L2 t383 x68_2)) ∧ Aside0 (Below w.heap.size w w'))
            case atStart => exact ⟨(0), (by first | rfl | (simp; done) | (simp [*]; done)), H', ⟨Nat.le_refl _⟩, ⟨by (with_reducible repeat (first | apply Kd.N_alloc | apply Kd.N_drewN | apply Kd.N_drew)); exact HO_7.out⟩, ⟨by (with_reducible repeat (first | apply Kd.N_alloc | apply Kd.N_drewN | apply Kd.N_drew)); exact HO_66.out⟩, ⟨by repeat (first | (with_reducible exact HR392_0.out) | (with_reducible refine Kd.C_alloc ?_ _) | (with_reducible refine Kd.C_drewN ?_ _) | (with_reducible refine Kd.C_drew ?_) | exact HR392_0.out)⟩, ⟨by repeat (first | (with_reducible first | exact HB.out | apply below_alloc | apply pw_below_drewN | apply below_drew1) | exact HB.out)⟩⟩
            case round =>
             as_aux_lemma =>
             clear H'
             try clear c1
             try clear c2
             try clear p2
             try clear c3
             try clear p3
             try clear q3
             try clear hx3
             try clear c4
             try clear c12
             try clear c12b0
             try clear c12b1
             try clear c12b2
             try clear c16
             try clear c18
             try clear c20
             try clear c20b0
             try clear c21
             try clear c21b0
             try clear c22
             try clear c22b0
             try clear hx392_0
             try clear p2
             try clear p392
             try clear q392
             obtain ⟨x75_3, rfl, HA, HK3, HO_7, HO_66, HR392_0, HB⟩ := hrel
             cases gk with
             | zero => exact absurd HA.out (by simp [laws_FnOtherCycles.l1])
             | succ k3 =>
              have H := HA.out
              clear HA
              simp only [laws_FnOtherCycles.l1] at H
              by_cases c23 : x75_3 < ((rd_L2 t383 x68_2).length : Int)
              ·rw [if_pos c23] at H
               have c23b0 : decide (x75_3 < ((rd_L2 t383 x68_2).length : Int)) = true := decide_eq_true c23
               clear c23
               by_cases c24 : 0 ≤ x75_3
               ·rw [if_pos c24] at H
                have c24b0 : decide (0 ≤ x75_3) = true := decide_eq_true c24
                clear c24
                by_cases c25 : x75_3 < ((rd_L2 t383 x68_2).length : Int)
                ·rw [if_pos c25] at H
                 have c25b0 : decide (x75_3 < ((rd_L2 t383 x68_2).length : Int)) = true := decide_eq_true c25
                 clear c25
                 replace H := Option.bind_eq_some_iff.mp H
                 obtain ⟨⟨t394, t395⟩, A260, H⟩ := H
                 replace H : (if t395 = true then (if ((rd_L2 t383 x68_2).length : Int) = 0 then (none) else (if 0 ≤ (Int.tmod (wrap64 (x75_3 + 1)) ((rd_L2 t383 x68_2).length : Int)) then (if (Int.tmod (wrap64 (x75_3 + 1)) ((rd_L2 t383 x68_2).length : Int)) < ((rd_L2 t383 x68_2).length : Int) then (if t394 = (rd (rd_L2 t383 x68_2) (Int.tmod (wrap64 (x75_3 + 1)) ((rd_L2 t383 x68_2).length : Int))) then (if 0 < ((rd_L2 t383 x68_2).length : Int) then (if (rd (rd_L2 t383 x68_2) x75_3) < (rd (rd_L2 t383 x68_2) 0) then (some false) else (if x68_2 > 0 then (if 0 ≤ (wrap64 (x68_2 - 1)) then (if (wrap64 (x68_2 - 1)) < (t383.length : Int) then (if 0 < ((rd_L2 t383 (wrap64 (x68_2 - 1))).length : Int) then (if (rd (rd_L2 t383 (wrap64 (x68_2 - 1))) 0) ≥ (rd (rd_L2 t383 x68_2) 0) then (some false) else (laws_FnOtherCycles.l1 k3 l1 t381 t382 t383 x68_2 (rd_L2 t383 x68_2) t383 (t383.length : Int) x68_2 (rd_L2 t383 x68_2) ((rd_L2 t383 x68_2).length : Int) (wrap64 (x75_3 + 1)))) else (none)) else (none)) else (none)) else (laws_FnOtherCycles.l1 k3 l1 t381 t382 t383 x68_2 (rd_L2 t383 x68_2) t383 (t383.length : Int) x68_2 (rd_L2 t383 x68_2) ((rd_L2 t383 x68_2).length : Int) (wrap64 (x75_3 + 1))))) else (none)) else (some false)) else (none)) else (none))) else (some false)) = some r := H
                 have A26 := Aside0.mk A260
                 clear A260
                 by_cases c27 : t395 = true
                 ·subst c27
                  have H1 : (if ((rd_L2 t383 x68_2).length : Int) = 0 then (none) else (if 0 ≤ (Int.tmod (wrap64 (x75_3 + 1)) ((rd_L2 t383 x68_2).length : Int)) then (if (Int.tmod (wrap64 (x75_3 + 1)) ((rd_L2 t383 x68_2).length : Int)) < ((rd_L2 t383 x68_2).length : Int) then (if t394 = (rd (rd_L2 t383 x68_2) (Int.tmod (wrap64 (x75_3 + 1)) ((rd_L2 t383 x68_2).length : Int))) then (if 0 < ((rd_L2 t383 x68_2).length : Int) then (if (rd (rd_L2 t383 x68_2) x75_3) < (rd (rd_L2 t383 x68_2) 0) then (some false) else (if x68_2 > 0 then (if 0 ≤ (wrap64 (x68_2 - 1)) then (if (wrap64 (x68_2 - 1)) < (t383.length : Int) then (if 0 < ((rd_L2 t383 (wrap64 (x68_2 - 1))).length : Int) then (if (rd (rd_L2 t383 (wrap64 (x68_2 - 1))) 0) ≥ (rd (rd_L2 t383 x68_2) 0) then (some false) else (laws_FnOtherCycles.l1 k3 l1 t381 t382 t383 x68_2 (rd_L2 t383 x68_2) t383 (t383.length : Int) x68_2 (rd_L2 t383 x68_2) ((rd_L2 t383 x68_2).length : Int) (wrap64 (x75_3 + 1)))) else (none)) else (none)) else (none)) else (laws_FnOtherCycles.l1 k3 l1 t381 t382 t383 x68_2 (rd_L2 t383 x68_2) t383 (t383.length : Int) x68_2 (rd_L2 t383 x68_2) ((rd_L2 t383 x68_2).length : Int) (wrap64 (x75_3 + 1))))) else (none)) else (some false)) else (none)) else (none))) = some r := by rw [if_pos rfl] at H; exact H
                  clear H
                  have H := H1
                  clear H1
                  by_cases c28 : ((rd_L2 t383 x68_2).length : Int) = 0
                  ·rw [if_pos c28] at H
                   exact absurd H (by simp)
                  ·rw [if_neg c28] at H
                   have c28b0 : (((rd_L2 t383 x68_2).length : Int) == 0) = false := beq_eq_false_iff_ne.mpr c28
                   have c28b1 : (((rd_L2 t383 x68_2).length : Int) != 0) = true := bne_iff_ne.mpr c28
                   have c28b2 : ¬ ((rd_L2 t383 x68_2) = []) := fun h_ => c28 (by rw [h_]; rfl)
                   obtain ⟨ji29, hji29⟩ : ∃ j_ : Int, (Int.tmod (wrap64 (x75_3 + 1)) ((rd_L2 t383 x68_2).length : Int)) = j_ := ⟨_, rfl⟩
                   replace H : (if 0 ≤ (ji29) then (if (ji29) < ((rd_L2 t383 x68_2).length : Int) then (if t394 = (rd (rd_L2 t383 x68_2) (ji29)) then (if 0 < ((rd_L2 t383 x68_2).length : Int) then (if (rd (rd_L2 t383 x68_2) x75_3) < (rd (rd_L2 t383 x68_2) 0) then (some false) else (if x68_2 > 0 then (if 0 ≤ (wrap64 (x68_2 - 1)) then (if (wrap64 (x68_2 - 1)) < (t383.length : Int) then (if 0 < ((rd_L2 t383 (wrap64 (x68_2 - 1))).length : Int) then (if (rd (rd_L2 t383 (wrap64 (x68_2 - 1))) 0) ≥ (rd (rd_L2 t383 x68_2) 0) then (some false) else (laws_FnOtherCycles.l1 k3 l1 t381 t382 t383 x68_2 (rd_L2 t383 x68_2) t383 (t383.length : Int) x68_2 (rd_L2 t383 x68_2) ((rd_L2 t383 x68_2).length : Int) (wrap64 (x75_3 + 1)))) else (none)) else (none)) else (none)) else (laws_FnOtherCycles.l1 k3 l1 t381 t382 t383 x68_2 (rd_L2 t383 x68_2) t383 (t383.length : Int) x68_2 (rd_L2 t383 x68_2) ((rd_L2 t383 x68_2).length : Int) (wrap64 (x75_3 + 1))))) else (none)) else (some false)) else (none)) else (none)) = some r := by first | (rw [hji29] at H; exact H) | (simp only [hji29] at H ⊢; exact H)
                   (try rw [hji29] at A26)
                   by_cases c30 : 0 ≤ (ji29)
                   ·rw [if_pos c30] at H
                    have c30b0 : decide (0 ≤ (ji29)) = true := decide_eq_true c30
                    clear c30
                    by_cases c31 : (ji29) < ((rd_L2 t383 x68_2).length : Int)
                    ·rw [if_pos c31] at H
                     have c31b0 : decide ((ji29) < ((rd_L2 t383 x68_2).length : Int)) = true := decide_eq_true c31
                     clear c31
                     by_cases c32 : t394 = (rd (rd_L2 t383 x68_2) (ji29))
                     ·rw [if_pos c32] at H
                      have c32b0 : (t394 == (rd (rd_L2 t383 x68_2) (ji29))) = true := beq_iff_eq.mpr c32
                      have c32b1 : (t394 != (rd (rd_L2 t383 x68_2) (ji29))) = false := bne_eq_false_iff_eq.mpr c32
                      clear c32
                      by_cases c33 : 0 < ((rd_L2 t383 x68_2).length : Int)
                      ·rw [if_pos c33] at H
                       have c33b0 : decide (0 < ((rd_L2 t383 x68_2).length : Int)) = true := decide_eq_true c33
                       have c33b1 : decide (0 < (rd_L2 t383 x68_2).length) = true := decide_eq_true (by omega)
                       clear c33
                       by_cases c34 : (rd (rd_L2 t383 x68_2) x75_3) < (rd (rd_L2 t383 x68_2) 0)
                       ·rw [if_pos c34] at H
                        have c34b0 : decide ((rd (rd_L2 t383 x68_2) x75_3) < (rd (rd_L2 t383 x68_2) 0)) = true := decide_eq_true c34
                        clear c34
                        exact absurd (Option.some.inj H) (by rw [HR_.out]; decide)
                       ·rw [if_neg c34] at H
                        have c34b0 : decide ((rd (rd_L2 t383 x68_2) x75_3) < (rd (rd_L2 t383 x68_2) 0)) = false := decide_eq_false c34
                        clear c34
                        by_cases c35 : x68_2 > 0
                        ·rw [if_pos c35] at H
                         have c35b0 : decide (0 < x68_2) = true := decide_eq_true c35
                         clear c35
                         obtain ⟨ji36, hji36⟩ : ∃ j_ : Int, (wrap64 (x68_2 - 1)) = j_ := ⟨_, rfl⟩
                         replace H : (if 0 ≤ (ji36) then (if (ji36) < (t383.length : Int) then (if 0 < ((rd_L2 t383 (ji36)).length : Int) then (if (rd (rd_L2 t383 (ji36)) 0) ≥ (rd (rd_L2 t383 x68_2) 0) then (some false) else (laws_FnOtherCycles.l1 k3 l1 t381 t382 t383 x68_2 (rd_L2 t383 x68_2) t383 (t383.length : Int) x68_2 (rd_L2 t383 x68_2) ((rd_L2 t383 x68_2).length : Int) (wrap64 (x75_3 + 1)))) else (none)) else (none)) else (none)) = some r := by first | (rw [hji36] at H; exact H) | (simp only [hji36] at H ⊢; exact H)
                         (try rw [hji36] at A26)
                         have hji36w : (IntKind.i64.wrap (x68_2 - 1)) = ji36 := (i64_w _).trans hji36
                         by_cases c37 : 0 ≤ (ji36)
                         ·rw [if_pos c37] at H
                          have c37b0 : decide (0 ≤ (ji36)) = true := decide_eq_true c37
                          clear c37
                          by_cases c38 : (ji36) < (t383.length : Int)
                          ·rw [if_pos c38] at H
                           have c38b0 : decide ((ji36) < (t383.length : Int)) = true := decide_eq_true c38
                           clear c38
                           by_cases c39 : 0 < ((rd_L2 t383 (ji36)).length : Int)
                           ·rw [if_pos c39] at H
                            have c39b0 : decide (0 < ((rd_L2 t383 (ji36)).length : Int)) = true := decide_eq_true c39
                            have c39b1 : decide (0 < (rd_L2 t383 (ji36)).length) = true := decide_eq_true (by omega)
                            clear c39
                            by_cases c40 : (rd (rd_L2 t383 (ji36)) 0) ≥ (rd (rd_L2 t383 x68_2) 0)
                            ·rw [if_pos c40] at H
                             have c40b0 : decide ((rd (rd_L2 t383 x68_2) 0) ≤ (rd (rd_L2 t383 (ji36)) 0)) = true := decide_eq_true c40
                             clear c40
                             exact absurd (Option.some.inj H) (by rw [HR_.out]; decide)
                            ·rw [if_neg c40] at H
                             have c40b0 : decide ((rd (rd_L2 t383 x68_2) 0) ≤ (rd (rd_L2 t383 (ji36)) 0)) = false := decide_eq_false c40
                             clear c40
                             as_aux_lemma =>
                              have H' := Aside0.mk H
                              clear H
                              have p393 : 0 ≤ (x75_3 : Int) := of_decide_eq_true (by first | (with_reducible assumption) | assumption)
                              have q393 : x75_3 < ((rd_L2 t383 x68_2).length : Int) := of_decide_eq_true (by first | (with_reducible assumption) | assumption)
                              obtain ⟨ad393, e393, hx393_0⟩ := Kd.at_int HR392_0.out x75_3 p393 q393
                              cases e393
                              (first | replace hx393_0 := (HB.out.cell (World.block_lt_of_cell? w _ hx393_0)).trans hx393_0 | skip)
                              replace p393 := eq_true p393
                              replace q393 := eq_true q393
                              go_wp2_with (first | (go_at_call 35; (with_reducible refine (impl_StepWith.calls k3 (rd (rd_L2 t383 x68_2) x75_3) t381 t394 true _ A26.out).mono ?_); rintro e w' ⟨rfl, ⟨nd, rfl⟩⟩; (try first | exact ⟨rfl, _, World.drewN_drewN _ _ _⟩ | exact ⟨rfl, _, Eq.trans (World.drewN_drewN _ _ _) (congrArg (World.drewN _) (Nat.add_assoc _ _ _))⟩); have p396 : 0 ≤ ((ji29) : Int) := of_decide_eq_true (by first | (with_reducible assumption) | assumption); have q396 : (ji29) < ((rd_L2 t383 x68_2).length : Int) := of_decide_eq_true (by first | (with_reducible assumption) | assumption); obtain ⟨ad396, e396, hx396_0⟩ := Kd.at_int HR392_0.out (ji29) p396 q396; obtain rfl : ad393 = ad396 := (by injection e396); (first | replace hx396_0 := (HB.out.cell (World.block_lt_of_cell? w _ hx396_0)).trans hx396_0 | skip); replace p396 := eq_true p396; replace q396 := eq_true q396; have p397 : 0 ≤ (0 : Int) := (by omega); have q397 : 0 < ((rd_L2 t383 x68_2).length : Int) := of_decide_eq_true (by first | (with_reducible assumption) | assumption); obtain ⟨ad397, e397, hx397_0⟩ := Kd.at_int HR392_0.out 0 p397 q397; obtain rfl : ad393 = ad397 := (by injection e397); have qi397 : (0 < (rd_L2 t383 x68_2).length) = True := eq_true (by omega); (try rw [show ((0 : Int)).toNat = 0 from rfl] at hx397_0); (try rw [Addr.add_zero'] at hx397_0); (first | replace hx397_0 := (HB.out.cell (World.block_lt_of_cell? w _ hx397_0)).trans hx397_0 | skip); replace p397 := eq_true p397; replace q397 := eq_true q397; have p398 : 0 ≤ ((ji36) : Int) := of_decide_eq_true (by first | (with_reducible assumption) | assumption); have q398 : (ji36) < (t383.length : Int) := of_decide_eq_true (by first | (with_reducible assumption) | assumption); obtain ⟨ad398, A398_0, c398_0, e398, hx398_0, hl398_0, hi398_0⟩ := at_L2 (Kd.N_reads' HO_7.out).2.2 (ji36) p398 q398; obtain rfl : ad392 = ad398 := (by injection e398); obtain ⟨ce398, hce398, hMe398, hcc398⟩ := Kd.N_get HO_7.out [] (ji36) p398 (by first | exact q398 | exact of_decide_eq_true (by first | (with_reducible assumption) | assumption) | (have e_ := (Kd.N_reads' HO_7.out).1; omega)); obtain ⟨ua398_0, uc398_0, rfl, ul398_0, ge398_0⟩ := Kd.FK_slice_open hMe398; have hv398_0 := hcc398 0 _ rfl; rw [Nat.add_zero, show ((Kd.slice 3 (Kd.int .i64))).sz = 1 from rfl, Nat.mul_one] at hv398_0; replace hv398_0 := Option.some.inj (hv398_0.symm.trans hx398_0); injection hv398_0 with hva_ hvn_ hvc_; rw [hva_] at ge398_0; rw [hvc_] at ul398_0; have HL398_0 := Aside0.mk (show Kd.V (Kd.int .i64) 3 _ w.heap.size _ _ (rd_L2 t383 (ji36)) from Kd.V_mk ul398_0 ge398_0); clear hva_ hvn_ hvc_ ge398_0 ul398_0; clear hcc398 hce398; have HR398_0 := Aside0.mk hi398_0; have HC398_0 := Aside0.mk hl398_0; clear hi398_0 hl398_0; replace p398 := eq_true p398; replace q398 := eq_true q398; have p399 : 0 ≤ (0 : Int) := (by omega); have q399 : 0 < ((rd_L2 t383 (ji36)).length : Int) := of_decide_eq_true (by first | (with_reducible assumption) | assumption); obtain ⟨ad399, e399, hx399_0⟩ := Kd.at_int (by repeat (first | (with_reducible exact HR398_0.out) | (with_reducible refine Kd.C_alloc ?_ _) | (with_reducible refine Kd.C_drewN ?_ _) | (with_reducible refine Kd.C_drew ?_) | exact HR398_0.out)) 0 p399 q399; cases e399; have qi399 : (0 < (rd_L2 t383 (ji36)).length) = True := eq_true (by omega); (try rw [show ((0 : Int)).toNat = 0 from rfl] at hx399_0); (try rw [Addr.add_zero'] at hx399_0); replace p399 := eq_true p399; replace q399 := eq_true q399; have p400 : 0 ≤ (0 : Int) := (by omega); have q400 : 0 < ((rd_L2 t383 x68_2).length : Int) := of_decide_eq_true (by first | (with_reducible assumption) | assumption); obtain ⟨ad400, e400, hx400_0⟩ := Kd.at_int HR392_0.out 0 p400 q400; obtain rfl : ad393 = ad400 := (by injection e400); have qi400 : (0 < (rd_L2 t383 x68_2).length) = True := eq_true (by omega); (try rw [show ((0 : Int)).toNat = 0 from rfl] at hx400_0); (try rw [Addr.add_zero'] at hx400_0); (first | replace hx400_0 := (HB.out.cell (World.block_lt_of_cell? w _ hx400_0)).trans hx400_0 | skip); replace p400 := eq_true p400; replace q400 := eq_true q400))
                              repeat (go_quiet (first | (go_at_call 35; (with_reducible refine (impl_StepWith.calls k3 (rd (rd_L2 t383 x68_2) x75_3) t381 t394 true _ A26.out).mono ?_); rintro e w' ⟨rfl, ⟨nd, rfl⟩⟩; (try first | exact ⟨rfl, _, World.drewN_drewN _ _ _⟩ | exact ⟨rfl, _, Eq.trans (World.drewN_drewN _ _ _) (congrArg (World.drewN _) (Nat.add_assoc _ _ _))⟩); have p396 : 0 ≤ ((ji29) : Int) := of_decide_eq_true (by first | (with_reducible assumption) | assumption); have q396 : (ji29) < ((rd_L2 t383 x68_2).length : Int) := of_decide_eq_true (by first | (with_reducible assumption) | assumption); obtain ⟨ad396, e396, hx396_0⟩ := Kd.at_int HR392_0.out (ji29) p396 q396; obtain rfl : ad393 = ad396 := (by injection e396); (first | replace hx396_0 := (HB.out.cell (World.block_lt_of_cell? w _ hx396_0)).trans hx396_0 | skip); replace p396 := eq_true p396; replace q396 := eq_true q396; have p397 : 0 ≤ (0 : Int) := (by omega); have q397 : 0 < ((rd_L2 t383 x68_2).length : Int) := of_decide_eq_true (by first | (with_reducible assumption) | assumption); obtain ⟨ad397, e397, hx397_0⟩ := Kd.at_int HR392_0.out 0 p397 q397; obtain rfl : ad393 = ad397 := (by injection e397); have qi397 : (0 < (rd_L2 t383 x68_2).length) = True := eq_true (by omega); (try rw [show ((0 : Int)).toNat = 0 from rfl] at hx397_0); (try rw [Addr.add_zero'] at hx397_0); (first | replace hx397_0 := (HB.out.cell (World.block_lt_of_cell? w _ hx397_0)).trans hx397_0 | skip); replace p397 := eq_true p397; replace q397 := eq_true q397; have p398 : 0 ≤ ((ji36) : Int) := of_decide_eq_true (by first | (with_reducible assumption) | assumption); have q398 : (ji36) < (t383.length : Int) := of_decide_eq_true (by first | (with_reducible assumption) | assumption); obtain ⟨ad398, A398_0, c398_0, e398, hx398_0, hl398_0, hi398_0⟩ := at_L2 (Kd.N_reads' HO_7.out).2.2 (ji36) p398 q398; obtain rfl : ad392 = ad398 := (by injection e398); obtain ⟨ce398, hce398, hMe398, hcc398⟩ := Kd.N_get HO_7.out [] (ji36) p398 (by first | exact q398 | exact of_decide_eq_true (by first | (with_reducible assumption) | assumption) | (have e_ := (Kd.N_reads' HO_7.out).1; omega)); obtain ⟨ua398_0, uc398_0, rfl, ul398_0, ge398_0⟩ := Kd.FK_slice_open hMe398; have hv398_0 := hcc398 0 _ rfl; rw [Nat.add_zero, show ((Kd.slice 3 (Kd.int .i64))).sz = 1 from rfl, Nat.mul_one] at hv398_0; replace hv398_0 := Option.some.inj (hv398_0.symm.trans hx398_0); injection hv398_0 with hva_ hvn_ hvc_; rw [hva_] at ge398_0; rw [hvc_] at ul398_0; have HL398_0 := Aside0.mk (show Kd.V (Kd.int .i64) 3 _ w.heap.size _ _ (rd_L2 t383 (ji36)) from Kd.V_mk ul398_0 ge398_0); clear hva_ hvn_ hvc_ ge398_0 ul398_0; clear hcc398 hce398; have HR398_0 := Aside0.mk hi398_0; have HC398_0 := Aside0.mk hl398_0; clear hi398_0 hl398_0; replace p398 := eq_true p398; replace q398 := eq_true q398; have p399 : 0 ≤ (0 : Int) := (by omega); have q399 : 0 < ((rd_L2 t383 (ji36)).length : Int) := of_decide_eq_true (by first | (with_reducible assumption) | assumption); obtain ⟨ad399, e399, hx399_0⟩ := Kd.at_int (by repeat (first | (with_reducible exact HR398_0.out) | (with_reducible refine Kd.C_alloc ?_ _) | (with_reducible refine Kd.C_drewN ?_ _) | (with_reducible refine Kd.C_drew ?_) | exact HR398_0.out)) 0 p399 q399; cases e399; have qi399 : (0 < (rd_L2 t383 (ji36)).length) = True := eq_true (by omega); (try rw [show ((0 : Int)).toNat = 0 from rfl] at hx399_0); (try rw [Addr.add_zero'] at hx399_0); replace p399 := eq_true p399; replace q399 := eq_true q399; have p400 : 0 ≤ (0 : Int) := (by omega); have q400 : 0 < ((rd_L2 t383 x68_2).length : Int) := of_decide_eq_true (by first | (with_reducible assumption) | assumption); obtain ⟨ad400, e400, hx400_0⟩ := Kd.at_int HR392_0.out 0 p400 q400; obtain rfl : ad393 = ad400 := (by injection e400); have qi400 : (0 < (rd_L2 t383 x68_2).length) = True := eq_true (by omega); (try rw [show ((0 : Int)).toNat = 0 from rfl] at hx400_0); (try rw [Addr.add_zero'] at hx400_0); (first | replace hx400_0 := (HB.out.cell (World.block_lt_of_cell? w _ hx400_0)).trans hx400_0 | skip); replace p400 := eq_true p400; replace q400 := eq_true q400)); try go_wp2_with (first | (go_at_call 35; (with_reducible refine (impl_StepWith.calls k3 (rd (rd_L2 t383 x68_2) x75_3) t381 t394 true _ A26.out).mono ?_); rintro e w' ⟨rfl, ⟨nd, rfl⟩⟩; (try first | exact ⟨rfl, _, World.drewN_drewN _ _ _⟩ | exact ⟨rfl, _, Eq.trans (World.drewN_drewN _ _ _) (congrArg (World.drewN _) (Nat.add_assoc _ _ _))⟩); have p396 : 0 ≤ ((ji29) : Int) := of_decide_eq_true (by first | (with_reducible assumption) | assumption); have q396 : (ji29) < ((rd_L2 t383 x68_2).length : Int) := of_decide_eq_true (by first | (with_reducible assumption) | assumption); obtain ⟨ad396, e396, hx396_0⟩ := Kd.at_int HR392_0.out (ji29) p396 q396; obtain rfl : ad393 = ad396 := (by injection e396); (first | replace hx396_0 := (HB.out.cell (World.block_lt_of_cell? w _ hx396_0)).trans hx396_0 | skip); replace p396 := eq_true p396; replace q396 := eq_true q396; have p397 : 0 ≤ (0 : Int) := (by omega); have q397 : 0 < ((rd_L2 t383 x68_2).length : Int) := of_decide_eq_true (by first | (with_reducible assumption) | assumption); obtain ⟨ad397, e397, hx397_0⟩ := Kd.at_int HR392_0.out 0 p397 q397; obtain rfl : ad393 = ad397 := (by injection e397); have qi397 : (0 < (rd_L2 t383 x68_2).length) = True := eq_true (by omega); (try rw [show ((0 : Int)).toNat = 0 from rfl] at hx397_0); (try rw [Addr.add_zero'] at hx397_0); (first | replace hx397_0 := (HB.out.cell (World.block_lt_of_cell? w _ hx397_0)).trans hx397_0 | skip); replace p397 := eq_true p397; replace q397 := eq_true q397; have p398 : 0 ≤ ((ji36) : Int) := of_decide_eq_true (by first | (with_reducible assumption) | assumption); have q398 : (ji36) < (t383.length : Int) := of_decide_eq_true (by first | (with_reducible assumption) | assumption); obtain ⟨ad398, A398_0, c398_0, e398, hx398_0, hl398_0, hi398_0⟩ := at_L2 (Kd.N_reads' HO_7.out).2.2 (ji36) p398 q398; obtain rfl : ad392 = ad398 := (by injection e398); obtain ⟨ce398, hce398, hMe398, hcc398⟩ := Kd.N_get HO_7.out [] (ji36) p398 (by first | exact q398 | exact of_decide_eq_true (by first | (with_reducible assumption) | assumption) | (have e_ := (Kd.N_reads' HO_7.out).1; omega)); obtain ⟨ua398_0, uc398_0, rfl, ul398_0, ge398_0⟩ := Kd.FK_slice_open hMe398; have hv398_0 := hcc398 0 _ rfl; rw [Nat.add_zero, show ((Kd.slice 3 (Kd.int .i64))).sz = 1 from rfl, Nat.mul_one] at hv398_0; replace hv398_0 := Option.some.inj (hv398_0.symm.trans hx398_0); injection hv398_0 with hva_ hvn_ hvc_; rw [hva_] at ge398_0; rw [hvc_] at ul398_0; have HL398_0 := Aside0.mk (show Kd.V (Kd.int .i64) 3 _ w.heap.size _ _ (rd_L2 t383 (ji36)) from Kd.V_mk ul398_0 ge398_0); clear hva_ hvn_ hvc_ ge398_0 ul398_0; clear hcc398 hce398; have HR398_0 := Aside0.mk hi398_0; have HC398_0 := Aside0.mk hl398_0; clear hi398_0 hl398_0; replace p398 := eq_true p398; replace q398 := eq_true q398; have p399 : 0 ≤ (0 : Int) := (by omega); have q399 : 0 < ((rd_L2 t383 (ji36)).length : Int) := of_decide_eq_true (by first | (with_reducible assumption) | assumption); obtain ⟨ad399, e399, hx399_0⟩ := Kd.at_int (by repeat (first | (with_reducible exact HR398_0.out) | (with_reducible refine Kd.C_alloc ?_ _) | (with_reducible refine Kd.C_drewN ?_ _) | (with_reducible refine Kd.C_drew ?_) | exact HR398_0.out)) 0 p399 q399; cases e399; have qi399 : (0 < (rd_L2 t383 (ji36)).length) = True := eq_true (by omega); (try rw [show ((0 : Int)).toNat = 0 from rfl] at hx399_0); (try rw [Addr.add_zero'] at hx399_0); replace p399 := eq_true p399; replace q399 := eq_true q399; have p400 : 0 ≤ (0 : Int) := (by omega); have q400 : 0 < ((rd_L2 t383 x68_2).length : Int) := of_decide_eq_true (by first | (with_reducible assumption) | assumption); obtain ⟨ad400, e400, hx400_0⟩ := Kd.at_int HR392_0.out 0 p400 q400; obtain rfl : ad393 = ad400 := (by injection e400); have qi400 : (0 < (rd_L2 t383 x68_2).length) = True := eq_true (by omega); (try rw [show ((0 : Int)).toNat = 0 from rfl] at hx400_0); (try rw [Addr.add_zero'] at hx400_0); (first | replace hx400_0 := (HB.out.cell (World.block_lt_of_cell? w _ hx400_0)).trans hx400_0 | skip); replace p400 := eq_true p400; replace q400 := eq_true q400)))
                              go_roundg k3
                              case measure => have := HJ7.out; have := HK2.out; have := HK3.out; omega
                              case rel => exact ⟨(wrap64 (x75_3 + 1)), (by first | rfl | (simp; done) | (simp [*]; done)), H', ⟨by have := HJ7.out; have := HK2.out; have := HK3.out; omega⟩, ⟨by (with_reducible repeat (first | apply Kd.N_alloc | apply Kd.N_drewN | apply Kd.N_drew)); exact HO_7.out⟩, ⟨by (with_reducible repeat (first | apply Kd.N_alloc | apply Kd.N_drewN | apply Kd.N_drew)); exact HO_66.out⟩, ⟨by repeat (first | (with_reducible exact HR392_0.out) | (with_reducible refine Kd.C_alloc ?_ _) | (with_reducible refine Kd.C_drewN ?_ _) | (with_reducible refine Kd.C_drew ?_) | exact HR392_0.out)⟩, ⟨by repeat (first | (with_reducible first | exact HB.out | apply below_alloc | apply pw_below_drewN | apply below_drew1) | exact HB.out)⟩⟩
                           ·rw [if_neg c39] at H
                            exact absurd H (by simp)
                          ·rw [if_neg c38] at H
                           exact absurd H (by simp)
                         ·rw [if_neg c37] at H
                          exact absurd H (by simp)
                        ·rw [if_neg c35] at H
                         have c35b0 : decide (0 < x68_2) = false := decide_eq_false c35
                         clear c35
                         as_aux_lemma =>
                          have H' := Aside0.mk H
                          clear H
                          have p393 : 0 ≤ (x75_3 : Int) := of_decide_eq_true (by first | (with_reducible assumption) | assumption)
                          have q393 : x75_3 < ((rd_L2 t383 x68_2).length : Int) := of_decide_eq_true (by first | (with_reducible assumption) | assumption)
                          obtain ⟨ad393, e393, hx393_0⟩ := Kd.at_int HR392_0.out x75_3 p393 q393
                          cases e393
                          (first | replace hx393_0 := (HB.out.cell (World.block_lt_of_cell? w _ hx393_0)).trans hx393_0 | skip)
                          replace p393 := eq_true p393
                          replace q393 := eq_true q393
                          go_wp2_with (first | (go_at_call 35; (with_reducible refine (impl_StepWith.calls k3 (rd (rd_L2 t383 x68_2) x75_3) t381 t394 true _ A26.out).mono ?_); rintro e w' ⟨rfl, ⟨nd, rfl⟩⟩; (try first | exact ⟨rfl, _, World.drewN_drewN _ _ _⟩ | exact ⟨rfl, _, Eq.trans (World.drewN_drewN _ _ _) (congrArg (World.drewN _) (Nat.add_assoc _ _ _))⟩); have p396 : 0 ≤ ((ji29) : Int) := of_decide_eq_true (by first | (with_reducible assumption) | assumption); have q396 : (ji29) < ((rd_L2 t383 x68_2).length : Int) := of_decide_eq_true (by first | (with_reducible assumption) | assumption); obtain ⟨ad396, e396, hx396_0⟩ := Kd.at_int HR392_0.out (ji29) p396 q396; obtain rfl : ad393 = ad396 := (by injection e396); (first | replace hx396_0 := (HB.out.cell (World.block_lt_of_cell? w _ hx396_0)).trans hx396_0 | skip); replace p396 := eq_true p396; replace q396 := eq_true q396; have p397 : 0 ≤ (0 : Int) := (by omega); have q397 : 0 < ((rd_L2 t383 x68_2).length : Int) := of_decide_eq_true (by first | (with_reducible assumption) | assumption); obtain ⟨ad397, e397, hx397_0⟩ := Kd.at_int HR392_0.out 0 p397 q397; obtain rfl : ad393 = ad397 := (by injection e397); have qi397 : (0 < (rd_L2 t383 x68_2).length) = True := eq_true (by omega); (try rw [show ((0 : Int)).toNat = 0 from rfl] at hx397_0); (try rw [Addr.add_zero'] at hx397_0); (first | replace hx397_0 := (HB.out.cell (World.block_lt_of_cell? w _ hx397_0)).trans hx397_0 | skip); replace p397 := eq_true p397; replace q397 := eq_true q397))
                          repeat (go_quiet (first | (go_at_call 35; (with_reducible refine (impl_StepWith.calls k3 (rd (rd_L2 t383 x68_2) x75_3) t381 t394 true _ A26.out).mono ?_); rintro e w' ⟨rfl, ⟨nd, rfl⟩⟩; (try first | exact ⟨rfl, _, World.drewN_drewN _ _ _⟩ | exact ⟨rfl, _, Eq.trans (World.drewN_drewN _ _ _) (congrArg (World.drewN _) (Nat.add_assoc _ _ _))⟩); have p396 : 0 ≤ ((ji29) : Int) := of_decide_eq_true (by first | (with_reducible assumption) | assumption); have q396 : (ji29) < ((rd_L2 t383 x68_2).length : Int) := of_decide_eq_true (by first | (with_reducible assumption) | assumption); obtain ⟨ad396, e396, hx396_0⟩ := Kd.at_int HR392_0.out (ji29) p396 q396; obtain rfl : ad393 = ad396 := (by injection e396); (first | replace hx396_0 := (HB.out.cell (World.block_lt_of_cell? w _ hx396_0)).trans hx396_0 | skip); replace p396 := eq_true p396; replace q396 := eq_true q396; have p397 : 0 ≤ (0 : Int) := (by omega); have q397 : 0 < ((rd_L2 t383 x68_2).length : Int) := of_decide_eq_true (by first | (with_reducible assumption) | assumption); obtain ⟨ad397, e397, hx397_0⟩ := Kd.at_int HR392_0.out 0 p397 q397; obtain rfl : ad393 = ad397 := (by injection e397); have qi397 : (0 < (rd_L2 t383 x68_2).length) = True := eq_true (by omega); (try rw [show ((0 : Int)).toNat = 0 from rfl] at hx397_0); (try rw [Addr.add_zero'] at hx397_0); (first | replace hx397_0 := (HB.out.cell (World.block_lt_of_cell? w _ hx397_0)).trans hx397_0 | skip); replace p397 := eq_true p397; replace q397 := eq_true q397)); try go_wp2_with (first | (go_at_call 35; (with_reducible refine (impl_StepWith.calls k3 (rd (rd_L2 t383 x68_2) x75_3) t381 t394 true _ A26.out).mono ?_); rintro e w' ⟨rfl, ⟨nd, rfl⟩⟩; (try first | exact ⟨rfl, _, World.drewN_drewN _ _ _⟩ | exact ⟨rfl, _, Eq.trans (World.drewN_drewN _ _ _) (congrArg (World.drewN _) (Nat.add_assoc _ _ _))⟩); have p396 : 0 ≤ ((ji29) : Int) := of_decide_eq_true (by first | (with_reducible assumption) | assumption); have q396 : (ji29) < ((rd_L2 t383 x68_2).length : Int) := of_decide_eq_true (by first | (with_reducible assumption) | assumption); obtain ⟨ad396, e396, hx396_0⟩ := Kd.at_int HR392_0.out (ji29) p396 q396; obtain rfl : ad393 = ad396 := (by injection e396); (first | replace hx396_0 := (HB.out.cell (World.block_lt_of_cell? w _ hx396_0)).trans hx396_0 | skip); replace p396 := eq_true p396; replace q396 := eq_true q396; have p397 : 0 ≤ (0 : Int) := (by omega); have q397 : 0 < ((rd_L2 t383 x68_2).length : Int) := of_decide_eq_true (by first | (with_reducible assumption) | assumption); obtain ⟨ad397, e397, hx397_0⟩ := Kd.at_int HR392_0.out 0 p397 q397; obtain rfl : ad393 = ad397 := (by injection e397); have qi397 : (0 < (rd_L2 t383 x68_2).length) = True := eq_true (by omega); (try rw [show ((0 : Int)).toNat = 0 from rfl] at hx397_0); (try rw [Addr.add_zero'] at hx397_0); (first | replace hx397_0 := (HB.out.cell (World.block_lt_of_cell? w _ hx397_0)).trans hx397_0 | skip); replace p397 := eq_true p397; replace q397 := eq_true q397)))
                          go_roundg k3
                          case measure => have := HJ7.out; have := HK2.out; have := HK3.out; omega
                          case rel => exact ⟨(wrap64 (x75_3 + 1)), (by first | rfl | (simp; done) | (simp [*]; done)), H', ⟨by have := HJ7.out; have := HK2.out; have := HK3.out; omega⟩, ⟨by (with_reducible repeat (first | apply Kd.N_alloc | apply Kd.N_drewN | apply Kd.N_drew)); exact HO_7.out⟩, ⟨by (with_reducible repeat (first | apply Kd.N_alloc | apply Kd.N_drewN | apply Kd.N_drew)); exact HO_66.out⟩, ⟨by repeat (first | (with_reducible exact HR392_0.out) | (with_reducible refine Kd.C_alloc ?_ _) | (with_reducible refine Kd.C_drewN ?_ _) | (with_reducible refine Kd.C_drew ?_) | exact HR392_0.out)⟩, ⟨by repeat (first | (with_reducible first | exact HB.out | apply below_alloc | apply pw_below_drewN | apply below_drew1) | exact HB.out)⟩⟩
                      ·rw [if_neg c33] at H
                       exact absurd H (by simp)
                     ·rw [if_neg c32] at H
                      have c32b0 : (t394 == (rd (rd_L2 t383 x68_2) (ji29))) = false := beq_eq_false_iff_ne.mpr c32
                      have c32b1 : (t394 != (rd (rd_L2 t383 x68_2) (ji29))) = true := bne_iff_ne.mpr c32
                      exact absurd (Option.some.inj H) (by rw [HR_.out]; decide)
                    ·rw [if_neg c31] at H
                     exact absurd H (by simp)
                   ·rw [if_neg c30] at H
                    exact absurd H (by simp)
                 ·replace c27 := Bool.eq_false_iff.mpr c27
                  subst c27
                  have H1 : (some false) = some r := by rw [if_neg (show ¬ (false = true) by decide)] at H; exact H
                  clear H
                  have H := H1
                  clear H1
                  exact absurd (Option.some.inj H) (by rw [HR_.out]; decide)
                ·rw [if_neg c25] at H
                 exact absurd H (by simp)
               ·rw [if_neg c24] at H
                exact absurd H (by simp)
              ·rw [if_neg c23] at H
               have c23b0 : decide (x75_3 < ((rd_L2 t383 x68_2).length : Int)) = false := decide_eq_false c23
               clear c23
               as_aux_lemma =>
                have H' := Aside0.mk H
                clear H
                go_wp2
                repeat (go_quiet (fail); try go_wp2)
                go_roundg k3
                case measure => have := HJ7.out; have := HK2.out; have := HK3.out; omega
                case rel => exact ⟨(wrap64 (x68_2 + 1)), (by first | rfl | (simp; done) | (simp [*]; done)), H', ⟨by have := HJ7.out; have := HK2.out; have := HK3.out; omega⟩, ⟨by (with_reducible repeat (first | apply Kd.N_alloc | apply Kd.N_drewN | apply Kd.N_drew)); exact HO_7.out⟩, ⟨by (with_reducible repeat (first | apply Kd.N_alloc | apply Kd.N_drewN | apply Kd.N_drew)); exact HO_66.out⟩, ⟨by repeat (first | (with_reducible first | exact HB.out | apply below_alloc | apply pw_below_drewN | apply below_drew1) | exact HB.out)⟩⟩
           ·rw [if_neg c22] at H
            exact absurd H (by simp)
          ·rw [if_neg c21] at H
           exact absurd H (by simp)
         ·rw [if_neg c20] at H
          have c20b0 : decide (x68_2 < (t383.length : Int)) = false := decide_eq_false c20
          clear c20
          (first | rw [c20b0] | (simp only [i64_w, i32_w]; rw [c20b0]) | skip)
          have HC41 := Aside0.mk H
          clear H
          go_upto_region 20 with (fail)
          repeat (go_quiet (fail); go_upto_region 20 with (fail))
          go_cut [140] (fun v140 wc => ∃ (kq : Nat) (x140_40 : Bool), v140 = .bool x140_40 ∧ Aside0 (laws_FnOtherCycles.j3 kq l1 t381 t382 t383 x140_40 = some r) ∧ Aside0 (kq ≤ k2) ∧ Aside0 (Kd.N (Kd.slice 3 (Kd.int .i64)) 25 wc w.heap.size (fun _ => True) (.slice Ao19 t383.length co19) t383) ∧ Aside0 (Below w.heap.size w wc))
          case first =>
           as_aux_lemma =>
           have H := HC41.out
           clear HC41
           by_cases c42 : t381 = 1
           ·rw [if_pos c42] at H
            have c42b0 : (t381 == 1) = true := beq_iff_eq.mpr c42
            have c42b1 : (t381 != 1) = false := bne_eq_false_iff_eq.mpr c42
            clear c42
            (first | rw [c42b0] | (simp only [i64_w, i32_w]; rw [c42b0]) | skip)
            by_cases c43 : (t383.length : Int) = 1
            ·rw [if_pos c43] at H
             have c43b0 : ((t383.length : Int) == 1) = true := beq_iff_eq.mpr c43
             have c43b1 : ((t383.length : Int) != 1) = false := bne_eq_false_iff_eq.mpr c43
             clear c43
             by_cases c44 : 0 < (t383.length : Int)
             ·rw [if_pos c44] at H
              have c44b0 : decide (0 < (t383.length : Int)) = true := decide_eq_true c44
              have c44b1 : decide (0 < t383.length) = true := decide_eq_true (by omega)
              clear c44
              by_cases c45 : 0 < ((rd_L2 t383 0).length : Int)
              ·rw [if_pos c45] at H
               have c45b0 : decide (0 < ((rd_L2 t383 0).length : Int)) = true := decide_eq_true c45
               have c45b1 : decide (0 < (rd_L2 t383 0).length) = true := decide_eq_true (by omega)
               clear c45
               as_aux_lemma =>
                have H' := Aside0.mk H
                clear H
                have p401 : 0 ≤ (0 : Int) := (by omega)
                have q401 : 0 < (t383.length : Int) := of_decide_eq_true (by first | (with_reducible assumption) | assumption)
                obtain ⟨ad401, A401_0, c401_0, e401, hx401_0, hl401_0, hi401_0⟩ := at_L2 (Kd.N_reads' HO_7.out).2.2 0 p401 q401
                cases e401
                obtain ⟨ce401, hce401, hMe401, hcc401⟩ := Kd.N_get HO_7.out [] 0 p401 (by first | exact q401 | exact of_decide_eq_true (by first | (with_reducible assumption) | assumption) | (have e_ := (Kd.N_reads' HO_7.out).1; omega))
                obtain ⟨ua401_0, uc401_0, rfl, ul401_0, ge401_0⟩ := Kd.FK_slice_open hMe401
                have hv401_0 := hcc401 0 _ rfl
                rw [Nat.add_zero, show ((Kd.slice 3 (Kd.int .i64))).sz = 1 from rfl, Nat.mul_one] at hv401_0
                replace hv401_0 := Option.some.inj (hv401_0.symm.trans hx401_0)
                injection hv401_0 with hva_ hvn_ hvc_
                rw [hva_] at ge401_0
                rw [hvc_] at ul401_0
                have HL401_0 := Aside0.mk (show Kd.V (Kd.int .i64) 3 _ w.heap.size _ _ (rd_L2 t383 0) from Kd.V_mk ul401_0 ge401_0)
                clear hva_ hvn_ hvc_ ge401_0 ul401_0
                clear hcc401 hce401
                have qi401 : (0 < t383.length) = True := eq_true (by omega)
                (try rw [show ((0 : Int)).toNat = 0 from rfl] at hx401_0)
                (try rw [Addr.add_zero'] at hx401_0)
                have HR401_0 := Aside0.mk hi401_0
                have HC401_0 := Aside0.mk hl401_0
                clear hi401_0 hl401_0
                replace p401 := eq_true p401
                replace q401 := eq_true q401
                have p402 : 0 ≤ (0 : Int) := (by omega)
                have q402 : 0 < ((rd_L2 t383 0).length : Int) := of_decide_eq_true (by first | (with_reducible assumption) | assumption)
                obtain ⟨ad402, e402, hx402_0⟩ := Kd.at_int (by repeat (first | (with_reducible exact HR401_0.out) | (with_reducible refine Kd.C_alloc ?_ _) | (with_reducible refine Kd.C_drewN ?_ _) | (with_reducible refine Kd.C_drew ?_) | exact HR401_0.out)) 0 p402 q402
                cases e402
                have qi402 : (0 < (rd_L2 t383 0).length) = True := eq_true (by omega)
                (try rw [show ((0 : Int)).toNat = 0 from rfl] at hx402_0)
                (try rw [Addr.add_zero'] at hx402_0)
                replace p402 := eq_true p402
                replace q402 := eq_true q402
                go_wp2
                repeat (go_quiet (fail); try go_wp2)
                go_meet
                case rel => exact ⟨_, (((rd (rd_L2 t383 0) 0) != 1)), (by first | rfl | (simp; done) | (simp [*]; done)), H', ⟨by have := HJ7.out; have := HK2.out; first | omega | exact Nat.le_refl _⟩, ⟨by (with_reducible repeat (first | apply Kd.N_alloc | apply Kd.N_drewN | apply Kd.N_drew)); exact HO_7.out⟩, ⟨by repeat (first | (with_reducible first | exact HB.out | apply below_alloc | apply pw_below_drewN | apply below_drew1) | exact HB.out)⟩⟩
              ·rw [if_neg c45] at H
               exact absurd H (by simp)
             ·rw [if_neg c44] at H
              exact absurd H (by simp)
            ·rw [if_neg c43] at H
             have c43b0 : ((t383.length : Int) == 1) = false := beq_eq_false_iff_ne.mpr c43
             have c43b1 : ((t383.length : Int) != 1) = true := bne_iff_ne.mpr c43
             exact (laws_FnOtherCycles.j3_no HR_.out _ _ _ _ _ H).elim
           ·rw [if_neg c42] at H
            have c42b0 : (t381 == 1) = false := beq_eq_false_iff_ne.mpr c42
            have c42b1 : (t381 != 1) = true := bne_iff_ne.mpr c42
            (first | rw [c42b0] | (simp only [i64_w, i32_w]; rw [c42b0]) | skip)
            as_aux_lemma =>
             have H' := Aside0.mk H
             clear H
             go_wp2
             repeat (go_quiet (fail); try go_wp2)
             go_meet
             case rel => exact ⟨_, (false), (by first | rfl | (simp; done) | (simp [*]; done)), H', ⟨by have := HJ7.out; have := HK2.out; first | omega | exact Nat.le_refl _⟩, ⟨by (with_reducible repeat (first | apply Kd.N_alloc | apply Kd.N_drewN | apply Kd.N_drew)); exact HO_7.out⟩, ⟨by repeat (first | (with_reducible first | exact HB.out | apply below_alloc | apply pw_below_drewN | apply below_drew1) | exact HB.out)⟩⟩
          case rest =>
           as_aux_lemma =>
           clear HC41
           try clear c1
           try clear c2
           try clear p2
           try clear c3
           try clear p3
           try clear q3
           try clear hx3
           try clear qi3
           try clear c4
           try clear p4
           try clear q4
           try clear hx4
           try clear qi4
           try clear p6
           try clear c12
           try clear c12b0
           try clear c12b1
           try clear c12b2
           try clear c16
           try clear c18
           try clear c20
           try clear c20b0
           try clear c21
           try clear c21b0
           try clear c22
           try clear c22b0
           try clear c23
           try clear c23b0
           try clear c24
           try clear c24b0
           try clear c25
           try clear c25b0
           try clear c27
           try clear c28
           try clear c28b0
           try clear c28b1
           try clear c28b2
           try clear c30
           try clear c30b0
           try clear c31
           try clear c31b0
           try clear c32
           try clear c32b0
           try clear c32b1
           try clear c33
           try clear c33b0
           try clear c33b1
           try clear c34
           try clear c34b0
           try clear c35
           try clear c35b0
           try clear c37
           try clear c37b0
           try clear c38
           try clear c38b0
           try clear c39
           try clear c39b0
           try clear c39b1
           try clear p39
           try clear q39
           try clear hx39
           try clear qi39
           try clear c40
           try clear c40b0
           try clear p40
           try clear q40
           try clear hx40
           try clear qi40
           try clear c42
           try clear c42b0
           try clear c42b1
           try clear c43
           try clear c43b0
           try clear c43b1
           try clear c44
           try clear c44b0
           try clear c44b1
           try clear c45
           try clear c45b0
           try clear c45b1
           try clear hx392_0
           try clear hx393_0
           try clear hx396_0
           try clear hx397_0
           try clear hx398_0
           try clear hx399_0
           try clear hx400_0
           try clear hx401_0
           try clear hx402_0
           try clear p2
           try clear p3
           try clear p392
           try clear p393
           try clear p396
           try clear p397
           try clear p398
           try clear p399
           try clear p400
           try clear p401
           try clear p402
           try clear q3
           try clear q392
           try clear q393
           try clear q396
           try clear q397
           try clear q398
           try clear q399
           try clear q400
           try clear q401
           try clear q402
           obtain ⟨kq, x140_40, rfl, HA, HJ40, HO_7, HB⟩ := hcut
           cases kq with
           | zero => exact absurd HA.out (by simp [laws_FnOtherCycles.j3])
           | succ kj40 =>
            have H := HA.out
            clear HA
            simp only [laws_FnOtherCycles.j3] at H
            by_cases c46 : x140_40 = true
            ·subst c46
             have H1 : (some false) = some r := by rw [if_pos rfl] at H; exact H
             clear H
             have H := H1
             clear H1
             exact absurd (Option.some.inj H) (by rw [HR_.out]; decide)
            ·replace c46 := Bool.eq_false_iff.mpr c46
             subst c46
             have H1 : (if t381 ≤ t382 then (laws_FnOtherCycles.l2 kj40 l1 t381 false t383 (t383.length : Int) 0) else (laws_FnOtherCycles.j5 kj40 l1)) = some r := by rw [if_neg (show ¬ (false = true) by decide)] at H; exact H
             clear H
             have H := H1
             clear H1
             by_cases c47 : t381 ≤ t382
             ·rw [if_pos c47] at H
              have c47b0 : decide (t381 ≤ t382) = true := decide_eq_true c47
              clear c47
              have H' := Aside0.mk H
              clear H
              go_wp2
              repeat (go_quiet (fail); try go_wp2)
              go_loopg [17, 146] kj40 (fun kq v17 v146 w' => ∃ (x17_4 : Bool) (x146_4 : Int), v17 = .bool x17_4 ∧ v146 = .int .i64 x146_4 ∧ Aside0 (laws_FnOtherCycles.l2 kq l1 t381 x17_4 t383 (t383.length : Int) x146_4 = some r) ∧ Aside0 (kq ≤ kj40) ∧ Aside0 (Kd.N (Kd.slice 3 (Kd.int .i64)) 25 w' w.heap.size (fun _ => True) (.slice Ao19 t383.length co19) t383) ∧ Aside0 (Below w.heap.size w w'))
              case atStart => exact ⟨(false), (0), (by first | rfl | (simp; done) | (simp [*]; done)), (by first | rfl | (simp; done) | (simp [*]; done)), H', ⟨Nat.le_refl _⟩, ⟨by (with_reducible repeat (first | apply Kd.N_alloc | apply Kd.N_drewN | apply Kd.N_drew)); exact HO_7.out⟩, ⟨by repeat (first | (with_reducible first | exact HB.out | apply below_alloc | apply pw_below_drewN | apply below_drew1) | exact HB.out)⟩⟩
              case round =>
               as_aux_lemma =>
               clear H'
               try clear c1
               try clear c2
               try clear p2
               try clear c3
               try clear p3
               try clear q3
               try clear hx3
               try clear qi3
               try clear c4
               try clear p4
               try clear q4
               try clear hx4
               try clear qi4
               try clear p6
               try clear c12
               try clear c12b0
               try clear c12b1
               try clear c12b2
               try clear c16
               try clear c18
               try clear c20
               try clear c20b0
               try clear c21
               try clear c21b0
               try clear c22
               try clear c22b0
               try clear c23
               try clear c23b0
               try clear c24
               try clear c24b0
               try clear c25
               try clear c25b0
               try clear c27
               try clear c28
               try clear c28b0
               try clear c28b1
               try clear c28b2
               try clear c30
               try clear c30b0
               try clear c31
               try clear c31b0
               try clear c32
               try clear c32b0
               try clear c32b1
               try clear c33
               try clear c33b0
               try clear c33b1
               try clear c34
               try clear c34b0
               try clear c35
               try clear c35b0
               try clear c37
               try clear c37b0
               try clear c38
               try clear c38b0
               try clear c39
               try clear c39b0
               try clear c39b1
               try clear p39
               try clear q39
               try clear hx39
               try clear qi39
               try clear c40
               try clear c40b0
               try clear p40
               try clear q40
               try clear hx40
               try clear qi40
               try clear c42
               try clear c42b0
               try clear c42b1
               try clear c43
               try clear c43b0
               try clear c43b1
               try clear c44
               try clear c44b0
               try clear c44b1
               try clear c45
               try clear c45b0
               try clear c45b1
               try clear c46
               try clear c47
               try clear c47b0
               try clear hx392_0
               try clear hx393_0
               try clear hx396_0
               try clear hx397_0
               try clear hx398_0
               try clear hx399_0
               try clear hx400_0
               try clear hx401_0
               try clear hx402_0
               try clear p2
               try clear p3
               try clear p39
               try clear p392
               try clear p393
               try clear p396
               try clear p397
               try clear p398
               try clear p399
               try clear p4
               try clear p40
               try clear p400
               try clear p401
               try clear p402
               try clear p6
               try clear q3
               try clear q39
               try clear q392
               try clear q393
               try clear q396
               try clear q397
               try clear q398
               try clear q399
               try clear q4
               try clear q40
               try clear q400
               try clear q401
               try clear q402
               obtain ⟨x17_4, x146_4, rfl, rfl, HA, HK4, HO_144, HB⟩ := hrel
               cases gk with
               | zero => exact absurd HA.out (by simp [laws_FnOtherCycles.l2])
               | succ k4 =>
                have H := HA.out
                clear HA
                simp only [laws_FnOtherCycles.l2] at H
                by_cases c48 : x146_4 < (t383.length : Int)
                ·rw [if_pos c48] at H
                 have c48b0 : decide (x146_4 < (t383.length : Int)) = true := decide_eq_true c48
                 clear c48
                 by_cases c49 : 0 ≤ x146_4
                 ·rw [if_pos c49] at H
                  have c49b0 : decide (0 ≤ x146_4) = true := decide_eq_true c49
                  clear c49
                  by_cases c50 : x146_4 < (t383.length : Int)
                  ·rw [if_pos c50] at H
                   have c50b0 : decide (x146_4 < (t383.length : Int)) = true := decide_eq_true c50
                   clear c50
                   by_cases c51 : x17_4 = true
                   ·subst c51
                    have H1 : (laws_FnOtherCycles.l2 k4 l1 t381 true t383 (t383.length : Int) (wrap64 (x146_4 + 1))) = some r := by rw [if_pos rfl] at H; exact H
                    clear H
                    have H := H1
                    clear H1
                    as_aux_lemma =>
                     have H' := Aside0.mk H
                     clear H
                     have p403 : 0 ≤ (x146_4 : Int) := of_decide_eq_true (by first | (with_reducible assumption) | assumption)
                     have q403 : x146_4 < (t383.length : Int) := of_decide_eq_true (by first | (with_reducible assumption) | assumption)
                     obtain ⟨ad403, A403_0, c403_0, e403, hx403_0, hl403_0, hi403_0⟩ := at_L2 (Kd.N_reads' HO_144.out).2.2 x146_4 p403 q403
                     cases e403
                     obtain ⟨ce403, hce403, hMe403, hcc403⟩ := Kd.N_get HO_144.out [] x146_4 p403 (by first | exact q403 | exact of_decide_eq_true (by first | (with_reducible assumption) | assumption) | (have e_ := (Kd.N_reads' HO_144.out).1; omega))
                     obtain ⟨ua403_0, uc403_0, rfl, ul403_0, ge403_0⟩ := Kd.FK_slice_open hMe403
                     have hv403_0 := hcc403 0 _ rfl
                     rw [Nat.add_zero, show ((Kd.slice 3 (Kd.int .i64))).sz = 1 from rfl, Nat.mul_one] at hv403_0
                     replace hv403_0 := Option.some.inj (hv403_0.symm.trans hx403_0)
                     injection hv403_0 with hva_ hvn_ hvc_
                     rw [hva_] at ge403_0
                     rw [hvc_] at ul403_0
                     have HL403_0 := Aside0.mk (show Kd.V (Kd.int .i64) 3 _ w.heap.size _ _ (rd_L2 t383 x146_4) from Kd.V_mk ul403_0 ge403_0)
                     clear hva_ hvn_ hvc_ ge403_0 ul403_0
                     clear hcc403 hce403
                     have HR403_0 := Aside0.mk hi403_0
                     have HC403_0 := Aside0.mk hl403_0
                     clear hi403_0 hl403_0
                     replace p403 := eq_true p403
                     replace q403 := eq_true q403
                     go_wp2
                     repeat (go_quiet (fail); try go_wp2)
                     go_roundg k4
                     case measure => have := HJ7.out; have := HK2.out; have := HJ40.out; have := HK4.out; omega
                     case rel => exact ⟨(true), (wrap64 (x146_4 + 1)), (by first | rfl | (simp; done) | (simp [*]; done)), (by first | rfl | (simp; done) | (simp [*]; done)), H', ⟨by have := HJ7.out; have := HK2.out; have := HJ40.out; have := HK4.out; omega⟩, ⟨by (with_reducible repeat (first | apply Kd.N_alloc | apply Kd.N_drewN | apply Kd.N_drew)); exact HO_144.out⟩, ⟨by repeat (first | (with_reducible first | exact HB.out | apply below_alloc | apply pw_below_drewN | apply below_drew1) | exact HB.out)⟩⟩
                   ·replace c51 := Bool.eq_false_iff.mpr c51
                    subst c51
                    have H1 : ((laws_rSame.f k4 (rd_L2 t383 x146_4) (([t381, wrap64 (4 * t381), wrap64 (2 * t381)] : List Int))).bind fun t407 => (laws_FnOtherCycles.l2 k4 l1 t381 t407 t383 (t383.length : Int) (wrap64 (x146_4 + 1)))) = some r := by rw [if_neg (show ¬ (false = true) by decide)] at H; exact H
                    clear H
                    have H := H1
                    clear H1
                    obtain ⟨y404, hy404⟩ : ∃ y_ : List Int, y_ = (([t381, wrap64 (4 * t381), wrap64 (2 * t381)] : List Int)) := ⟨_, rfl⟩
                    replace H : ((laws_rSame.f k4 (rd_L2 t383 x146_4) y404).bind fun t407 => (laws_FnOtherCycles.l2 k4 l1 t381 t407 t383 (t383.length : Int) (wrap64 (x146_4 + 1)))) = some r := by first | (rw [hy404]; with_reducible exact H) | (have H2_ := (Option.bind_some _ _).symm.trans H; rw [hy404]; with_reducible exact H2_) | (have H2_ := (Option.bind_some _ _).symm.trans H; with_reducible exact H2_) | with_reducible exact H | (rw [hy404]; exact H) | exact H
                    have Ny404 := Aside0.mk hy404
                    clear hy404
                    replace H := Option.bind_eq_some_iff.mp H
                    obtain ⟨t407, A520, H⟩ := H
                    replace H : (laws_FnOtherCycles.l2 k4 l1 t381 t407 t383 (t383.length : Int) (wrap64 (x146_4 + 1))) = some r := H
                    have A52 := Aside0.mk A520
                    clear A520
                    as_aux_lemma =>
                     have H' := Aside0.mk H
                     clear H
                     have p403 : 0 ≤ (x146_4 : Int) := of_decide_eq_true (by first | (with_reducible assumption) | assumption)
                     have q403 : x146_4 < (t383.length : Int) := of_decide_eq_true (by first | (with_reducible assumption) | assumption)
                     obtain ⟨ad403, A403_0, c403_0, e403, hx403_0, hl403_0, hi403_0⟩ := at_L2 (Kd.N_reads' HO_144.out).2.2 x146_4 p403 q403
                     cases e403
                     obtain ⟨ce403, hce403, hMe403, hcc403⟩ := Kd.N_get HO_144.out [] x146_4 p403 (by first | exact q403 | exact of_decide_eq_true (by first | (with_reducible assumption) | assumption) | (have e_ := (Kd.N_reads' HO_144.out).1; omega))
                     obtain ⟨ua403_0, uc403_0, rfl, ul403_0, ge403_0⟩ := Kd.FK_slice_open hMe403
                     have hv403_0 := hcc403 0 _ rfl
                     rw [Nat.add_zero, show ((Kd.slice 3 (Kd.int .i64))).sz = 1 from rfl, Nat.mul_one] at hv403_0
                     replace hv403_0 := Option.some.inj (hv403_0.symm.trans hx403_0)
                     injection hv403_0 with hva_ hvn_ hvc_
                     rw [hva_] at ge403_0
                     rw [hvc_] at ul403_0
                     have HL403_0 := Aside0.mk (show Kd.V (Kd.int .i64) 3 _ w.heap.size _ _ (rd_L2 t383 x146_4) from Kd.V_mk ul403_0 ge403_0)
                     clear hva_ hvn_ hvc_ ge403_0 ul403_0
                     clear hcc403 hce403
                     have HR403_0 := Aside0.mk hi403_0
                     have HC403_0 := Aside0.mk hl403_0
                     clear hi403_0 hl403_0
                     replace p403 := eq_true p403
                     replace q403 := eq_true q403
                     go_wp2_with (first | ((with_reducible refine gate_dst (N := 158) rfl ?_); (try (refine gate_guard (by rfl) ?_; dsimp only)); refine Kd.R_lit (Kd.int .i64) _ 3 ?hg (N := 158) ?hd (xs := ([t381, wrap64 (4 * t381), wrap64 (2 * t381)] : List Int)) (inner := [.int .i64 t381, .int .i64 (wrap64 (4 * t381)), .int .i64 (wrap64 (2 * t381))]) (ok := fun _ => True) (okp := fun _ => True) ?hr ?hp (fun _ hk => hk) trivial (Below.refl _ _) (Nat.le_refl _) (by simp) ?_; (case hd => rfl); (case hg => rfl); (case hr => first | (go_simp; done) | (go_simp; rfl)); (case hp => exact (Reps.one (show Kd.M (Kd.int .i64) _ _ _ t381 [.int .i64 t381] from rfl) (Reps.one (show Kd.M (Kd.int .i64) _ _ _ (wrap64 (4 * t381)) [.int .i64 (wrap64 (4 * t381))] from rfl) (Reps.one (show Kd.M (Kd.int .i64) _ _ _ (wrap64 (2 * t381)) [.int .i64 (wrap64 (2 * t381))] from rfl) (Reps.none _ _))))); intro v405 w53 ho54 hb hg_ hnew_; clear hg_ hnew_; (first | rw [← Ny404.out] at ho54 | (simp only [Int.reduceToNat] at ho54; rw [← Ny404.out] at ho54)); have n0_ := Aside0.mk (Kd.N_elder' (by (with_reducible repeat (first | apply Kd.N_alloc | apply Kd.N_drewN | apply Kd.N_drew)); exact HO_144.out) (Kd.R_base ho54) hb); have n1_ := Aside0.mk (Kd.V_elder' (by (with_reducible repeat (first | apply Kd.V_alloc | apply Kd.V_drewN | apply Kd.V_drew)); exact HL403_0.out) (Kd.R_base ho54) hb); have n2_ := Aside0.mk (Kd.R_lower ho54 (below_size (by repeat (first | (with_reducible first | exact HB.out | apply below_alloc | apply pw_below_drewN | apply below_drew1) | exact HB.out)))); have n3_ := Aside0.mk (Kd.C_below (by repeat (first | (with_reducible exact HR403_0.out) | (with_reducible refine Kd.C_alloc ?_ _) | (with_reducible refine Kd.C_drewN ?_ _) | (with_reducible refine Kd.C_drew ?_) | exact HR403_0.out)) hb); have n4_ := Aside0.mk (below_step (by repeat (first | (with_reducible first | exact HB.out | apply below_alloc | apply pw_below_drewN | apply below_drew1) | exact HB.out)) hb); clear HO_144; clear HL403_0; clear HR403_0; clear HB; have HO_144 := n0_; have HL403_0 := n1_; have HO406 := n2_; have HR403_0 := n3_; have HB := n4_; clear n0_ n1_ n2_ n3_ n4_; clear hb ho54; obtain ⟨Ao55, co55, eo55⟩ := Kd.R_slice HO406.out; subst eo55) | (go_at_call 13; (with_reducible refine (laws_rSame.calls k4 _ _ (rd_L2 t383 x146_4) _ _ y404 t407 _ ?side1 ?side2 ?side3 ?side4 A52.out).mono ?_); (case side1 => repeat (first | exact (by repeat (first | (with_reducible exact HR403_0.out) | (with_reducible refine Kd.C_alloc ?_ _) | (with_reducible refine Kd.C_drewN ?_ _) | (with_reducible refine Kd.C_drew ?_) | exact HR403_0.out)) | (with_reducible refine Kd.C_alloc ?_ _) | (with_reducible refine Kd.C_drewN ?_ _) | (with_reducible refine Kd.C_drew ?_))); (case side2 => exact HC403_0.out); (case side3 => repeat (first | exact (Kd.R_reads' HO406.out).2.2 | (with_reducible refine Kd.C_alloc ?_ _) | (with_reducible refine Kd.C_drewN ?_ _) | (with_reducible refine Kd.C_drew ?_))); (case side4 => exact (Kd.R_reads' HO406.out).2.1); rintro e w' ⟨rfl, ⟨nd, rfl⟩⟩; (try first | exact ⟨rfl, _, World.drewN_drewN _ _ _⟩ | exact ⟨rfl, _, Eq.trans (World.drewN_drewN _ _ _) (congrArg (World.drewN _) (Nat.add_assoc _ _ _))⟩)))
                     repeat (go_quiet (first | ((with_reducible refine gate_dst (N := 158) rfl ?_); (try (refine gate_guard (by rfl) ?_; dsimp only)); refine Kd.R_lit (Kd.int .i64) _ 3 ?hg (N := 158) ?hd (xs := ([t381, wrap64 (4 * t381), wrap64 (2 * t381)] : List Int)) (inner := [.int .i64 t381, .int .i64 (wrap64 (4 * t381)), .int .i64 (wrap64 (2 * t381))]) (ok := fun _ => True) (okp := fun _ => True) ?hr ?hp (fun _ hk => hk) trivial (Below.refl _ _) (Nat.le_refl _) (by simp) ?_; (case hd => rfl); (case hg => rfl); (case hr => first | (go_simp; done) | (go_simp; rfl)); (case hp => exact (Reps.one (show Kd.M (Kd.int .i64) _ _ _ t381 [.int .i64 t381] from rfl) (Reps.one (show Kd.M (Kd.int .i64) _ _ _ (wrap64 (4 * t381)) [.int .i64 (wrap64 (4 * t381))] from rfl) (Reps.one (show Kd.M (Kd.int .i64) _ _ _ (wrap64 (2 * t381)) [.int .i64 (wrap64 (2 * t381))] from rfl) (Reps.none _ _))))); intro v405 w53 ho54 hb hg_ hnew_; clear hg_ hnew_; (first | rw [← Ny404.out] at ho54 | (simp only [Int.reduceToNat] at ho54; rw [← Ny404.out] at ho54)); have n0_ := Aside0.mk (Kd.N_elder' (by (with_reducible repeat (first | apply Kd.N_alloc | apply Kd.N_drewN | apply Kd.N_drew)); exact HO_144.out) (Kd.R_base ho54) hb); have n1_ := Aside0.mk (Kd.V_elder' (by (with_reducible repeat (first | apply Kd.V_alloc | apply Kd.V_drewN | apply Kd.V_drew)); exact HL403_0.out) (Kd.R_base ho54) hb); have n2_ := Aside0.mk (Kd.R_lower ho54 (below_size (by repeat (first | (with_reducible first | exact HB.out | apply below_alloc | apply pw_below_drewN | apply below_drew1) | exact HB.out)))); have n3_ := Aside0.mk (Kd.C_below (by repeat (first | (with_reducible exact HR403_0.out) | (with_reducible refine Kd.C_alloc ?_ _) | (with_reducible refine Kd.C_drewN ?_ _) | (with_reducible refine Kd.C_drew ?_) | exact HR403_0.out)) hb); have n4_ := Aside0.mk (below_step (by repeat (first | (with_reducible first | exact HB.out | apply below_alloc | apply pw_below_drewN | apply below_drew1) | exact HB.out)) hb); clear HO_144; clear HL403_0; clear HR403_0; clear HB; have HO_144 := n0_; have HL403_0 := n1_; have HO406 := n2_; have HR403_0 := n3_; have HB := n4_; clear n0_ n1_ n2_ n3_ n4_; clear hb ho54; obtain ⟨Ao55, co55, eo55⟩ := Kd.R_slice HO406.out; subst eo55) | (go_at_call 13; (with_reducible refine (laws_rSame.calls k4 _ _ (rd_L2 t383 x146_4) _ _ y404 t407 _ ?side1 ?side2 ?side3 ?side4 A52.out).mono ?_); (case side1 => repeat (first | exact (by repeat (first | (with_reducible exact HR403_0.out) | (with_reducible refine Kd.C_alloc ?_ _) | (with_reducible refine Kd.C_drewN ?_ _) | (with_reducible refine Kd.C_drew ?_) | exact HR403_0.out)) | (with_reducible refine Kd.C_alloc ?_ _) | (with_reducible refine Kd.C_drewN ?_ _) | (with_reducible refine Kd.C_drew ?_))); (case side2 => exact HC403_0.out); (case side3 => repeat (first | exact (Kd.R_reads' HO406.out).2.2 | (with_reducible refine Kd.C_alloc ?_ _) | (with_reducible refine Kd.C_drewN ?_ _) | (with_reducible refine Kd.C_drew ?_))); (case side4 => exact (Kd.R_reads' HO406.out).2.1); rintro e w' ⟨rfl, ⟨nd, rfl⟩⟩; (try first | exact ⟨rfl, _, World.drewN_drewN _ _ _⟩ | exact ⟨rfl, _, Eq.trans (World.drewN_drewN _ _ _) (congrArg (World.drewN _) (Nat.add_assoc _ _ _))⟩))); try go_wp2_with (first | ((with_reducible refine gate_dst (N := 158) rfl ?_); (try (refine gate_guard (by rfl) ?_; dsimp only)); refine Kd.R_lit (Kd.int .i64) _ 3 ?hg (N := 158) ?hd (xs := ([t381, wrap64 (4 * t381), wrap64 (2 * t381)] : List Int)) (inner := [.int .i64 t381, .int .i64 (wrap64 (4 * t381)), .int .i64 (wrap64 (2 * t381))]) (ok := fun _ => True) (okp := fun _ => True) ?hr ?hp (fun _ hk => hk) trivial (Below.refl _ _) (Nat.le_refl _) (by simp) ?_; (case hd => rfl); (case hg => rfl); (case hr => first | (go_simp; done) | (go_simp; rfl)); (case hp => exact (Reps.one (show Kd.M (Kd.int .i64) _ _ _ t381 [.int .i64 t381] from rfl) (Reps.one (show Kd.M (Kd.int .i64) _ _ _ (wrap64 (4 * t381)) [.int .i64 (wrap64 (4 * t381))] from rfl) (Reps.one (show Kd.M (Kd.int .i64) _ _ _ (wrap64 (2 * t381)) [.int .i64 (wrap64 (2 * t381))] from rfl) (Reps.none _ _))))); intro v405 w53 ho54 hb hg_ hnew_; clear hg_ hnew_; (first | rw [← Ny404.out] at ho54 | (simp only [Int.reduceToNat] at ho54; rw [← Ny404.out] at ho54)); have n0_ := Aside0.mk (Kd.N_elder' (by (with_reducible repeat (first | apply Kd.N_alloc | apply Kd.N_drewN | apply Kd.N_drew)); exact HO_144.out) (Kd.R_base ho54) hb); have n1_ := Aside0.mk (Kd.V_elder' (by (with_reducible repeat (first | apply Kd.V_alloc | apply Kd.V_drewN | apply Kd.V_drew)); exact HL403_0.out) (Kd.R_base ho54) hb); have n2_ := Aside0.mk (Kd.R_lower ho54 (below_size (by repeat (first | (with_reducible first | exact HB.out | apply below_alloc | apply pw_below_drewN | apply below_drew1) | exact HB.out)))); have n3_ := Aside0.mk (Kd.C_below (by repeat (first | (with_reducible exact HR403_0.out) | (with_reducible refine Kd.C_alloc ?_ _) | (with_reducible refine Kd.C_drewN ?_ _) | (with_reducible refine Kd.C_drew ?_) | exact HR403_0.out)) hb); have n4_ := Aside0.mk (below_step (by repeat (first | (with_reducible first | exact HB.out | apply below_alloc | apply pw_below_drewN | apply below_drew1) | exact HB.out)) hb); clear HO_144; clear HL403_0; clear HR403_0; clear HB; have HO_144 := n0_; have HL403_0 := n1_; have HO406 := n2_; have HR403_0 := n3_; have HB := n4_; clear n0_ n1_ n2_ n3_ n4_; clear hb ho54; obtain ⟨Ao55, co55, eo55⟩ := Kd.R_slice HO406.out; subst eo55) | (go_at_call 13; (with_reducible refine (laws_rSame.calls k4 _ _ (rd_L2 t383 x146_4) _ _ y404 t407 _ ?side1 ?side2 ?side3 ?side4 A52.out).mono ?_); (case side1 => repeat (first | exact (by repeat (first | (with_reducible exact HR403_0.out) | (with_reducible refine Kd.C_alloc ?_ _) | (with_reducible refine Kd.C_drewN ?_ _) | (with_reducible refine Kd.C_drew ?_) | exact HR403_0.out)) | (with_reducible refine Kd.C_alloc ?_ _) | (with_reducible refine Kd.C_drewN ?_ _) | (with_reducible refine Kd.C_drew ?_))); (case side2 => exact HC403_0.out); (case side3 => repeat (first | exact (Kd.R_reads' HO406.out).2.2 | (with_reducible refine Kd.C_alloc ?_ _) | (with_reducible refine Kd.C_drewN ?_ _) | (with_reducible refine Kd.C_drew ?_))); (case side4 => exact (Kd.R_reads' HO406.out).2.1); rintro e w' ⟨rfl, ⟨nd, rfl⟩⟩; (try first | exact ⟨rfl, _, World.drewN_drewN _ _ _⟩ | exact ⟨rfl, _, Eq.trans (World.drewN_drewN _ _ _) (congrArg (World.drewN _) (Nat.add_assoc _ _ _))⟩))))
                     go_roundg k4
                     case measure => have := HJ7.out; have := HK2.out; have := HJ40.out; have := HK4.out; omega
                     case rel => exact ⟨(t407), (wrap64 (x146_4 + 1)), (by first | rfl | (simp; done) | (simp [*]; done)), (by first | rfl | (simp; done) | (simp [*]; done)), H', ⟨by have := HJ7.out; have := HK2.out; have := HJ40.out; have := HK4.out; omega⟩, ⟨by (with_reducible repeat (first | apply Kd.N_alloc | apply Kd.N_drewN | apply Kd.N_drew)); exact Kd.N_mono HO_144.out (fun _ hk => trivial)⟩, ⟨by repeat (first | (with_reducible first | exact HB.out | apply below_alloc | apply pw_below_drewN | apply below_drew1) | exact HB.out)⟩⟩
                  ·rw [if_neg c50] at H
                   exact absurd H (by simp)
                 ·rw [if_neg c49] at H
                  exact absurd H (by simp)
                ·rw [if_neg c48] at H
                 have c48b0 : decide (x146_4 < (t383.length : Int)) = false := decide_eq_false c48
                 clear c48
                 by_cases c56 : x17_4 = true
                 ·subst c56
                  have H1 : (laws_FnOtherCycles.j5 k4 l1) = some r := by rw [if_pos rfl] at H; exact H
                  clear H
                  have H := H1
                  clear H1
                  as_aux_lemma =>
                   have H' := Aside0.mk H
                   clear H
                   go_wp2
                   repeat (go_quiet (fail); try go_wp2)
                   go_meet
                   case rel => exact ⟨_, H', ⟨by have := HJ7.out; have := HK2.out; have := HJ40.out; have := HK4.out; first | omega | exact Nat.le_refl _⟩, ⟨by repeat (first | (with_reducible first | exact HB.out | apply below_alloc | apply pw_below_drewN | apply below_drew1) | exact HB.out)⟩⟩
                 ·replace c56 := Bool.eq_false_iff.mpr c56
                  subst c56
                  have H1 : (some false) = some r := by rw [if_neg (show ¬ (false = true) by decide)] at H; exact H
                  clear H
                  have H := H1
                  clear H1
                  exact absurd (Option.some.inj H) (by rw [HR_.out]; decide)
             ·rw [if_neg c47] at H
              have c47b0 : decide (t381 ≤ t382) = false := decide_eq_false c47
              clear c47
              as_aux_lemma =>
               have H' := Aside0.mk H
               clear H
               go_wp2
               repeat (go_quiet (fail); try go_wp2)
               go_meet
               case rel => exact ⟨_, H', ⟨by have := HJ7.out; have := HK2.out; have := HJ40.out; first | omega | exact Nat.le_refl _⟩, ⟨by repeat (first | (with_reducible first | exact HB.out | apply below_alloc | apply pw_below_drewN | apply below_drew1) | exact HB.out)⟩⟩
      ·replace c18 := Bool.eq_false_iff.mpr c18
       subst c18
       have H1 : (laws_FnOtherCycles.j5 kj7 l1) = some r := by rw [if_neg (show ¬ (false = true) by decide)] at H; exact H
       clear H
       have H := H1
       clear H1
       as_aux_lemma =>
        have H' := Aside0.mk H
        clear H
        go_wp2
        repeat (go_quiet (fail); try go_wp2)
        go_meet
        case rel => exact ⟨_, H', ⟨by have := HJ7.out; first | omega | exact Nat.le_refl _⟩, ⟨by repeat (first | (with_reducible first | exact HB.out | apply below_alloc | apply pw_below_drewN | apply below_drew1) | exact HB.out)⟩⟩
     case rest =>
      as_aux_lemma =>
      clear HC17
      try clear c1
      try clear c2
      try clear p2
      try clear c3
      try clear p3
      try clear q3
      try clear hx3
      try clear qi3
      try clear c4
      try clear p4
      try clear q4
      try clear hx4
      try clear qi4
      try clear c5
      try clear p6
      try clear c12
      try clear c12b0
      try clear c12b1
      try clear c12b2
      try clear c16
      try clear c18
      try clear c20
      try clear c20b0
      try clear c21
      try clear c21b0
      try clear c22
      try clear c22b0
      try clear c23
      try clear c23b0
      try clear c24
      try clear c24b0
      try clear c25
      try clear c25b0
      try clear c27
      try clear c28
      try clear c28b0
      try clear c28b1
      try clear c28b2
      try clear c30
      try clear c30b0
      try clear c31
      try clear c31b0
      try clear c32
      try clear c32b0
      try clear c32b1
      try clear c33
      try clear c33b0
      try clear c33b1
      try clear c34
      try clear c34b0
      try clear c35
      try clear c35b0
      try clear c37
      try clear c37b0
      try clear c38
      try clear c38b0
      try clear c39
      try clear c39b0
      try clear c39b1
      try clear p39
      try clear q39
      try clear hx39
      try clear qi39
      try clear c40
      try clear c40b0
      try clear p40
      try clear q40
      try clear hx40
      try clear qi40
      try clear c42
      try clear c42b0
      try clear c42b1
      try clear c43
      try clear c43b0
      try clear c43b1
      try clear c44
      try clear c44b0
      try clear c44b1
      try clear c45
      try clear c45b0
      try clear c45b1
      try clear c46
      try clear c47
      try clear c47b0
      try clear c48
      try clear c48b0
      try clear c49
      try clear c49b0
      try clear c50
      try clear c50b0
      try clear c51
      try clear c56
      try clear hx392_0
      try clear hx393_0
      try clear hx396_0
      try clear hx397_0
      try clear hx398_0
      try clear hx399_0
      try clear hx400_0
      try clear hx401_0
      try clear hx402_0
      try clear hx403_0
      try clear p2
      try clear p3
      try clear p39
      try clear p392
      try clear p393
      try clear p396
      try clear p397
      try clear p398
      try clear p399
      try clear p4
      try clear p40
      try clear p400
      try clear p401
      try clear p402
      try clear p403
      try clear p6
      try clear q3
      try clear q39
      try clear q392
      try clear q393
      try clear q396
      try clear q397
      try clear q398
      try clear q399
      try clear q4
      try clear q40
      try clear q400
      try clear q401
      try clear q402
      try clear q403
      obtain ⟨kq, HA, HJ16, HB⟩ := hcut
      cases kq with
      | zero => exact absurd HA.out (by simp [laws_FnOtherCycles.j5])
      | succ kj16 =>
       have H := HA.out
       clear HA
       simp only [laws_FnOtherCycles.j5] at H
       replace H := Option.bind_eq_some_iff.mp H
       obtain ⟨⟨t408, t409⟩, A570, H⟩ := H
       replace H : ((impl_StepWith.f kj16 t408 t409).bind fun bt410 => ((spec_StepWith.f kj16 t408 t409).bind fun bt412 => ((spec_DrawCycleOfWord.f kj16 l1).bind fun t414 => ((impl_CycleOfWord.f kj16 t414).bind fun bt415 => ((spec_CycleOfWord.f kj16 t414).bind fun bt418 => (if (bt410.2 != bt412.2) = true then (laws_FnOtherCycles.j6 kj16 t414 bt415.1 bt415.2.1 bt415.2.2 true) else (if bt410.1 = bt412.1 then (if (bt415.2.2 != bt418.2.2) = true then (laws_FnOtherCycles.j6 kj16 t414 bt415.1 bt415.2.1 bt415.2.2 true) else (if bt415.1 = bt418.1 then (laws_FnOtherCycles.j6 kj16 t414 bt415.1 bt415.2.1 bt415.2.2 (bt415.2.1 != bt418.2.1)) else (laws_FnOtherCycles.j6 kj16 t414 bt415.1 bt415.2.1 bt415.2.2 true))) else (laws_FnOtherCycles.j6 kj16 t414 bt415.1 bt415.2.1 bt415.2.2 true)))))))) = some r := H
       have A57 := Aside0.mk A570
       clear A570
       replace H := Option.bind_eq_some_iff.mp H
       obtain ⟨⟨t410, t411⟩, A580, H⟩ := H
       replace H : ((spec_StepWith.f kj16 t408 t409).bind fun bt412 => ((spec_DrawCycleOfWord.f kj16 l1).bind fun t414 => ((impl_CycleOfWord.f kj16 t414).bind fun bt415 => ((spec_CycleOfWord.f kj16 t414).bind fun bt418 => (if (t411 != bt412.2) = true then (laws_FnOtherCycles.j6 kj16 t414 bt415.1 bt415.2.1 bt415.2.2 true) else (if t410 = bt412.1 then (if (bt415.2.2 != bt418.2.2) = true then (laws_FnOtherCycles.j6 kj16 t414 bt415.1 bt415.2.1 bt415.2.2 true) else (if bt415.1 = bt418.1 then (laws_FnOtherCycles.j6 kj16 t414 bt415.1 bt415.2.1 bt415.2.2 (bt415.2.1 != bt418.2.1)) else (laws_FnOtherCycles.j6 kj16 t414 bt415.1 bt415.2.1 bt415.2.2 true))) else (laws_FnOtherCycles.j6 kj16 t414 bt415.1 bt415.2.1 bt415.2.2 true))))))) = some r := H
       have A58 := Aside0.mk A580
       clear A580
       replace H := Option.bind_eq_some_iff.mp H
       obtain ⟨⟨t412, t413⟩, A590, H⟩ := H
       replace H : ((spec_DrawCycleOfWord.f kj16 l1).bind fun t414 => ((impl_CycleOfWord.f kj16 t414).bind fun bt415 => ((spec_CycleOfWord.f kj16 t414).bind fun bt418 => (if (t411 != t413) = true then (laws_FnOtherCycles.j6 kj16 t414 bt415.1 bt415.2.1 bt415.2.2 true) else (if t410 = t412 then (if (bt415.2.2 != bt418.2.2) = true then (laws_FnOtherCycles.j6 kj16 t414 bt415.1 bt415.2.1 bt415.2.2 true) else (if bt415.1 = bt418.1 then (laws_FnOtherCycles.j6 kj16 t414 bt415.1 bt415.2.1 bt415.2.2 (bt415.2.1 != bt418.2.1)) else (laws_FnOtherCycles.j6 kj16 t414 bt415.1 bt415.2.1 bt415.2.2 true))) else (laws_FnOtherCycles.j6 kj16 t414 bt415.1 bt415.2.1 bt415.2.2 true)))))) = some r := H
       have A59 := Aside0.mk A590
       clear A590
       replace H := Option.bind_eq_some_iff.mp H
       obtain ⟨t414, A600, H⟩ := H
       replace H : ((impl_CycleOfWord.f kj16 t414).bind fun bt415 => ((spec_CycleOfWord.f kj16 t414).bind fun bt418 => (if (t411 != t413) = true then (laws_FnOtherCycles.j6 kj16 t414 bt415.1 bt415.2.1 bt415.2.2 true) else (if t410 = t412 then (if (bt415.2.2 != bt418.2.2) = true then (laws_FnOtherCycles.j6 kj16 t414 bt415.1 bt415.2.1 bt415.2.2 true) else (if bt415.1 = bt418.1 then (laws_FnOtherCycles.j6 kj16 t414 bt415.1 bt415.2.1 bt415.2.2 (bt415.2.1 != bt418.2.1)) else (laws_FnOtherCycles.j6 kj16 t414 bt415.1 bt415.2.1 bt415.2.2 true))) else (laws_FnOtherCycles.j6 kj16 t414 bt415.1 bt415.2.1 bt415.2.2 true))))) = some r := H
       have A60 := Aside0.mk A600
       clear A600
       replace H := Option.bind_eq_some_iff.mp H
       obtain ⟨⟨t415, t416, t417⟩, A610, H⟩ := H
       replace H : ((spec_CycleOfWord.f kj16 t414).bind fun bt418 => (if (t411 != t413) = true then (laws_FnOtherCycles.j6 kj16 t414 t415 t416 t417 true) else (if t410 = t412 then (if (t417 != bt418.2.2) = true then (laws_FnOtherCycles.j6 kj16 t414 t415 t416 t417 true) else (if t415 = bt418.1 then (laws_FnOtherCycles.j6 kj16 t414 t415 t416 t417 (t416 != bt418.2.1)) else (laws_FnOtherCycles.j6 kj16 t414 t415 t416 t417 true))) else (laws_FnOtherCycles.j6 kj16 t414 t415 t416 t417 true)))) = some r := H
       have A61 := Aside0.mk A610
       clear A610
       replace H := Option.bind_eq_some_iff.mp H
       obtain ⟨⟨t418, t419, t420⟩, A620, H⟩ := H
       replace H : (if (t411 != t413) = true then (laws_FnOtherCycles.j6 kj16 t414 t415 t416 t417 true) else (if t410 = t412 then (if (t417 != t420) = true then (laws_FnOtherCycles.j6 kj16 t414 t415 t416 t417 true) else (if t415 = t418 then (laws_FnOtherCycles.j6 kj16 t414 t415 t416 t417 (t416 != t419)) else (laws_FnOtherCycles.j6 kj16 t414 t415 t416 t417 true))) else (laws_FnOtherCycles.j6 kj16 t414 t415 t416 t417 true))) = some r := H
       have A62 := Aside0.mk A620
       clear A620
       have HC63 := Aside0.mk H
       clear H
       go_upto_region 37 with (first | (go_at_call 36; (with_reducible refine (spec_DrawStepWith.calls kj16 _ _ l1 t408 t409 _ ?side1 ?side2 A57.out).mono ?_); (case side1 => repeat (first | exact (Kd.C_below HR1.out HB.out) | (with_reducible refine Kd.C_alloc ?_ _) | (with_reducible refine Kd.C_drewN ?_ _) | (with_reducible refine Kd.C_drew ?_))); (case side2 => exact HC1.out); rintro e w64 ⟨rfl, hb⟩; have n0_ := Aside0.mk (below_step (by repeat (first | (with_reducible first | exact HB.out | apply below_alloc | apply pw_below_drewN | apply below_drew1) | exact HB.out)) hb); clear HB; have HB := n0_; clear n0_; (try clear hb); (try clear hb2); (try clear hk); (try clear hi)) | (go_at_call 35; (with_reducible refine (impl_StepWith.calls kj16 t408 t409 t410 t411 _ A58.out).mono ?_); rintro e w' ⟨rfl, ⟨nd, rfl⟩⟩; (try first | exact ⟨rfl, _, World.drewN_drewN _ _ _⟩ | exact ⟨rfl, _, Eq.trans (World.drewN_drewN _ _ _) (congrArg (World.drewN _) (Nat.add_assoc _ _ _))⟩)) | (go_at_call 37; (with_reducible refine (spec_StepWith.calls kj16 t408 t409 t412 t413 _ A59.out).mono ?_); rintro e w' ⟨rfl, ⟨nd, rfl⟩⟩; (try first | exact ⟨rfl, _, World.drewN_drewN _ _ _⟩ | exact ⟨rfl, _, Eq.trans (World.drewN_drewN _ _ _) (congrArg (World.drewN _) (Nat.add_assoc _ _ _))⟩)) | (go_at_call 38; (with_reducible refine (spec_DrawCycleOfWord.calls kj16 _ _ l1 t414 _ ?side1 ?side2 A60.out).mono ?_); (case side1 => repeat (first | exact (Kd.C_below HR1.out (by repeat (first | (with_reducible first | exact HB.out | apply below_alloc | apply pw_below_drewN | apply below_drew1) | exact HB.out))) | (with_reducible refine Kd.C_alloc ?_ _) | (with_reducible refine Kd.C_drewN ?_ _) | (with_reducible refine Kd.C_drew ?_))); (case side2 => exact HC1.out); rintro e w65 ⟨rfl, hb⟩; have n0_ := Aside0.mk (below_step (by repeat (first | (with_reducible first | exact HB.out | apply below_alloc | apply pw_below_drewN | apply below_drew1) | exact HB.out)) hb); clear HB; have HB := n0_; clear n0_; (try clear hb); (try clear hb2); (try clear hk); (try clear hi)) | (go_at_call 39; (with_reducible refine (impl_CycleOfWord.calls kj16 t414 t415 t416 t417 _ A61.out).mono ?_); rintro e w66 ⟨rfl, hb⟩; have n0_ := Aside0.mk (below_step (by repeat (first | (with_reducible first | exact HB.out | apply below_alloc | apply pw_below_drewN | apply below_drew1) | exact HB.out)) hb); clear HB; have HB := n0_; clear n0_; (try clear hb); (try clear hb2); (try clear hk); (try clear hi)) | (go_at_call 40; (with_reducible refine (spec_CycleOfWord.calls kj16 t414 t418 t419 t420 _ A62.out).mono ?_); rintro e w' ⟨rfl, ⟨nd, rfl⟩⟩; (try first | exact ⟨rfl, _, World.drewN_drewN _ _ _⟩ | exact ⟨rfl, _, Eq.trans (World.drewN_drewN _ _ _) (congrArg (World.drewN _) (Nat.add_assoc _ _ _))⟩)))
       repeat (go_quiet (first | (go_at_call 36; (with_reducible refine (spec_DrawStepWith.calls kj16 _ _ l1 t408 t409 _ ?side1 ?side2 A57.out).mono ?_); (case side1 => repeat (first | exact (Kd.C_below HR1.out HB.out) | (with_reducible refine Kd.C_alloc ?_ _) | (with_reducible refine Kd.C_drewN ?_ _) | (with_reducible refine Kd.C_drew ?_))); (case side2 => exact HC1.out); rintro e w64 ⟨rfl, hb⟩; have n0_ := Aside0.mk (below_step (by repeat (first | (with_reducible first | exact HB.out | apply below_alloc | apply pw_below_drewN | apply below_drew1) | exact HB.out)) hb); clear HB; have HB := n0_; clear n0_; (try clear hb); (try clear hb2); (try clear hk); (try clear hi)) | (go_at_call 35; (with_reducible refine (impl_StepWith.calls kj16 t408 t409 t410 t411 _ A58.out).mono ?_); rintro e w' ⟨rfl, ⟨nd, rfl⟩⟩; (try first | exact ⟨rfl, _, World.drewN_drewN _ _ _⟩ | exact ⟨rfl, _, Eq.trans (World.drewN_drewN _ _ _) (congrArg (World.drewN _) (Nat.add_assoc _ _ _))⟩)) | (go_at_call 37; (with_reducible refine (spec_StepWith.calls kj16 t408 t409 t412 t413 _ A59.out).mono ?_); rintro e w' ⟨rfl, ⟨nd, rfl⟩⟩; (try first | exact ⟨rfl, _, World.drewN_drewN _ _ _⟩ | exact ⟨rfl, _, Eq.trans (World.drewN_drewN _ _ _) (congrArg (World.drewN _) (Nat.add_assoc _ _ _))⟩)) | (go_at_call 38; (with_reducible refine (spec_DrawCycleOfWord.calls kj16 _ _ l1 t414 _ ?side1 ?side2 A60.out).mono ?_); (case side1 => repeat (first | exact (Kd.C_below HR1.out (by repeat (first | (with_reducible first | exact HB.out | apply below_alloc | apply pw_below_drewN | apply below_drew1) | exact HB.out))) | (with_reducible refine Kd.C_alloc ?_ _) | (with_reducible refine Kd.C_drewN ?_ _) | (with_reducible refine Kd.C_drew ?_))); (case side2 => exact HC1.out); rintro e w65 ⟨rfl, hb⟩; have n0_ := Aside0.mk (below_step (by repeat (first | (with_reducible first | exact HB.out | apply below_alloc | apply pw_below_drewN | apply below_drew1) | exact HB.out)) hb); clear HB; have HB := n0_; clear n0_; (try clear hb); (try clear hb2); (try clear hk); (try clear hi)) | (go_at_call 39; (with_reducible refine (impl_CycleOfWord.calls kj16 t414 t415 t416 t417 _ A61.out).mono ?_); rintro e w66 ⟨rfl, hb⟩; have n0_ := Aside0.mk (below_step (by repeat (first | (with_reducible first | exact HB.out | apply below_alloc | apply pw_below_drewN | apply below_drew1) | exact HB.out)) hb); clear HB; have HB := n0_; clear n0_; (try clear hb); (try clear hb2); (try clear hk); (try clear hi)) | (go_at_call 40; (with_reducible refine (spec_CycleOfWord.calls kj16 t414 t418 t419 t420 _ A62.out).mono ?_); rintro e w' ⟨rfl, ⟨nd, rfl⟩⟩; (try first | exact ⟨rfl, _, World.drewN_drewN _ _ _⟩ | exact ⟨rfl, _, Eq.trans (World.drewN_drewN _ _ _) (congrArg (World.drewN _) (Nat.add_assoc _ _ _))⟩))); go_upto_region 37 with (first | (go_at_call 36; (with_reducible refine (spec_DrawStepWith.calls kj16 _ _ l1 t408 t409 _ ?side1 ?side2 A57.out).mono ?_); (case side1 => repeat (first | exact (Kd.C_below HR1.out HB.out) | (with_reducible refine Kd.C_alloc ?_ _) | (with_reducible refine Kd.C_drewN ?_ _) | (with_reducible refine Kd.C_drew ?_))); (case side2 => exact HC1.out); rintro e w64 ⟨rfl, hb⟩; have n0_ := Aside0.mk (below_step (by repeat (first | (with_reducible first | exact HB.out | apply below_alloc | apply pw_below_drewN | apply below_drew1) | exact HB.out)) hb); clear HB; have HB := n0_; clear n0_; (try clear hb); (try clear hb2); (try clear hk); (try clear hi)) | (go_at_call 35; (with_reducible refine (impl_StepWith.calls kj16 t408 t409 t410 t411 _ A58.out).mono ?_); rintro e w' ⟨rfl, ⟨nd, rfl⟩⟩; (try first | exact ⟨rfl, _, World.drewN_drewN _ _ _⟩ | exact ⟨rfl, _, Eq.trans (World.drewN_drewN _ _ _) (congrArg (World.drewN _) (Nat.add_assoc _ _ _))⟩)) | (go_at_call 37; (with_reducible refine (spec_StepWith.calls kj16 t408 t409 t412 t413 _ A59.out).mono ?_); rintro e w' ⟨rfl, ⟨nd, rfl⟩⟩; (try first | exact ⟨rfl, _, World.drewN_drewN _ _ _⟩ | exact ⟨rfl, _, Eq.trans (World.drewN_drewN _ _ _) (congrArg (World.drewN _) (Nat.add_assoc _ _ _))⟩)) | (go_at_call 38; (with_reducible refine (spec_DrawCycleOfWord.calls kj16 _ _ l1 t414 _ ?side1 ?side2 A60.out).mono ?_); (case side1 => repeat (first | exact (Kd.C_below HR1.out (by repeat (first | (with_reducible first | exact HB.out | apply below_alloc | apply pw_below_drewN | apply below_drew1) | exact HB.out))) | (with_reducible refine Kd.C_alloc ?_ _) | (with_reducible refine Kd.C_drewN ?_ _) | (with_reducible refine Kd.C_drew ?_))); (case side2 => exact HC1.out); rintro e w65 ⟨rfl, hb⟩; have n0_ := Aside0.mk (below_step (by repeat (first | (with_reducible first | exact HB.out | apply below_alloc | apply pw_below_drewN | apply below_drew1) | exact HB.out)) hb); clear HB; have HB := n0_; clear n0_; (try clear hb); (try clear hb2); (try clear hk); (try clear hi)) | (go_at_call 39; (with_reducible refine (impl_CycleOfWord.calls kj16 t414 t415 t416 t417 _ A61.out).mono ?_); rintro e w66 ⟨rfl, hb⟩; have n0_ := Aside0.mk (below_step (by repeat (first | (with_reducible first | exact HB.out | apply below_alloc | apply pw_below_drewN | apply below_drew1) | exact HB.out)) hb); clear HB; have HB := n0_; clear n0_; (try clear hb); (try clear hb2); (try clear hk); (try clear hi)) | (go_at_call 40; (with_reducible refine (spec_CycleOfWord.calls kj16 t414 t418 t419 t420 _ A62.out).mono ?_); rintro e w' ⟨rfl, ⟨nd, rfl⟩⟩; (try first | exact ⟨rfl, _, World.drewN_drewN _ _ _⟩ | exact ⟨rfl, _, Eq.trans (World.drewN_drewN _ _ _) (congrArg (World.drewN _) (Nat.add_assoc _ _ _))⟩))))
       (try simp only [Act.put, List.setIfInBounds_toArray, List.set_cons_zero, List.set_cons_succ])
       go_cut [217] (fun v217 wc => ∃ (kq : Nat) (x217_62 : Bool), v217 = .bool x217_62 ∧ Aside0 (laws_FnOtherCycles.j6 kq t414 t415 t416 t417 x217_62 = some r) ∧ Aside0 (kq ≤ kj16) ∧ Aside0 (Below w.heap.size w wc))
       case first =>
        as_aux_lemma =>
        have H := HC63.out
        clear HC63
        by_cases c67 : (t411 != t413) = true
        ·rw [if_pos c67] at H
         have c67b0 : (t411 != t413) = true := c67
         (try (have c67b1 : decide (t411 = t413) = false := by simpa using c67))
         (try (have c67b2 : (t411 == t413) = false := by simpa using c67))
         (try (have c67b3 : ¬ (t411 = t413) := by simpa using c67))
         clear c67
         (first | rw [c67b0] | (simp only [i64_w, i32_w]; rw [c67b0]) | skip)
         exact (laws_FnOtherCycles.j6_no HR_.out _ _ _ _ _ H).elim
        ·rw [if_neg c67] at H
         have c67b0 : (t411 != t413) = false := by simpa using c67
         (try (have c67b1 : decide (t411 = t413) = true := by simpa using c67))
         (try (have c67b2 : (t411 == t413) = true := by simpa using c67))
         clear c67
         (first | rw [c67b0] | (simp only [i64_w, i32_w]; rw [c67b0]) | skip)
         by_cases c68 : t410 = t412
         ·rw [if_pos c68] at H
          have c68b0 : (t410 == t412) = true := beq_iff_eq.mpr c68
          have c68b1 : (t410 != t412) = false := bne_eq_false_iff_eq.mpr c68
          clear c68
          by_cases c69 : (t417 != t420) = true
          ·rw [if_pos c69] at H
           have c69b0 : (t417 != t420) = true := c69
           (try (have c69b1 : decide (t417 = t420) = false := by simpa using c69))
           (try (have c69b2 : (t417 == t420) = false := by simpa using c69))
           (try (have c69b3 : ¬ (t417 = t420) := by simpa using c69))
           clear c69
           exact (laws_FnOtherCycles.j6_no HR_.out _ _ _ _ _ H).elim
          ·rw [if_neg c69] at H
           have c69b0 : (t417 != t420) = false := by simpa using c69
           (try (have c69b1 : decide (t417 = t420) = true := by simpa using c69))
           (try (have c69b2 : (t417 == t420) = true := by simpa using c69))
           clear c69
           by_cases c70 : t415 = t418
           ·rw [if_pos c70] at H
            have c70b0 : (t415 == t418) = true := beq_iff_eq.mpr c70
            have c70b1 : (t415 != t418) = false := bne_eq_false_iff_eq.mpr c70
            clear c70
            as_aux_lemma =>
             have H' := Aside0.mk H
             clear H
             go_wp2
             repeat (go_quiet (fail); try go_wp2)
             go_meet
             case rel => exact ⟨_, ((t416 != t419)), (by first | rfl | (simp; done) | (simp [*]; done)), H', ⟨by have := HJ7.out; have := HJ16.out; first | omega | exact Nat.le_refl _⟩, ⟨by repeat (first | (with_reducible first | exact HB.out | apply below_alloc | apply pw_below_drewN | apply below_drew1) | exact HB.out)⟩⟩
           ·rw [if_neg c70] at H
            have c70b0 : (t415 == t418) = false := beq_eq_false_iff_ne.mpr c70
            have c70b1 : (t415 != t418) = true := bne_iff_ne.mpr c70
            exact (laws_FnOtherCycles.j6_no HR_.out _ _ _ _ _ H).elim
         ·rw [if_neg c68] at H
          have c68b0 : (t410 == t412) = false := beq_eq_false_iff_ne.mpr c68
          have c68b1 : (t410 != t412) = true := bne_iff_ne.mpr c68
          exact (laws_FnOtherCycles.j6_no HR_.out _ _ _ _ _ H).elim
       case rest =>
        as_aux_lemma =>
        clear HC63
        try clear c1
        try clear c2
        try clear p2
        try clear c3
        try clear p3
        try clear q3
        try clear hx3
        try clear qi3
        try clear c4
        try clear p4
        try clear q4
        try clear hx4
        try clear qi4
        try clear c5
        try clear c6
        try clear p6
        try clear c7
        try clear c12
        try clear c12b0
        try clear c12b1
        try clear c12b2
        try clear c16
        try clear c18
        try clear c20
        try clear c20b0
        try clear c21
        try clear c21b0
        try clear c22
        try clear c22b0
        try clear c23
        try clear c23b0
        try clear c24
        try clear c24b0
        try clear c25
        try clear c25b0
        try clear c27
        try clear c28
        try clear c28b0
        try clear c28b1
        try clear c28b2
        try clear c30
        try clear c30b0
        try clear c31
        try clear c31b0
        try clear c32
        try clear c32b0
        try clear c32b1
        try clear c33
        try clear c33b0
        try clear c33b1
        try clear c34
        try clear c34b0
        try clear c35
        try clear c35b0
        try clear c37
        try clear c37b0
        try clear c38
        try clear c38b0
        try clear c39
        try clear c39b0
        try clear c39b1
        try clear p39
        try clear q39
        try clear hx39
        try clear qi39
        try clear c40
        try clear c40b0
        try clear p40
        try clear q40
        try clear hx40
        try clear qi40
        try clear c42
        try clear c42b0
        try clear c42b1
        try clear c43
        try clear c43b0
        try clear c43b1
        try clear c44
        try clear c44b0
        try clear c44b1
        try clear c45
        try clear c45b0
        try clear c45b1
        try clear c46
        try clear c47
        try clear c47b0
        try clear c48
        try clear c48b0
        try clear c49
        try clear c49b0
        try clear c50
        try clear c50b0
        try clear c51
        try clear c56
        try clear p64
        try clear c67
        try clear c67b0
        try clear c67b1
        try clear c67b2
        try clear c68
        try clear c68b0
        try clear c68b1
        try clear c69
        try clear c69b0
        try clear c69b1
        try clear c69b2
        try clear c70
        try clear c70b0
        try clear c70b1
        try clear hx392_0
        try clear hx393_0
        try clear hx396_0
        try clear hx397_0
        try clear hx398_0
        try clear hx399_0
        try clear hx400_0
        try clear hx401_0
        try clear hx402_0
        try clear hx403_0
        try clear p2
        try clear p3
        try clear p39
        try clear p392
        try clear p393
        try clear p396
        try clear p397
        try clear p398
        try clear p399
        try clear p4
        try clear p40
        try clear p400
        try clear p401
        try clear p402
        try clear p403
        try clear p6
        try clear q3
        try clear q39
        try clear q392
        try clear q393
        try clear q396
        try clear q397
        try clear q398
        try clear q399
        try clear q4
        try clear q40
        try clear q400
        try clear q401
        try clear q402
        try clear q403
        obtain ⟨kq, x217_62, rfl, HA, HJ62, HB⟩ := hcut
        cases kq with
        | zero => exact absurd HA.out (by simp [laws_FnOtherCycles.j6])
        | succ kj62 =>
         have H := HA.out
         clear HA
         simp only [laws_FnOtherCycles.j6] at H
         by_cases c71 : x217_62 = true
         ·subst c71
          have H1 : (some false) = some r := by rw [if_pos rfl] at H; exact H
          clear H
          have H := H1
          clear H1
          exact absurd (Option.some.inj H) (by rw [HR_.out]; decide)
         ·replace c71 := Bool.eq_false_iff.mpr c71
          subst c71
          have H1 : (if t417 = true then (laws_FnOtherCycles.l3 kj62 t414 t415 t416 t415 1 0) else (some true)) = some r := by rw [if_neg (show ¬ (false = true) by decide)] at H; exact H
          clear H
          have H := H1
          clear H1
          by_cases c72 : t417 = true
          ·subst c72
           have H1 : (laws_FnOtherCycles.l3 kj62 t414 t415 t416 t415 1 0) = some r := by rw [if_pos rfl] at H; exact H
           clear H
           have H := H1
           clear H1
           have H' := Aside0.mk H
           clear H
           go_wp2
           repeat (go_quiet (fail); try go_wp2)
           go_loopg [33, 34, 35] kj62 (fun kq v33 v34 v35 w' => ∃ (x33_4 : Int) (x34_4 : Int) (x35_4 : Int), v33 = .int .i64 x33_4 ∧ v34 = .int .i64 x34_4 ∧ v35 = .int .i64 x35_4 ∧ Aside0 (laws_FnOtherCycles.l3 kq t414 t415 t416 x33_4 x34_4 x35_4 = some r) ∧ Aside0 (kq ≤ kj62) ∧ Aside0 (Below w.heap.size w w'))
           case atStart => exact ⟨(t415), (1), (0), (by first | rfl | (simp; done) | (simp [*]; done)), (by first | rfl | (simp; done) | (simp [*]; done)), (by first | rfl | (simp; done) | (simp [*]; done)), H', ⟨Nat.le_refl _⟩, ⟨by repeat (first | (with_reducible first | exact HB.out | apply below_alloc | apply pw_below_drewN | apply below_drew1) | exact HB.out)⟩⟩
           case round =>
            as_aux_lemma =>
            clear H'
            try clear c1
            try clear c2
            try clear p2
            try clear c3
            try clear p3
            try clear q3
            try clear hx3
            try clear qi3
            try clear c4
            try clear p4
            try clear q4
            try clear hx4
            try clear qi4
            try clear c5
            try clear c6
            try clear p6
            try clear c7
            try clear c12
            try clear c12b0
            try clear c12b1
            try clear c12b2
            try clear c16
            try clear c18
            try clear c20
            try clear c20b0
            try clear c21
            try clear c21b0
            try clear c22
            try clear c22b0
            try clear c23
            try clear c23b0
            try clear c24
            try clear c24b0
            try clear c25
            try clear c25b0
            try clear c27
            try clear c28
            try clear c28b0
            try clear c28b1
            try clear c28b2
            try clear c30
            try clear c30b0
            try clear c31
            try clear c31b0
            try clear c32
            try clear c32b0
            try clear c32b1
            try clear c33
            try clear c33b0
            try clear c33b1
            try clear c34
            try clear c34b0
            try clear c35
            try clear c35b0
            try clear c37
            try clear c37b0
            try clear c38
            try clear c38b0
            try clear c39
            try clear c39b0
            try clear c39b1
            try clear p39
            try clear q39
            try clear hx39
            try clear qi39
            try clear c40
            try clear c40b0
            try clear p40
            try clear q40
            try clear hx40
            try clear qi40
            try clear c42
            try clear c42b0
            try clear c42b1
            try clear c43
            try clear c43b0
            try clear c43b1
            try clear c44
            try clear c44b0
            try clear c44b1
            try clear c45
            try clear c45b0
            try clear c45b1
            try clear c46
            try clear c47
            try clear c47b0
            try clear c48
            try clear c48b0
            try clear c49
            try clear c49b0
            try clear c50
            try clear c50b0
            try clear c51
            try clear c56
            try clear p64
            try clear c67
            try clear c67b0
            try clear c67b1
            try clear c67b2
            try clear c68
            try clear c68b0
            try clear c68b1
            try clear c69
            try clear c69b0
            try clear c69b1
            try clear c69b2
            try clear c70
            try clear c70b0
            try clear c70b1
            try clear c71
            try clear c72
            try clear hx392_0
            try clear hx393_0
            try clear hx396_0
            try clear hx397_0
            try clear hx398_0
            try clear hx399_0
            try clear hx400_0
            try clear hx401_0
            try clear hx402_0
            try clear hx403_0
            try clear p2
            try clear p3
            try clear p39
            try clear p392
            try clear p393
            try clear p396
            try clear p397
            try clear p398
            try clear p399
            try clear p4
            try clear p40
            try clear p400
            try clear p401
            try clear p402
            try clear p403
            try clear p6
            try clear p64
            try clear q3
            try clear q39
            try clear q392
            try clear q393
            try clear q396
            try clear q397
            try clear q398
            try clear q399
            try clear q4
            try clear q40
            try clear q400
            try clear q401
            try clear q402
            try clear q403
            obtain ⟨x33_4, x34_4, x35_4, rfl, rfl, rfl, HA, HK4, HB⟩ := hrel
            cases gk with
            | zero => exact absurd HA.out (by simp [laws_FnOtherCycles.l3])
            | succ k4 =>
             have H := HA.out
             clear HA
             simp only [laws_FnOtherCycles.l3] at H
             have HC73 := Aside0.mk H
             clear H
             go_upto_region 42 with (fail)
             repeat (go_quiet (fail); go_upto_region 42 with (fail))
             go_cut [228] (fun v228 wc => ∃ (kq : Nat) (x228_72 : Bool), v228 = .bool x228_72 ∧ Aside0 (laws_FnOtherCycles.j8 kq t414 t415 t416 x33_4 x34_4 x35_4 x228_72 = some r) ∧ Aside0 (kq ≤ k4) ∧ Aside0 (Below w.heap.size w wc))
             case first =>
              as_aux_lemma =>
              have H := HC73.out
              clear HC73
              by_cases c74 : x35_4 < (t414.size : Int)
              ·rw [if_pos c74] at H
               have c74b0 : decide (x35_4 < (t414.size : Int)) = true := decide_eq_true c74
               clear c74
               (first | rw [c74b0] | (simp only [i64_w, i32_w]; rw [c74b0]) | skip)
               as_aux_lemma =>
                have H' := Aside0.mk H
                clear H
                go_wp2
                repeat (go_quiet (fail); try go_wp2)
                go_meet
                case rel => exact ⟨_, (decide ((t414.size : Int) ≤ 12)), (by first | rfl | (simp; done) | (simp [*]; done)), H', ⟨by have := HJ7.out; have := HJ16.out; have := HJ62.out; have := HK4.out; first | omega | exact Nat.le_refl _⟩, ⟨by repeat (first | (with_reducible first | exact HB.out | apply below_alloc | apply pw_below_drewN | apply below_drew1) | exact HB.out)⟩⟩
              ·rw [if_neg c74] at H
               have c74b0 : decide (x35_4 < (t414.size : Int)) = false := decide_eq_false c74
               clear c74
               (first | rw [c74b0] | (simp only [i64_w, i32_w]; rw [c74b0]) | skip)
               as_aux_lemma =>
                have H' := Aside0.mk H
                clear H
                go_wp2
                repeat (go_quiet (fail); try go_wp2)
                go_meet
                case rel => exact ⟨_, (false), (by first | rfl | (simp; done) | (simp [*]; done)), H', ⟨by have := HJ7.out; have := HJ16.out; have := HJ62.out; have := HK4.out; first | omega | exact Nat.le_refl _⟩, ⟨by repeat (first | (with_reducible first | exact HB.out | apply below_alloc | apply pw_below_drewN | apply below_drew1) | exact HB.out)⟩⟩
             case rest =>
              as_aux_lemma =>
              clear HC73
              try clear c1
              try clear c2
              try clear p2
              try clear c3
              try clear p3
              try clear q3
              try clear hx3
              try clear qi3
              try clear c4
              try clear p4
              try clear q4
              try clear hx4
              try clear qi4
              try clear c5
              try clear c6
              try clear p6
              try clear c7
              try clear c12
              try clear c12b0
              try clear c12b1
              try clear c12b2
              try clear c16
              try clear c18
              try clear c20
              try clear c20b0
              try clear c21
              try clear c21b0
              try clear c22
              try clear c22b0
              try clear c23
              try clear c23b0
              try clear c24
              try clear c24b0
              try clear c25
              try clear c25b0
              try clear c27
              try clear c28
              try clear c28b0
              try clear c28b1
              try clear c28b2
              try clear c30
              try clear c30b0
              try clear c31
              try clear c31b0
              try clear c32
              try clear c32b0
              try clear c32b1
              try clear c33
              try clear c33b0
              try clear c33b1
              try clear c34
              try clear c34b0
              try clear c35
              try clear c35b0
              try clear c37
              try clear c37b0
              try clear c38
              try clear c38b0
              try clear c39
              try clear c39b0
              try clear c39b1
              try clear p39
              try clear q39
              try clear hx39
              try clear qi39
              try clear c40
              try clear c40b0
              try clear p40
              try clear q40
              try clear hx40
              try clear qi40
              try clear c42
              try clear c42b0
              try clear c42b1
              try clear c43
              try clear c43b0
              try clear c43b1
              try clear c44
              try clear c44b0
              try clear c44b1
              try clear c45
              try clear c45b0
              try clear c45b1
              try clear c46
              try clear c47
              try clear c47b0
              try clear c48
              try clear c48b0
              try clear c49
              try clear c49b0
              try clear c50
              try clear c50b0
              try clear c51
              try clear c56
              try clear p64
              try clear c67
              try clear c67b0
              try clear c67b1
              try clear c67b2
              try clear c68
              try clear c68b0
              try clear c68b1
              try clear c69
              try clear c69b0
              try clear c69b1
              try clear c69b2
              try clear c70
              try clear c70b0
              try clear c70b1
              try clear c71
              try clear c72
              try clear c74
              try clear c74b0
              try clear hx392_0
              try clear hx393_0
              try clear hx396_0
              try clear hx397_0
              try clear hx398_0
              try clear hx399_0
              try clear hx400_0
              try clear hx401_0
              try clear hx402_0
              try clear hx403_0
              try clear p2
              try clear p3
              try clear p39
              try clear p392
              try clear p393
              try clear p396
              try clear p397
              try clear p398
              try clear p399
              try clear p4
              try clear p40
              try clear p400
              try clear p401
              try clear p402
              try clear p403
              try clear p6
              try clear p64
              try clear q3
              try clear q39
              try clear q392
              try clear q393
              try clear q396
              try clear q397
              try clear q398
              try clear q399
              try clear q4
              try clear q40
              try clear q400
              try clear q401
              try clear q402
              try clear q403
              obtain ⟨kq, x228_72, rfl, HA, HJ72, HB⟩ := hcut
              cases kq with
              | zero => exact absurd HA.out (by simp [laws_FnOtherCycles.j8])
              | succ kj72 =>
               have H := HA.out
               clear HA
               simp only [laws_FnOtherCycles.j8] at H
               by_cases c75 : x228_72 = true
               ·subst c75
                have H1 : (if 0 ≤ x35_4 then (if x35_4 < (t414.size : Int) then (if (bt t414 x35_4) = 49 then (laws_FnOtherCycles.l3 kj72 t414 t415 t416 (wrap64 ((wrap64 (3 * x33_4)) + (wrap64 (t416 * x34_4)))) (wrap64 (x34_4 * 2)) (wrap64 (x35_4 + 1))) else (laws_FnOtherCycles.l3 kj72 t414 t415 t416 x33_4 (wrap64 (x34_4 * 2)) (wrap64 (x35_4 + 1)))) else (none)) else (none)) = some r := by rw [if_pos rfl] at H; exact H
                clear H
                have H := H1
                clear H1
                by_cases c76 : 0 ≤ x35_4
                ·rw [if_pos c76] at H
                 have c76b0 : decide (0 ≤ x35_4) = true := decide_eq_true c76
                 clear c76
                 by_cases c77 : x35_4 < (t414.size : Int)
                 ·rw [if_pos c77] at H
                  have c77b0 : decide (x35_4 < (t414.size : Int)) = true := decide_eq_true c77
                  clear c77
                  by_cases c79 : (bt t414 x35_4) = 49
                  ·rw [if_pos c79] at H
                   have c79b0 : ((bt t414 x35_4) == 49) = true := beq_iff_eq.mpr c79
                   have c79b1 : ((bt t414 x35_4) != 49) = false := bne_eq_false_iff_eq.mpr c79
                   clear c79
                   as_aux_lemma =>
                    have H' := Aside0.mk H
                    clear H
                    have p78 : 0 ≤ (x35_4 : Int) := of_decide_eq_true (by first | (with_reducible assumption) | assumption)
                    have q78 : x35_4 < (t414.size : Int) := of_decide_eq_true (by first | (with_reducible assumption) | assumption)
                    have hx78 := bt_at t414 x35_4
                    replace p78 := eq_true p78
                    replace q78 := eq_true q78
                    go_wp2
                    repeat (go_quiet (fail); try go_wp2)
                    go_roundg kj72
                    case measure => have := HJ7.out; have := HJ16.out; have := HJ62.out; have := HK4.out; have := HJ72.out; omega
                    case rel => exact ⟨(wrap64 ((wrap64 (3 * x33_4)) + (wrap64 (t416 * x34_4)))), (wrap64 (x34_4 * 2)), (wrap64 (x35_4 + 1)), (by first | rfl | (simp; done) | (simp [*]; done)), (by first | rfl | (simp; done) | (simp [*]; done)), (by first | rfl | (simp; done) | (simp [*]; done)), H', ⟨by have := HJ7.out; have := HJ16.out; have := HJ62.out; have := HK4.out; have := HJ72.out; omega⟩, ⟨by repeat (first | (with_reducible first | exact HB.out | apply below_alloc | apply pw_below_drewN | apply below_drew1) | exact HB.out)⟩⟩
                  ·rw [if_neg c79] at H
                   have c79b0 : ((bt t414 x35_4) == 49) = false := beq_eq_false_iff_ne.mpr c79
                   have c79b1 : ((bt t414 x35_4) != 49) = true := bne_iff_ne.mpr c79
                   as_aux_lemma =>
                    have H' := Aside0.mk H
                    clear H
                    have p78 : 0 ≤ (x35_4 : Int) := of_decide_eq_true (by first | (with_reducible assumption) | assumption)
                    have q78 : x35_4 < (t414.size : Int) := of_decide_eq_true (by first | (with_reducible assumption) | assumption)
                    have hx78 := bt_at t414 x35_4
                    replace p78 := eq_true p78
                    replace q78 := eq_true q78
                    go_wp2
                    repeat (go_quiet (fail); try go_wp2)
                    go_roundg kj72
                    case measure => have := HJ7.out; have := HJ16.out; have := HJ62.out; have := HK4.out; have := HJ72.out; omega
                    case rel => exact ⟨(x33_4), (wrap64 (x34_4 * 2)), (wrap64 (x35_4 + 1)), (by first | rfl | (simp; done) | (simp [*]; done)), (by first | rfl | (simp; done) | (simp [*]; done)), (by first | rfl | (simp; done) | (simp [*]; done)), H', ⟨by have := HJ7.out; have := HJ16.out; have := HJ62.out; have := HK4.out; have := HJ72.out; omega⟩, ⟨by repeat (first | (with_reducible first | exact HB.out | apply below_alloc | apply pw_below_drewN | apply below_drew1) | exact HB.out)⟩⟩
                 ·rw [if_neg c77] at H
                  exact absurd H (by simp)
                ·rw [if_neg c76] at H
                 exact absurd H (by simp)
               ·replace c75 := Bool.eq_false_iff.mpr c75
                subst c75
                have H1 : (if t416 ≥ 1 then (if (t414.size : Int) > 12 then (some true) else (some (x33_4 == (wrap64 (t415 * x34_4))))) else (some false)) = some r := by rw [if_neg (show ¬ (false = true) by decide)] at H; exact H
                clear H
                have H := H1
                clear H1
                by_cases c80 : t416 ≥ 1
                ·rw [if_pos c80] at H
                 have c80b0 : decide (1 ≤ t416) = true := decide_eq_true c80
                 clear c80
                 by_cases c81 : (t414.size : Int) > 12
                 ·rw [if_pos c81] at H
                  have c81b0 : decide (12 < (t414.size : Int)) = true := decide_eq_true c81
                  have c81b1 : decide (12 < t414.size) = true := decide_eq_true (by omega)
                  clear c81
                  as_aux_lemma =>
                   obtain rfl := Option.some.inj H
                   go_wp2
                   repeat (go_quiet (fail); try go_wp2)
                   go_ret
                   exact ⟨by first | rfl | (simp [errW_none, errW_some] <;> rfl) | (simp [*, errW_none, errW_some] <;> rfl), by repeat (first | (with_reducible first | exact HB.out | apply below_alloc | apply pw_below_drewN | apply below_drew1) | exact HB.out)⟩
                 ·rw [if_neg c81] at H
                  have c81b0 : decide (12 < (t414.size : Int)) = false := decide_eq_false c81
                  have c81b1 : decide (12 < t414.size) = false := decide_eq_false (by omega)
                  clear c81
                  as_aux_lemma =>
                   obtain rfl := Option.some.inj H
                   go_wp2
                   repeat (go_quiet (fail); try go_wp2)
                   go_ret
                   exact ⟨by first | rfl | (simp [errW_none, errW_some] <;> rfl) | (simp [*, errW_none, errW_some] <;> rfl), by repeat (first | (with_reducible first | exact HB.out | apply below_alloc | apply pw_below_drewN | apply below_drew1) | exact HB.out)⟩
                ·rw [if_neg c80] at H
                 have c80b0 : decide (1 ≤ t416) = false := decide_eq_false c80
                 clear c80
                 exact absurd (Option.some.inj H) (by rw [HR_.out]; decide)
          ·replace c72 := Bool.eq_false_iff.mpr c72
           subst c72
           have H1 : (some true) = some r := by rw [if_neg (show ¬ (false = true) by decide)] at H; exact H
           clear H
           have H := H1
           clear H1
           as_aux_lemma =>
            obtain rfl := Option.some.inj H
            go_wp2
            repeat (go_quiet (fail); try go_wp2)
            go_ret
            exact ⟨by first | rfl | (simp [errW_none, errW_some] <;> rfl) | (simp [*, errW_none, errW_some] <;> rfl), by repeat (first | (with_reducible first | exact HB.out | apply below_alloc | apply pw_below_drewN | apply below_drew1) | exact HB.out)⟩

/-- THE ONE PURE STATEMENT of laws_FnOtherCycles: yours. -/
def laws_FnOtherCycles.Pure : Prop := ∀ (l0 : List Int) (l1 : List Int), l0.length ≤ maxLen → l0.length * 1 ≤ 140737488351232 → (∀ x ∈ l0, (Lit.int .u8 x).wf = true) → l1.length ≤ maxLen → l1.length * 1 ≤ 140737488351232 → (∀ x ∈ l1, (Lit.int .u8 x).wf = true) → ∃ k, laws_FnOtherCycles.f k l0 l1 = some true
theorem laws_FnOtherCycles.walk (P : laws_FnOtherCycles.Pure) (a0 : Option Addr) (len0 cap0 : Nat) (z0 : List Int) (a1 : Option Addr) (len1 cap1 : Nat) (z1 : List Int) (w : World) (w0 : (a0 = none ∧ len0 = 0 ∧ cap0 = 0 ∧ z0 = []) ∨ ∃ x, a0 = some x ∧ len0 ≤ cap0 ∧ cap0 ≤ maxLen ∧ z0.length = cap0 ∧ (∀ i, i < z0.length → w.cell? (x.add i) = some (.int .u8 (z0.getD i 0))) ∧ ∀ n ∈ z0, (Lit.int .u8 n).wf = true) (y0 : len0 * 1 ≤ 140737488351232) (w1 : (a1 = none ∧ len1 = 0 ∧ cap1 = 0 ∧ z1 = []) ∨ ∃ x, a1 = some x ∧ len1 ≤ cap1 ∧ cap1 ≤ maxLen ∧ z1.length = cap1 ∧ (∀ i, i < z1.length → w.cell? (x.add i) = some (.int .u8 (z1.getD i 0))) ∧ ∀ n ∈ z1, (Lit.int .u8 n).wf = true) (y1 : len1 * 1 ≤ 140737488351232) :
  Calls Try.prog 4 #[.slice a0 len0 cap0, .slice a1 len1 cap1] w fun e w' => e = .returned (.bool true) ∧ Below w.heap.size w w' := by
 obtain ⟨l0, rfl, hr0, hm0, hw0, hc0⟩ := ReadsInt.ofRowC w0
 obtain ⟨l1, rfl, hr1, hm1, hw1, hc1⟩ := ReadsInt.ofRowC w1
 obtain ⟨k, h⟩ := P l0 l1 hm0 y0 hw0 hm1 y1 hw1
 refine (laws_FnOtherCycles.calls k _ _ l0 _ _ l1 true w (Kd.C_of_reads (d := (0 : Int)) (h1 := fun _ => rfl) hr0) hc0 (Kd.C_of_reads (d := (0 : Int)) (h1 := fun _ => rfl) hr1) hc1 h rfl).mono ?_
 rintro e w' ⟨rfl, hd⟩
 exact ⟨rfl, hd⟩

end Go.Proofs.Ytclnhbppcmcalaa.PFnOtherCycles
