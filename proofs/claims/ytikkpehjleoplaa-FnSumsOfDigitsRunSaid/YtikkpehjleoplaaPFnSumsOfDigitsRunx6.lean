-- out of the kit's print, turned by wip/own_print.py
import Derived.Test.YtikkpehjleoplaaPFnSumsOfDigitsRunx0
import Derived.Test.YtikkpehjleoplaaPFnSumsOfDigitsRunx1
import Derived.Test.YtikkpehjleoplaaPFnSumsOfDigitsRunx2
import Derived.Test.YtikkpehjleoplaaPFnSumsOfDigitsRunx3
import Derived.Test.YtikkpehjleoplaaPFnSumsOfDigitsRunx4
import Derived.Test.YtikkpehjleoplaaPFnSumsOfDigitsRunx5
namespace Go.Proofs.Ytikkpehjleoplaa.PFnSumsOfDigitsRun
open Go.RowKit Go.Proofs.YtikkpehjleoplaaW.PrintWords Go.Proofs.YtikkpehjleoplaaW.PrintLast Go.Proofs.YtikkpehjleoplaaW.PrintMore
attribute [local go_sem] max2_int min2_int max_two min_two max_three min_three max_four min_four   -- for this text's walks alone
set_option linter.unusedVariables false
set_option linter.unusedSimpArgs false

/-! ### laws_FnSumsOfDigitsRun: function 10 -/
mutual
def laws_FnSumsOfDigitsRun.j0 : Nat → List Int → Int → Int → List Int → Bool → Int → Int → Bool → Option (Bool)
  | 0, _, _, _, _, _, _, _, _ => none
  | k + 1, x1, x5, x6, x7, x8, x11, x15, x117 => if x117 = true then (some false) else (if x8 = true then (if 0 ≤ (wrap64 ((x7.length : Int) - 1)) then (if (wrap64 ((x7.length : Int) - 1)) < (x7.length : Int) then ((impl_DigitalRoot.f k x5 x6).bind fun bt281 => (if (x7.length : Int) = (wrap64 (x11 + 1)) then (if (rd x7 (wrap64 ((x7.length : Int) - 1))) = x15 then (if bt281.2 = true then (laws_FnSumsOfDigitsRun.j1 k x1 x5 x6 x7 x11 (bt281.1 != x15)) else (laws_FnSumsOfDigitsRun.j1 k x1 x5 x6 x7 x11 true)) else (laws_FnSumsOfDigitsRun.j1 k x1 x5 x6 x7 x11 true)) else (laws_FnSumsOfDigitsRun.j1 k x1 x5 x6 x7 x11 true))) else (none)) else (none)) else (laws_FnSumsOfDigitsRun.j3 k x1))
def laws_FnSumsOfDigitsRun.j3 : Nat → List Int → Option (Bool)
  | 0, _ => none
  | k + 1, x1 => (spec_DrawLeastSumPersistent.f x1).bind fun bt291 => ((impl_LeastSumPersistent.f k bt291.1 bt291.2).bind fun bt293 => ((spec_LeastSumPersistent.f k bt291.1 bt291.2).bind fun bt295 => (if (bt293.2 != bt295.2) = true then (laws_FnSumsOfDigitsRun.j4 k bt291.1 bt291.2 bt293.1 bt293.2 true) else (laws_FnSumsOfDigitsRun.j4 k bt291.1 bt291.2 bt293.1 bt293.2 (bt293.1 != bt295.1)))))
def laws_FnSumsOfDigitsRun.j4 : Nat → Int → Int → Int → Bool → Bool → Option (Bool)
  | 0, _, _, _, _, _ => none
  | k + 1, x27, x28, x29, x30, x234 => if x234 = true then (some false) else (if x30 = true then ((impl_SumPersistence.f k x29 x28).bind fun bt297 => (if bt297.2 = true then (some (bt297.1 == x27)) else (some false))) else (some true))
def laws_FnSumsOfDigitsRun.j1 : Nat → List Int → Int → Int → List Int → Int → Bool → Option (Bool)
  | 0, _, _, _, _, _, _ => none
  | k + 1, x1, x5, x6, x7, x11, x149 => if x149 = true then (some false) else (laws_FnSumsOfDigitsRun.l0 k x1 x5 x6 x7 x11 1)
def laws_FnSumsOfDigitsRun.l0 : Nat → List Int → Int → Int → List Int → Int → Int → Option (Bool)
  | 0, _, _, _, _, _, _ => none
  | k + 1, x1, x5, x6, x7, x11, x22 => if x22 < (x7.length : Int) then (if 0 ≤ (wrap64 (x22 - 1)) then (if (wrap64 (x22 - 1)) < (x7.length : Int) then ((impl_DigitSum.f k (rd x7 (wrap64 (x22 - 1))) x6).bind fun bt284 => (if bt284.2 = true then (if 0 ≤ x22 then (if bt284.1 = (rd x7 x22) then (if bt284.1 ≥ (rd x7 (wrap64 (x22 - 1))) then (some false) else (if (wrap64 (x6 - 1)) = 0 then (none) else (if (Int.tmod (wrap64 ((rd x7 (wrap64 (x22 - 1))) - bt284.1)) (wrap64 (x6 - 1))) = 0 then (laws_FnSumsOfDigitsRun.l0 k x1 x5 x6 x7 x11 (wrap64 (x22 + 1))) else (some false)))) else (some false)) else (none)) else (some false))) else (none)) else (none)) else ((impl_LeastSumPersistent.f k x11 x6).bind fun bt289 => (if bt289.2 = true then (if x5 < bt289.1 then (some false) else (laws_FnSumsOfDigitsRun.j3 k x1)) else (laws_FnSumsOfDigitsRun.j3 k x1)))
end
def laws_FnSumsOfDigitsRun.f (k : Nat) (l0 : List Int) (l1 : List Int) : Option (Bool) := (laws_big.f l0 l1).bind fun t260 => (if t260 = true then (some true) else ((spec_DrawSumRun.f k l0).bind fun bt261 => ((impl_SumRun.f k bt261.1 bt261.2).bind fun bt263 => ((spec_SumRun.f k bt261.1 bt261.2).bind fun bt267 => ((impl_SumPersistence.f k bt261.1 bt261.2).bind fun bt271 => ((spec_SumPersistence.f k bt261.1 bt261.2).bind fun bt273 => ((impl_RootByRemainder.f bt261.1 bt261.2).bind fun bt275 => ((spec_RootByRemainder.f bt261.1 bt261.2).bind fun bt277 => (if (bt263.2 != bt267.2) = true then (laws_FnSumsOfDigitsRun.j0 k l1 bt261.1 bt261.2 bt263.1 bt263.2 bt271.1 bt275.1 true) else ((laws_qSame.f k bt263.1 bt267.1).bind fun t279 => (if t279 = true then (if (bt271.2 != bt273.2) = true then (laws_FnSumsOfDigitsRun.j0 k l1 bt261.1 bt261.2 bt263.1 bt263.2 bt271.1 bt275.1 true) else (if bt271.1 = bt273.1 then (if (bt275.2 != bt277.2) = true then (laws_FnSumsOfDigitsRun.j0 k l1 bt261.1 bt261.2 bt263.1 bt263.2 bt271.1 bt275.1 true) else (if bt275.1 = bt277.1 then (if (bt271.2 != bt263.2) = true then (laws_FnSumsOfDigitsRun.j0 k l1 bt261.1 bt261.2 bt263.1 bt263.2 bt271.1 bt275.1 true) else (laws_FnSumsOfDigitsRun.j0 k l1 bt261.1 bt261.2 bt263.1 bt263.2 bt271.1 bt275.1 (bt275.2 != bt263.2))) else (laws_FnSumsOfDigitsRun.j0 k l1 bt261.1 bt261.2 bt263.1 bt263.2 bt271.1 bt275.1 true))) else (laws_FnSumsOfDigitsRun.j0 k l1 bt261.1 bt261.2 bt263.1 bt263.2 bt271.1 bt275.1 true))) else (laws_FnSumsOfDigitsRun.j0 k l1 bt261.1 bt261.2 bt263.1 bt263.2 bt271.1 bt275.1 true))))))))))))
theorem laws_FnSumsOfDigitsRun.mono_l : ∀ k, (∀ y0 y1 y2 y3 y4 y5 y6 y7, LeO (laws_FnSumsOfDigitsRun.j0 k y0 y1 y2 y3 y4 y5 y6 y7) (laws_FnSumsOfDigitsRun.j0 (k + 1) y0 y1 y2 y3 y4 y5 y6 y7)) ∧ (∀ y0, LeO (laws_FnSumsOfDigitsRun.j3 k y0) (laws_FnSumsOfDigitsRun.j3 (k + 1) y0)) ∧ (∀ y0 y1 y2 y3 y4, LeO (laws_FnSumsOfDigitsRun.j4 k y0 y1 y2 y3 y4) (laws_FnSumsOfDigitsRun.j4 (k + 1) y0 y1 y2 y3 y4)) ∧ (∀ y0 y1 y2 y3 y4 y5, LeO (laws_FnSumsOfDigitsRun.j1 k y0 y1 y2 y3 y4 y5) (laws_FnSumsOfDigitsRun.j1 (k + 1) y0 y1 y2 y3 y4 y5)) ∧ (∀ y0 y1 y2 y3 y4 y5, LeO (laws_FnSumsOfDigitsRun.l0 k y0 y1 y2 y3 y4 y5) (laws_FnSumsOfDigitsRun.l0 (k + 1) y0 y1 y2 y3 y4 y5))
  | 0 => ⟨fun _ _ _ _ _ _ _ _ r h => by simp [laws_FnSumsOfDigitsRun.j0] at h, fun _ r h => by simp [laws_FnSumsOfDigitsRun.j3] at h, fun _ _ _ _ _ r h => by simp [laws_FnSumsOfDigitsRun.j4] at h, fun _ _ _ _ _ _ r h => by simp [laws_FnSumsOfDigitsRun.j1] at h, fun _ _ _ _ _ _ r h => by simp [laws_FnSumsOfDigitsRun.l0] at h⟩
  | k + 1 => by
    obtain ⟨ih0, ih1, ih2, ih3, ih4⟩ := laws_FnSumsOfDigitsRun.mono_l k
    refine ⟨?_, ?_, ?_, ?_, ?_⟩
    · intro y0 y1 y2 y3 y4 y5 y6 y7
      unfold laws_FnSumsOfDigitsRun.j0
      repeat' first
      | (with_reducible exact ih0 _ _ _ _ _ _ _ _)
      | (with_reducible exact ih1 _)
      | (with_reducible exact ih2 _ _ _ _ _)
      | (with_reducible exact ih3 _ _ _ _ _ _)
      | (with_reducible exact ih4 _ _ _ _ _ _)
      | (with_reducible exact impl_DigitSum.mono _ _ _)
      | (with_reducible exact impl_DigitalRoot.mono _ _ _)
      | (with_reducible exact impl_LeastSumPersistent.mono _ _ _)
      | (with_reducible exact impl_SumPersistence.mono _ _ _)
      | (with_reducible exact impl_SumRun.mono _ _ _)
      | (with_reducible exact laws_qSame.mono _ _ _)
      | (with_reducible exact spec_DrawSumRun.mono _ _)
      | (with_reducible exact spec_LeastSumPersistent.mono _ _ _)
      | (with_reducible exact spec_SumPersistence.mono _ _ _)
      | (with_reducible exact spec_SumRun.mono _ _ _)
      | (with_reducible exact LeO.refl _)
      | (with_reducible exact LeO.none _)
      | (with_reducible refine LeO.ite ?_ ?_)
      | (with_reducible refine LeO.bind ?_ (fun _ => ?_))
      | exact ih0 _ _ _ _ _ _ _ _
      | exact ih1 _
      | exact ih2 _ _ _ _ _
      | exact ih3 _ _ _ _ _ _
      | exact ih4 _ _ _ _ _ _
      | exact impl_DigitSum.mono _ _ _
      | exact impl_DigitalRoot.mono _ _ _
      | exact impl_LeastSumPersistent.mono _ _ _
      | exact impl_SumPersistence.mono _ _ _
      | exact impl_SumRun.mono _ _ _
      | exact laws_qSame.mono _ _ _
      | exact spec_DrawSumRun.mono _ _
      | exact spec_LeastSumPersistent.mono _ _ _
      | exact spec_SumPersistence.mono _ _ _
      | exact spec_SumRun.mono _ _ _
      | exact LeO.none _
      | refine LeO.ite ?_ ?_
      | refine LeO.bind ?_ (fun _ => ?_)
    · intro y0
      unfold laws_FnSumsOfDigitsRun.j3
      repeat' first
      | (with_reducible exact ih0 _ _ _ _ _ _ _ _)
      | (with_reducible exact ih1 _)
      | (with_reducible exact ih2 _ _ _ _ _)
      | (with_reducible exact ih3 _ _ _ _ _ _)
      | (with_reducible exact ih4 _ _ _ _ _ _)
      | (with_reducible exact impl_DigitSum.mono _ _ _)
      | (with_reducible exact impl_DigitalRoot.mono _ _ _)
      | (with_reducible exact impl_LeastSumPersistent.mono _ _ _)
      | (with_reducible exact impl_SumPersistence.mono _ _ _)
      | (with_reducible exact impl_SumRun.mono _ _ _)
      | (with_reducible exact laws_qSame.mono _ _ _)
      | (with_reducible exact spec_DrawSumRun.mono _ _)
      | (with_reducible exact spec_LeastSumPersistent.mono _ _ _)
      | (with_reducible exact spec_SumPersistence.mono _ _ _)
      | (with_reducible exact spec_SumRun.mono _ _ _)
      | (with_reducible exact LeO.refl _)
      | (with_reducible exact LeO.none _)
      | (with_reducible refine LeO.ite ?_ ?_)
      | (with_reducible refine LeO.bind ?_ (fun _ => ?_))
      | exact ih0 _ _ _ _ _ _ _ _
      | exact ih1 _
      | exact ih2 _ _ _ _ _
      | exact ih3 _ _ _ _ _ _
      | exact ih4 _ _ _ _ _ _
      | exact impl_DigitSum.mono _ _ _
      | exact impl_DigitalRoot.mono _ _ _
      | exact impl_LeastSumPersistent.mono _ _ _
      | exact impl_SumPersistence.mono _ _ _
      | exact impl_SumRun.mono _ _ _
      | exact laws_qSame.mono _ _ _
      | exact spec_DrawSumRun.mono _ _
      | exact spec_LeastSumPersistent.mono _ _ _
      | exact spec_SumPersistence.mono _ _ _
      | exact spec_SumRun.mono _ _ _
      | exact LeO.none _
      | refine LeO.ite ?_ ?_
      | refine LeO.bind ?_ (fun _ => ?_)
    · intro y0 y1 y2 y3 y4
      unfold laws_FnSumsOfDigitsRun.j4
      repeat' first
      | (with_reducible exact ih0 _ _ _ _ _ _ _ _)
      | (with_reducible exact ih1 _)
      | (with_reducible exact ih2 _ _ _ _ _)
      | (with_reducible exact ih3 _ _ _ _ _ _)
      | (with_reducible exact ih4 _ _ _ _ _ _)
      | (with_reducible exact impl_DigitSum.mono _ _ _)
      | (with_reducible exact impl_DigitalRoot.mono _ _ _)
      | (with_reducible exact impl_LeastSumPersistent.mono _ _ _)
      | (with_reducible exact impl_SumPersistence.mono _ _ _)
      | (with_reducible exact impl_SumRun.mono _ _ _)
      | (with_reducible exact laws_qSame.mono _ _ _)
      | (with_reducible exact spec_DrawSumRun.mono _ _)
      | (with_reducible exact spec_LeastSumPersistent.mono _ _ _)
      | (with_reducible exact spec_SumPersistence.mono _ _ _)
      | (with_reducible exact spec_SumRun.mono _ _ _)
      | (with_reducible exact LeO.refl _)
      | (with_reducible exact LeO.none _)
      | (with_reducible refine LeO.ite ?_ ?_)
      | (with_reducible refine LeO.bind ?_ (fun _ => ?_))
      | exact ih0 _ _ _ _ _ _ _ _
      | exact ih1 _
      | exact ih2 _ _ _ _ _
      | exact ih3 _ _ _ _ _ _
      | exact ih4 _ _ _ _ _ _
      | exact impl_DigitSum.mono _ _ _
      | exact impl_DigitalRoot.mono _ _ _
      | exact impl_LeastSumPersistent.mono _ _ _
      | exact impl_SumPersistence.mono _ _ _
      | exact impl_SumRun.mono _ _ _
      | exact laws_qSame.mono _ _ _
      | exact spec_DrawSumRun.mono _ _
      | exact spec_LeastSumPersistent.mono _ _ _
      | exact spec_SumPersistence.mono _ _ _
      | exact spec_SumRun.mono _ _ _
      | exact LeO.none _
      | refine LeO.ite ?_ ?_
      | refine LeO.bind ?_ (fun _ => ?_)
    · intro y0 y1 y2 y3 y4 y5
      unfold laws_FnSumsOfDigitsRun.j1
      repeat' first
      | (with_reducible exact ih0 _ _ _ _ _ _ _ _)
      | (with_reducible exact ih1 _)
      | (with_reducible exact ih2 _ _ _ _ _)
      | (with_reducible exact ih3 _ _ _ _ _ _)
      | (with_reducible exact ih4 _ _ _ _ _ _)
      | (with_reducible exact impl_DigitSum.mono _ _ _)
      | (with_reducible exact impl_DigitalRoot.mono _ _ _)
      | (with_reducible exact impl_LeastSumPersistent.mono _ _ _)
      | (with_reducible exact impl_SumPersistence.mono _ _ _)
      | (with_reducible exact impl_SumRun.mono _ _ _)
      | (with_reducible exact laws_qSame.mono _ _ _)
      | (with_reducible exact spec_DrawSumRun.mono _ _)
      | (with_reducible exact spec_LeastSumPersistent.mono _ _ _)
      | (with_reducible exact spec_SumPersistence.mono _ _ _)
      | (with_reducible exact spec_SumRun.mono _ _ _)
      | (with_reducible exact LeO.refl _)
      | (with_reducible exact LeO.none _)
      | (with_reducible refine LeO.ite ?_ ?_)
      | (with_reducible refine LeO.bind ?_ (fun _ => ?_))
      | exact ih0 _ _ _ _ _ _ _ _
      | exact ih1 _
      | exact ih2 _ _ _ _ _
      | exact ih3 _ _ _ _ _ _
      | exact ih4 _ _ _ _ _ _
      | exact impl_DigitSum.mono _ _ _
      | exact impl_DigitalRoot.mono _ _ _
      | exact impl_LeastSumPersistent.mono _ _ _
      | exact impl_SumPersistence.mono _ _ _
      | exact impl_SumRun.mono _ _ _
      | exact laws_qSame.mono _ _ _
      | exact spec_DrawSumRun.mono _ _
      | exact spec_LeastSumPersistent.mono _ _ _
      | exact spec_SumPersistence.mono _ _ _
      | exact spec_SumRun.mono _ _ _
      | exact LeO.none _
      | refine LeO.ite ?_ ?_
      | refine LeO.bind ?_ (fun _ => ?_)
    · intro y0 y1 y2 y3 y4 y5
      unfold laws_FnSumsOfDigitsRun.l0
      repeat' first
      | (with_reducible exact ih0 _ _ _ _ _ _ _ _)
      | (with_reducible exact ih1 _)
      | (with_reducible exact ih2 _ _ _ _ _)
      | (with_reducible exact ih3 _ _ _ _ _ _)
      | (with_reducible exact ih4 _ _ _ _ _ _)
      | (with_reducible exact impl_DigitSum.mono _ _ _)
      | (with_reducible exact impl_DigitalRoot.mono _ _ _)
      | (with_reducible exact impl_LeastSumPersistent.mono _ _ _)
      | (with_reducible exact impl_SumPersistence.mono _ _ _)
      | (with_reducible exact impl_SumRun.mono _ _ _)
      | (with_reducible exact laws_qSame.mono _ _ _)
      | (with_reducible exact spec_DrawSumRun.mono _ _)
      | (with_reducible exact spec_LeastSumPersistent.mono _ _ _)
      | (with_reducible exact spec_SumPersistence.mono _ _ _)
      | (with_reducible exact spec_SumRun.mono _ _ _)
      | (with_reducible exact LeO.refl _)
      | (with_reducible exact LeO.none _)
      | (with_reducible refine LeO.ite ?_ ?_)
      | (with_reducible refine LeO.bind ?_ (fun _ => ?_))
      | exact ih0 _ _ _ _ _ _ _ _
      | exact ih1 _
      | exact ih2 _ _ _ _ _
      | exact ih3 _ _ _ _ _ _
      | exact ih4 _ _ _ _ _ _
      | exact impl_DigitSum.mono _ _ _
      | exact impl_DigitalRoot.mono _ _ _
      | exact impl_LeastSumPersistent.mono _ _ _
      | exact impl_SumPersistence.mono _ _ _
      | exact impl_SumRun.mono _ _ _
      | exact laws_qSame.mono _ _ _
      | exact spec_DrawSumRun.mono _ _
      | exact spec_LeastSumPersistent.mono _ _ _
      | exact spec_SumPersistence.mono _ _ _
      | exact spec_SumRun.mono _ _ _
      | exact LeO.none _
      | refine LeO.ite ?_ ?_
      | refine LeO.bind ?_ (fun _ => ?_)
theorem laws_FnSumsOfDigitsRun.mono : ∀ a0 a1 k, LeO (laws_FnSumsOfDigitsRun.f k a0 a1) (laws_FnSumsOfDigitsRun.f (k + 1) a0 a1) := by
  intro a0 a1 k
  obtain ⟨ih0, ih1, ih2, ih3, ih4⟩ := laws_FnSumsOfDigitsRun.mono_l k
  unfold laws_FnSumsOfDigitsRun.f
  repeat' first
      | (with_reducible exact ih0 _ _ _ _ _ _ _ _)
      | (with_reducible exact ih1 _)
      | (with_reducible exact ih2 _ _ _ _ _)
      | (with_reducible exact ih3 _ _ _ _ _ _)
      | (with_reducible exact ih4 _ _ _ _ _ _)
      | (with_reducible exact impl_DigitSum.mono _ _ _)
      | (with_reducible exact impl_DigitalRoot.mono _ _ _)
      | (with_reducible exact impl_LeastSumPersistent.mono _ _ _)
      | (with_reducible exact impl_SumPersistence.mono _ _ _)
      | (with_reducible exact impl_SumRun.mono _ _ _)
      | (with_reducible exact laws_qSame.mono _ _ _)
      | (with_reducible exact spec_DrawSumRun.mono _ _)
      | (with_reducible exact spec_LeastSumPersistent.mono _ _ _)
      | (with_reducible exact spec_SumPersistence.mono _ _ _)
      | (with_reducible exact spec_SumRun.mono _ _ _)
      | (with_reducible exact LeO.refl _)
      | (with_reducible exact LeO.none _)
      | (with_reducible refine LeO.ite ?_ ?_)
      | (with_reducible refine LeO.bind ?_ (fun _ => ?_))
      | exact ih0 _ _ _ _ _ _ _ _
      | exact ih1 _
      | exact ih2 _ _ _ _ _
      | exact ih3 _ _ _ _ _ _
      | exact ih4 _ _ _ _ _ _
      | exact impl_DigitSum.mono _ _ _
      | exact impl_DigitalRoot.mono _ _ _
      | exact impl_LeastSumPersistent.mono _ _ _
      | exact impl_SumPersistence.mono _ _ _
      | exact impl_SumRun.mono _ _ _
      | exact laws_qSame.mono _ _ _
      | exact spec_DrawSumRun.mono _ _
      | exact spec_LeastSumPersistent.mono _ _ _
      | exact spec_SumPersistence.mono _ _ _
      | exact spec_SumRun.mono _ _ _
      | exact LeO.none _
      | refine LeO.ite ?_ ?_
      | refine LeO.bind ?_ (fun _ => ?_)
theorem laws_FnSumsOfDigitsRun.j0_no {r : Bool} (hr : r = true) (k : Nat) (x1 : List Int) (x5 : Int) (x6 : Int) (x7 : List Int) (x8 : Bool) (x11 : Int) (x15 : Int) (h : laws_FnSumsOfDigitsRun.j0 k x1 x5 x6 x7 x8 x11 x15 true = some r) : False := by
  subst hr
  cases k with
  | zero => simp [laws_FnSumsOfDigitsRun.j0] at h
  | succ k => simp [laws_FnSumsOfDigitsRun.j0] at h
theorem laws_FnSumsOfDigitsRun.j4_no {r : Bool} (hr : r = true) (k : Nat) (x27 : Int) (x28 : Int) (x29 : Int) (x30 : Bool) (h : laws_FnSumsOfDigitsRun.j4 k x27 x28 x29 x30 true = some r) : False := by
  subst hr
  cases k with
  | zero => simp [laws_FnSumsOfDigitsRun.j4] at h
  | succ k => simp [laws_FnSumsOfDigitsRun.j4] at h
theorem laws_FnSumsOfDigitsRun.j1_no {r : Bool} (hr : r = true) (k : Nat) (x1 : List Int) (x5 : Int) (x6 : Int) (x7 : List Int) (x11 : Int) (h : laws_FnSumsOfDigitsRun.j1 k x1 x5 x6 x7 x11 true = some r) : False := by
  subst hr
  cases k with
  | zero => simp [laws_FnSumsOfDigitsRun.j1] at h
  | succ k => simp [laws_FnSumsOfDigitsRun.j1] at h
set_option maxHeartbeats 8000000 in
set_option maxRecDepth 100000 in
theorem laws_FnSumsOfDigitsRun.calls (k : Nat) (A0 : Option Addr) (c0 : Nat) (l0 : List Int) (A1 : Option Addr) (c1 : Nat) (l1 : List Int) (r : Bool) (w : World) (hr0 : Kd.C (Kd.int .u8) w A0 l0.length l0) (hc0 : l0.length ≤ c0) (hr1 : Kd.C (Kd.int .u8) w A1 l1.length l1) (hc1 : l1.length ≤ c1) (h : laws_FnSumsOfDigitsRun.f k l0 l1 = some r) (hr_ : r = true) :
    Calls Try.prog 10 #[.slice A0 l0.length c0, .slice A1 l1.length c1] w fun e w' => e = .returned (.bool r) ∧ Below w.heap.size w w' := by
  have HR0 := Aside0.mk hr0
  have HC0 := Aside0.mk hc0
  clear hr0 hc0
  have HR1 := Aside0.mk hr1
  have HC1 := Aside0.mk hc1
  clear hr1 hc1
  have HB := Aside0.mk (Below.refl w.heap.size w)
  have H : ((laws_big.f l0 l1).bind fun t260 => (if t260 = true then (some true) else ((spec_DrawSumRun.f k l0).bind fun bt261 => ((impl_SumRun.f k bt261.1 bt261.2).bind fun bt263 => ((spec_SumRun.f k bt261.1 bt261.2).bind fun bt267 => ((impl_SumPersistence.f k bt261.1 bt261.2).bind fun bt271 => ((spec_SumPersistence.f k bt261.1 bt261.2).bind fun bt273 => ((impl_RootByRemainder.f bt261.1 bt261.2).bind fun bt275 => ((spec_RootByRemainder.f bt261.1 bt261.2).bind fun bt277 => (if (bt263.2 != bt267.2) = true then (laws_FnSumsOfDigitsRun.j0 k l1 bt261.1 bt261.2 bt263.1 bt263.2 bt271.1 bt275.1 true) else ((laws_qSame.f k bt263.1 bt267.1).bind fun t279 => (if t279 = true then (if (bt271.2 != bt273.2) = true then (laws_FnSumsOfDigitsRun.j0 k l1 bt261.1 bt261.2 bt263.1 bt263.2 bt271.1 bt275.1 true) else (if bt271.1 = bt273.1 then (if (bt275.2 != bt277.2) = true then (laws_FnSumsOfDigitsRun.j0 k l1 bt261.1 bt261.2 bt263.1 bt263.2 bt271.1 bt275.1 true) else (if bt275.1 = bt277.1 then (if (bt271.2 != bt263.2) = true then (laws_FnSumsOfDigitsRun.j0 k l1 bt261.1 bt261.2 bt263.1 bt263.2 bt271.1 bt275.1 true) else (laws_FnSumsOfDigitsRun.j0 k l1 bt261.1 bt261.2 bt263.1 bt263.2 bt271.1 bt275.1 (bt275.2 != bt263.2))) else (laws_FnSumsOfDigitsRun.j0 k l1 bt261.1 bt261.2 bt263.1 bt263.2 bt271.1 bt275.1 true))) else (laws_FnSumsOfDigitsRun.j0 k l1 bt261.1 bt261.2 bt263.1 bt263.2 bt271.1 bt275.1 true))) else (laws_FnSumsOfDigitsRun.j0 k l1 bt261.1 bt261.2 bt263.1 bt263.2 bt271.1 bt275.1 true))))))))))))) = some r := h
  clear h
  have HR_ := Aside0.mk hr_
  clear hr_
  replace H := Option.bind_eq_some_iff.mp H
  obtain ⟨t260, A30, H⟩ := H
  replace H : (if t260 = true then (some true) else ((spec_DrawSumRun.f k l0).bind fun bt261 => ((impl_SumRun.f k bt261.1 bt261.2).bind fun bt263 => ((spec_SumRun.f k bt261.1 bt261.2).bind fun bt267 => ((impl_SumPersistence.f k bt261.1 bt261.2).bind fun bt271 => ((spec_SumPersistence.f k bt261.1 bt261.2).bind fun bt273 => ((impl_RootByRemainder.f bt261.1 bt261.2).bind fun bt275 => ((spec_RootByRemainder.f bt261.1 bt261.2).bind fun bt277 => (if (bt263.2 != bt267.2) = true then (laws_FnSumsOfDigitsRun.j0 k l1 bt261.1 bt261.2 bt263.1 bt263.2 bt271.1 bt275.1 true) else ((laws_qSame.f k bt263.1 bt267.1).bind fun t279 => (if t279 = true then (if (bt271.2 != bt273.2) = true then (laws_FnSumsOfDigitsRun.j0 k l1 bt261.1 bt261.2 bt263.1 bt263.2 bt271.1 bt275.1 true) else (if bt271.1 = bt273.1 then (if (bt275.2 != bt277.2) = true then (laws_FnSumsOfDigitsRun.j0 k l1 bt261.1 bt261.2 bt263.1 bt263.2 bt271.1 bt275.1 true) else (if bt275.1 = bt277.1 then (if (bt271.2 != bt263.2) = true then (laws_FnSumsOfDigitsRun.j0 k l1 bt261.1 bt261.2 bt263.1 bt263.2 bt271.1 bt275.1 true) else (laws_FnSumsOfDigitsRun.j0 k l1 bt261.1 bt261.2 bt263.1 bt263.2 bt271.1 bt275.1 (bt275.2 != bt263.2))) else (laws_FnSumsOfDigitsRun.j0 k l1 bt261.1 bt261.2 bt263.1 bt263.2 bt271.1 bt275.1 true))) else (laws_FnSumsOfDigitsRun.j0 k l1 bt261.1 bt261.2 bt263.1 bt263.2 bt271.1 bt275.1 true))) else (laws_FnSumsOfDigitsRun.j0 k l1 bt261.1 bt261.2 bt263.1 bt263.2 bt271.1 bt275.1 true)))))))))))) = some r := H
  have A3 := Aside0.mk A30
  clear A30
  by_cases c4 : t260 = true
  · subst c4
    have H1 : (some true) = some r := by rw [if_pos rfl] at H; exact H
    clear H
    have H := H1
    clear H1
    as_aux_lemma =>
      obtain rfl := Option.some.inj H
      go_enter Try.func10, Try.ntmps10
      go_wp2_with (first | ((with_reducible refine gate_callee (f := 25) rfl ?_); refine goesL_ (some 37) rfl rfl Try.func25 (by kernel_rfl) rfl #[.slice A0 l0.length c0, .slice A1 l1.length c1] rfl (by (try simp only [List.map_toArray, List.map_cons, List.map_nil]); first | done | rfl | (simp only [List.length_drop, List.length_take]; rfl)) ?_; (with_reducible refine (laws_big.calls _ _ l0 _ _ l1 true _ ?side1 ?side2 ?side3 ?side4 A3.out).mono ?_); (case side1 => repeat (first | exact HR0.out | (with_reducible refine Kd.C_alloc ?_ _) | (with_reducible refine Kd.C_drewN ?_ _) | (with_reducible refine Kd.C_drew ?_))); (case side2 => exact HC0.out); (case side3 => repeat (first | exact HR1.out | (with_reducible refine Kd.C_alloc ?_ _) | (with_reducible refine Kd.C_drewN ?_ _) | (with_reducible refine Kd.C_drew ?_))); (case side4 => exact HC1.out); rintro e w' ⟨rfl, ⟨nd, rfl⟩⟩; refine ⟨_, rfl, ?_⟩))
      go_ret
      exact ⟨by first | rfl | (simp [errW_none, errW_some] <;> rfl) | (simp [*, errW_none, errW_some] <;> rfl), by repeat (first | (with_reducible first | exact HB.out | apply below_alloc | apply pw_below_drewN | apply below_drew1) | exact HB.out)⟩
  · replace c4 := Bool.eq_false_iff.mpr c4
    subst c4
    have H1 : ((spec_DrawSumRun.f k l0).bind fun bt261 => ((impl_SumRun.f k bt261.1 bt261.2).bind fun bt263 => ((spec_SumRun.f k bt261.1 bt261.2).bind fun bt267 => ((impl_SumPersistence.f k bt261.1 bt261.2).bind fun bt271 => ((spec_SumPersistence.f k bt261.1 bt261.2).bind fun bt273 => ((impl_RootByRemainder.f bt261.1 bt261.2).bind fun bt275 => ((spec_RootByRemainder.f bt261.1 bt261.2).bind fun bt277 => (if (bt263.2 != bt267.2) = true then (laws_FnSumsOfDigitsRun.j0 k l1 bt261.1 bt261.2 bt263.1 bt263.2 bt271.1 bt275.1 true) else ((laws_qSame.f k bt263.1 bt267.1).bind fun t279 => (if t279 = true then (if (bt271.2 != bt273.2) = true then (laws_FnSumsOfDigitsRun.j0 k l1 bt261.1 bt261.2 bt263.1 bt263.2 bt271.1 bt275.1 true) else (if bt271.1 = bt273.1 then (if (bt275.2 != bt277.2) = true then (laws_FnSumsOfDigitsRun.j0 k l1 bt261.1 bt261.2 bt263.1 bt263.2 bt271.1 bt275.1 true) else (if bt275.1 = bt277.1 then (if (bt271.2 != bt263.2) = true then (laws_FnSumsOfDigitsRun.j0 k l1 bt261.1 bt261.2 bt263.1 bt263.2 bt271.1 bt275.1 true) else (laws_FnSumsOfDigitsRun.j0 k l1 bt261.1 bt261.2 bt263.1 bt263.2 bt271.1 bt275.1 (bt275.2 != bt263.2))) else (laws_FnSumsOfDigitsRun.j0 k l1 bt261.1 bt261.2 bt263.1 bt263.2 bt271.1 bt275.1 true))) else (laws_FnSumsOfDigitsRun.j0 k l1 bt261.1 bt261.2 bt263.1 bt263.2 bt271.1 bt275.1 true))) else (laws_FnSumsOfDigitsRun.j0 k l1 bt261.1 bt261.2 bt263.1 bt263.2 bt271.1 bt275.1 true))))))))))) = some r := by rw [if_neg (show ¬ (false = true) by decide)] at H; exact H
    clear H
    have H := H1
    clear H1
    replace H := Option.bind_eq_some_iff.mp H
    obtain ⟨⟨t261, t262⟩, A50, H⟩ := H
    replace H : ((impl_SumRun.f k t261 t262).bind fun bt263 => ((spec_SumRun.f k t261 t262).bind fun bt267 => ((impl_SumPersistence.f k t261 t262).bind fun bt271 => ((spec_SumPersistence.f k t261 t262).bind fun bt273 => ((impl_RootByRemainder.f t261 t262).bind fun bt275 => ((spec_RootByRemainder.f t261 t262).bind fun bt277 => (if (bt263.2 != bt267.2) = true then (laws_FnSumsOfDigitsRun.j0 k l1 t261 t262 bt263.1 bt263.2 bt271.1 bt275.1 true) else ((laws_qSame.f k bt263.1 bt267.1).bind fun t279 => (if t279 = true then (if (bt271.2 != bt273.2) = true then (laws_FnSumsOfDigitsRun.j0 k l1 t261 t262 bt263.1 bt263.2 bt271.1 bt275.1 true) else (if bt271.1 = bt273.1 then (if (bt275.2 != bt277.2) = true then (laws_FnSumsOfDigitsRun.j0 k l1 t261 t262 bt263.1 bt263.2 bt271.1 bt275.1 true) else (if bt275.1 = bt277.1 then (if (bt271.2 != bt263.2) = true then (laws_FnSumsOfDigitsRun.j0 k l1 t261 t262 bt263.1 bt263.2 bt271.1 bt275.1 true) else (laws_FnSumsOfDigitsRun.j0 k l1 t261 t262 bt263.1 bt263.2 bt271.1 bt275.1 (bt275.2 != bt263.2))) else (laws_FnSumsOfDigitsRun.j0 k l1 t261 t262 bt263.1 bt263.2 bt271.1 bt275.1 true))) else (laws_FnSumsOfDigitsRun.j0 k l1 t261 t262 bt263.1 bt263.2 bt271.1 bt275.1 true))) else (laws_FnSumsOfDigitsRun.j0 k l1 t261 t262 bt263.1 bt263.2 bt271.1 bt275.1 true)))))))))) = some r := H
    have A5 := Aside0.mk A50
    clear A50
    replace H := Option.bind_eq_some_iff.mp H
    obtain ⟨⟨t263, t264⟩, A60, H⟩ := H
    replace H : ((spec_SumRun.f k t261 t262).bind fun bt267 => ((impl_SumPersistence.f k t261 t262).bind fun bt271 => ((spec_SumPersistence.f k t261 t262).bind fun bt273 => ((impl_RootByRemainder.f t261 t262).bind fun bt275 => ((spec_RootByRemainder.f t261 t262).bind fun bt277 => (if (t264 != bt267.2) = true then (laws_FnSumsOfDigitsRun.j0 k l1 t261 t262 t263 t264 bt271.1 bt275.1 true) else ((laws_qSame.f k t263 bt267.1).bind fun t279 => (if t279 = true then (if (bt271.2 != bt273.2) = true then (laws_FnSumsOfDigitsRun.j0 k l1 t261 t262 t263 t264 bt271.1 bt275.1 true) else (if bt271.1 = bt273.1 then (if (bt275.2 != bt277.2) = true then (laws_FnSumsOfDigitsRun.j0 k l1 t261 t262 t263 t264 bt271.1 bt275.1 true) else (if bt275.1 = bt277.1 then (if (bt271.2 != t264) = true then (laws_FnSumsOfDigitsRun.j0 k l1 t261 t262 t263 t264 bt271.1 bt275.1 true) else (laws_FnSumsOfDigitsRun.j0 k l1 t261 t262 t263 t264 bt271.1 bt275.1 (bt275.2 != t264))) else (laws_FnSumsOfDigitsRun.j0 k l1 t261 t262 t263 t264 bt271.1 bt275.1 true))) else (laws_FnSumsOfDigitsRun.j0 k l1 t261 t262 t263 t264 bt271.1 bt275.1 true))) else (laws_FnSumsOfDigitsRun.j0 k l1 t261 t262 t263 t264 bt271.1 bt275.1 true))))))))) = some r := H
    have A6 := Aside0.mk A60
    clear A60
    replace H := Option.bind_eq_some_iff.mp H
    obtain ⟨⟨t267, t268⟩, A70, H⟩ := H
    replace H : ((impl_SumPersistence.f k t261 t262).bind fun bt271 => ((spec_SumPersistence.f k t261 t262).bind fun bt273 => ((impl_RootByRemainder.f t261 t262).bind fun bt275 => ((spec_RootByRemainder.f t261 t262).bind fun bt277 => (if (t264 != t268) = true then (laws_FnSumsOfDigitsRun.j0 k l1 t261 t262 t263 t264 bt271.1 bt275.1 true) else ((laws_qSame.f k t263 t267).bind fun t279 => (if t279 = true then (if (bt271.2 != bt273.2) = true then (laws_FnSumsOfDigitsRun.j0 k l1 t261 t262 t263 t264 bt271.1 bt275.1 true) else (if bt271.1 = bt273.1 then (if (bt275.2 != bt277.2) = true then (laws_FnSumsOfDigitsRun.j0 k l1 t261 t262 t263 t264 bt271.1 bt275.1 true) else (if bt275.1 = bt277.1 then (if (bt271.2 != t264) = true then (laws_FnSumsOfDigitsRun.j0 k l1 t261 t262 t263 t264 bt271.1 bt275.1 true) else (laws_FnSumsOfDigitsRun.j0 k l1 t261 t262 t263 t264 bt271.1 bt275.1 (bt275.2 != t264))) else (laws_FnSumsOfDigitsRun.j0 k l1 t261 t262 t263 t264 bt271.1 bt275.1 true))) else (laws_FnSumsOfDigitsRun.j0 k l1 t261 t262 t263 t264 bt271.1 bt275.1 true))) else (laws_FnSumsOfDigitsRun.j0 k l1 t261 t262 t263 t264 bt271.1 bt275.1 true)))))))) = some r := H
    have A7 := Aside0.mk A70
    clear A70
    replace H := Option.bind_eq_some_iff.mp H
    obtain ⟨⟨t271, t272⟩, A80, H⟩ := H
    replace H : ((spec_SumPersistence.f k t261 t262).bind fun bt273 => ((impl_RootByRemainder.f t261 t262).bind fun bt275 => ((spec_RootByRemainder.f t261 t262).bind fun bt277 => (if (t264 != t268) = true then (laws_FnSumsOfDigitsRun.j0 k l1 t261 t262 t263 t264 t271 bt275.1 true) else ((laws_qSame.f k t263 t267).bind fun t279 => (if t279 = true then (if (t272 != bt273.2) = true then (laws_FnSumsOfDigitsRun.j0 k l1 t261 t262 t263 t264 t271 bt275.1 true) else (if t271 = bt273.1 then (if (bt275.2 != bt277.2) = true then (laws_FnSumsOfDigitsRun.j0 k l1 t261 t262 t263 t264 t271 bt275.1 true) else (if bt275.1 = bt277.1 then (if (t272 != t264) = true then (laws_FnSumsOfDigitsRun.j0 k l1 t261 t262 t263 t264 t271 bt275.1 true) else (laws_FnSumsOfDigitsRun.j0 k l1 t261 t262 t263 t264 t271 bt275.1 (bt275.2 != t264))) else (laws_FnSumsOfDigitsRun.j0 k l1 t261 t262 t263 t264 t271 bt275.1 true))) else (laws_FnSumsOfDigitsRun.j0 k l1 t261 t262 t263 t264 t271 bt275.1 true))) else (laws_FnSumsOfDigitsRun.j0 k l1 t261 t262 t263 t264 t271 bt275.1 true))))))) = some r := H
    have A8 := Aside0.mk A80
    clear A80
    replace H := Option.bind_eq_some_iff.mp H
    obtain ⟨⟨t273, t274⟩, A90, H⟩ := H
    replace H : ((impl_RootByRemainder.f t261 t262).bind fun bt275 => ((spec_RootByRemainder.f t261 t262).bind fun bt277 => (if (t264 != t268) = true then (laws_FnSumsOfDigitsRun.j0 k l1 t261 t262 t263 t264 t271 bt275.1 true) else ((laws_qSame.f k t263 t267).bind fun t279 => (if t279 = true then (if (t272 != t274) = true then (laws_FnSumsOfDigitsRun.j0 k l1 t261 t262 t263 t264 t271 bt275.1 true) else (if t271 = t273 then (if (bt275.2 != bt277.2) = true then (laws_FnSumsOfDigitsRun.j0 k l1 t261 t262 t263 t264 t271 bt275.1 true) else (if bt275.1 = bt277.1 then (if (t272 != t264) = true then (laws_FnSumsOfDigitsRun.j0 k l1 t261 t262 t263 t264 t271 bt275.1 true) else (laws_FnSumsOfDigitsRun.j0 k l1 t261 t262 t263 t264 t271 bt275.1 (bt275.2 != t264))) else (laws_FnSumsOfDigitsRun.j0 k l1 t261 t262 t263 t264 t271 bt275.1 true))) else (laws_FnSumsOfDigitsRun.j0 k l1 t261 t262 t263 t264 t271 bt275.1 true))) else (laws_FnSumsOfDigitsRun.j0 k l1 t261 t262 t263 t264 t271 bt275.1 true)))))) = some r := H
    have A9 := Aside0.mk A90
    clear A90
    replace H := Option.bind_eq_some_iff.mp H
    obtain ⟨⟨t275, t276⟩, A100, H⟩ := H
    replace H : ((spec_RootByRemainder.f t261 t262).bind fun bt277 => (if (t264 != t268) = true then (laws_FnSumsOfDigitsRun.j0 k l1 t261 t262 t263 t264 t271 t275 true) else ((laws_qSame.f k t263 t267).bind fun t279 => (if t279 = true then (if (t272 != t274) = true then (laws_FnSumsOfDigitsRun.j0 k l1 t261 t262 t263 t264 t271 t275 true) else (if t271 = t273 then (if (t276 != bt277.2) = true then (laws_FnSumsOfDigitsRun.j0 k l1 t261 t262 t263 t264 t271 t275 true) else (if t275 = bt277.1 then (if (t272 != t264) = true then (laws_FnSumsOfDigitsRun.j0 k l1 t261 t262 t263 t264 t271 t275 true) else (laws_FnSumsOfDigitsRun.j0 k l1 t261 t262 t263 t264 t271 t275 (t276 != t264))) else (laws_FnSumsOfDigitsRun.j0 k l1 t261 t262 t263 t264 t271 t275 true))) else (laws_FnSumsOfDigitsRun.j0 k l1 t261 t262 t263 t264 t271 t275 true))) else (laws_FnSumsOfDigitsRun.j0 k l1 t261 t262 t263 t264 t271 t275 true))))) = some r := H
    have A10 := Aside0.mk A100
    clear A100
    replace H := Option.bind_eq_some_iff.mp H
    obtain ⟨⟨t277, t278⟩, A110, H⟩ := H
    replace H : (if (t264 != t268) = true then (laws_FnSumsOfDigitsRun.j0 k l1 t261 t262 t263 t264 t271 t275 true) else ((laws_qSame.f k t263 t267).bind fun t279 => (if t279 = true then (if (t272 != t274) = true then (laws_FnSumsOfDigitsRun.j0 k l1 t261 t262 t263 t264 t271 t275 true) else (if t271 = t273 then (if (t276 != t278) = true then (laws_FnSumsOfDigitsRun.j0 k l1 t261 t262 t263 t264 t271 t275 true) else (if t275 = t277 then (if (t272 != t264) = true then (laws_FnSumsOfDigitsRun.j0 k l1 t261 t262 t263 t264 t271 t275 true) else (laws_FnSumsOfDigitsRun.j0 k l1 t261 t262 t263 t264 t271 t275 (t276 != t264))) else (laws_FnSumsOfDigitsRun.j0 k l1 t261 t262 t263 t264 t271 t275 true))) else (laws_FnSumsOfDigitsRun.j0 k l1 t261 t262 t263 t264 t271 t275 true))) else (laws_FnSumsOfDigitsRun.j0 k l1 t261 t262 t263 t264 t271 t275 true)))) = some r := H
    have A11 := Aside0.mk A110
    clear A110
    have HC12 := Aside0.mk H
    clear H
    go_enter Try.func10, Try.ntmps10
    go_upto_region 10 with (first | ((with_reducible refine gate_callee (f := 25) rfl ?_); refine goesL_ (some 37) rfl rfl Try.func25 (by kernel_rfl) rfl #[.slice A0 l0.length c0, .slice A1 l1.length c1] rfl (by (try simp only [List.map_toArray, List.map_cons, List.map_nil]); first | done | rfl | (simp only [List.length_drop, List.length_take]; rfl)) ?_; (with_reducible refine (laws_big.calls _ _ l0 _ _ l1 false _ ?side1 ?side2 ?side3 ?side4 A3.out).mono ?_); (case side1 => repeat (first | exact HR0.out | (with_reducible refine Kd.C_alloc ?_ _) | (with_reducible refine Kd.C_drewN ?_ _) | (with_reducible refine Kd.C_drew ?_))); (case side2 => exact HC0.out); (case side3 => repeat (first | exact HR1.out | (with_reducible refine Kd.C_alloc ?_ _) | (with_reducible refine Kd.C_drewN ?_ _) | (with_reducible refine Kd.C_drew ?_))); (case side4 => exact HC1.out); rintro e w' ⟨rfl, ⟨nd, rfl⟩⟩; refine ⟨_, rfl, ?_⟩) | ((with_reducible refine gate_callee (f := 77) rfl ?_); refine goesL_ (some 40) rfl rfl Try.func77 (by kernel_rfl) rfl #[.slice A0 l0.length c0] rfl (by (try simp only [List.map_toArray, List.map_cons, List.map_nil]); first | done | rfl | (simp only [List.length_drop, List.length_take]; rfl)) ?_; (with_reducible refine (spec_DrawSumRun.calls k _ _ l0 t261 t262 _ ?side1 ?side2 A5.out).mono ?_); (case side1 => repeat (first | exact HR0.out | (with_reducible refine Kd.C_alloc ?_ _) | (with_reducible refine Kd.C_drewN ?_ _) | (with_reducible refine Kd.C_drew ?_))); (case side2 => exact HC0.out); rintro e w13 ⟨rfl, hb⟩; refine ⟨_, rfl, ?_⟩; have n0_ := Aside0.mk (below_step (by repeat (first | (with_reducible first | exact HB.out | apply below_alloc | apply pw_below_drewN | apply below_drew1) | exact HB.out)) hb); clear HB; have HB := n0_; clear n0_; (try clear hb); (try clear hb2); (try clear hk); (try clear hi)) | ((with_reducible refine gate_callee (f := 78) rfl ?_); refine goesL_ (some 46) rfl rfl Try.func78 (by kernel_rfl) rfl #[.int .i64 t261, .int .i64 t262] rfl (by (try simp only [List.map_toArray, List.map_cons, List.map_nil]); first | done | rfl | (simp only [List.length_drop, List.length_take]; rfl)) ?_; (with_reducible refine (impl_SumRun.calls k t261 t262 t263 t264 _ A6.out).mono ?_); rintro e w14 ⟨v265, rfl, ho0, hb⟩; refine ⟨_, rfl, ?_⟩; have n0_ := Aside0.mk (Kd.R_lower ho0 (below_size (by repeat (first | (with_reducible first | exact HB.out | apply below_alloc | apply pw_below_drewN | apply below_drew1) | exact HB.out)))); have n1_ := Aside0.mk (below_step (by repeat (first | (with_reducible first | exact HB.out | apply below_alloc | apply pw_below_drewN | apply below_drew1) | exact HB.out)) hb); clear HB; have HO266 := n0_; have HB := n1_; clear n0_ n1_; (try clear hb); (try clear hb2); (try clear hk); (try clear hi); (try clear ho0)) | ((with_reducible refine gate_callee (f := 79) rfl ?_); refine goesL_ (some 52) rfl rfl Try.func79 (by kernel_rfl) rfl #[.int .i64 t261, .int .i64 t262] rfl (by (try simp only [List.map_toArray, List.map_cons, List.map_nil]); first | done | rfl | (simp only [List.length_drop, List.length_take]; rfl)) ?_; (with_reducible refine (spec_SumRun.calls k t261 t262 t267 t268 _ A7.out).mono ?_); rintro e w15 ⟨v269, rfl, ho0, hb⟩; refine ⟨_, rfl, ?_⟩; have n0_ := Aside0.mk (Kd.R_elder' (by (with_reducible repeat (first | apply Kd.R_alloc | apply Kd.R_drewN | apply Kd.R_drew)); exact HO266.out) (Kd.R_base ho0) hb); have n1_ := Aside0.mk (Kd.R_lower (Kd.R_new' ho0 (Kd.R_lt (by (with_reducible repeat (first | apply Kd.R_alloc | apply Kd.R_drewN | apply Kd.R_drew)); exact HO266.out))) (below_size (by repeat (first | (with_reducible first | exact HB.out | apply below_alloc | apply pw_below_drewN | apply below_drew1) | exact HB.out)))); have n2_ := Aside0.mk (below_step (by repeat (first | (with_reducible first | exact HB.out | apply below_alloc | apply pw_below_drewN | apply below_drew1) | exact HB.out)) hb); clear HO266; clear HB; have HO266 := n0_; have HO270 := n1_; have HB := n2_; clear n0_ n1_ n2_; (try clear hb); (try clear hb2); (try clear hk); (try clear hi); (try clear ho0)) | ((with_reducible refine gate_callee (f := 80) rfl ?_); refine goesL_ (some 58) rfl rfl Try.func80 (by kernel_rfl) rfl #[.int .i64 t261, .int .i64 t262] rfl (by (try simp only [List.map_toArray, List.map_cons, List.map_nil]); first | done | rfl | (simp only [List.length_drop, List.length_take]; rfl)) ?_; (with_reducible refine (impl_SumPersistence.calls k t261 t262 t271 t272 _ A8.out).mono ?_); rintro e w16 ⟨rfl, hb⟩; refine ⟨_, rfl, ?_⟩; have n0_ := Aside0.mk (Kd.R_below (by (with_reducible repeat (first | apply Kd.R_alloc | apply Kd.R_drewN | apply Kd.R_drew)); exact HO266.out) hb); have n1_ := Aside0.mk (Kd.R_below (by (with_reducible repeat (first | apply Kd.R_alloc | apply Kd.R_drewN | apply Kd.R_drew)); exact HO270.out) hb); have n2_ := Aside0.mk (below_step (by repeat (first | (with_reducible first | exact HB.out | apply below_alloc | apply pw_below_drewN | apply below_drew1) | exact HB.out)) hb); clear HO266; clear HO270; clear HB; have HO266 := n0_; have HO270 := n1_; have HB := n2_; clear n0_ n1_ n2_; (try clear hb); (try clear hb2); (try clear hk); (try clear hi)) | ((with_reducible refine gate_callee (f := 81) rfl ?_); refine goesL_ (some 64) rfl rfl Try.func81 (by kernel_rfl) rfl #[.int .i64 t261, .int .i64 t262] rfl (by (try simp only [List.map_toArray, List.map_cons, List.map_nil]); first | done | rfl | (simp only [List.length_drop, List.length_take]; rfl)) ?_; (with_reducible refine (spec_SumPersistence.calls k t261 t262 t273 t274 _ A9.out).mono ?_); rintro e w17 ⟨rfl, hb⟩; refine ⟨_, rfl, ?_⟩; have n0_ := Aside0.mk (Kd.R_below (by (with_reducible repeat (first | apply Kd.R_alloc | apply Kd.R_drewN | apply Kd.R_drew)); exact HO266.out) hb); have n1_ := Aside0.mk (Kd.R_below (by (with_reducible repeat (first | apply Kd.R_alloc | apply Kd.R_drewN | apply Kd.R_drew)); exact HO270.out) hb); have n2_ := Aside0.mk (below_step (by repeat (first | (with_reducible first | exact HB.out | apply below_alloc | apply pw_below_drewN | apply below_drew1) | exact HB.out)) hb); clear HO266; clear HO270; clear HB; have HO266 := n0_; have HO270 := n1_; have HB := n2_; clear n0_ n1_ n2_; (try clear hb); (try clear hb2); (try clear hk); (try clear hi)) | ((with_reducible refine gate_callee (f := 82) rfl ?_); refine goesL_ (some 70) rfl rfl Try.func82 (by kernel_rfl) rfl #[.int .i64 t261, .int .i64 t262] rfl (by (try simp only [List.map_toArray, List.map_cons, List.map_nil]); first | done | rfl | (simp only [List.length_drop, List.length_take]; rfl)) ?_; (with_reducible refine (impl_RootByRemainder.calls t261 t262 t275 t276 _ A10.out).mono ?_); rintro e w' ⟨rfl, ⟨nd, rfl⟩⟩; refine ⟨_, rfl, ?_⟩) | ((with_reducible refine gate_callee (f := 83) rfl ?_); refine goesL_ (some 76) rfl rfl Try.func83 (by kernel_rfl) rfl #[.int .i64 t261, .int .i64 t262] rfl (by (try simp only [List.map_toArray, List.map_cons, List.map_nil]); first | done | rfl | (simp only [List.length_drop, List.length_take]; rfl)) ?_; (with_reducible refine (spec_RootByRemainder.calls t261 t262 t277 t278 _ A11.out).mono ?_); rintro e w' ⟨rfl, ⟨nd, rfl⟩⟩; refine ⟨_, rfl, ?_⟩))
    (try simp only [Act.put, List.setIfInBounds_toArray, List.set_cons_zero, List.set_cons_succ])
    go_cut [117] (fun v117 wc => ∃ (kq : Nat) (x117_11 : Bool), v117 = .bool x117_11 ∧ Aside0 (laws_FnSumsOfDigitsRun.j0 kq l1 t261 t262 t263 t264 t271 t275 x117_11 = some r) ∧ Aside0 (kq ≤ k) ∧ Aside0 (Kd.R (Kd.int .i64) 3 wc w.heap.size (fun _ => True) v265 t263) ∧ Aside0 (Below w.heap.size w wc))
    case first =>
      as_aux_lemma =>
      have H := HC12.out
      clear HC12
      by_cases c18 : (t264 != t268) = true
      · rw [if_pos c18] at H
        have c18b0 : (t264 != t268) = true := c18
        (try (have c18b1 : decide (t264 = t268) = false := by simpa using c18))
        (try (have c18b2 : (t264 == t268) = false := by simpa using c18))
        (try (have c18b3 : ¬ (t264 = t268) := by simpa using c18))
        clear c18
        (first | rw [c18b0] | (simp only [i64_w, i32_w]; rw [c18b0]) | skip)
        exact (laws_FnSumsOfDigitsRun.j0_no HR_.out _ _ _ _ _ _ _ _ H).elim
      · rw [if_neg c18] at H
        have c18b0 : (t264 != t268) = false := by simpa using c18
        (try (have c18b1 : decide (t264 = t268) = true := by simpa using c18))
        (try (have c18b2 : (t264 == t268) = true := by simpa using c18))
        clear c18
        (first | rw [c18b0] | (simp only [i64_w, i32_w]; rw [c18b0]) | skip)
        replace H := Option.bind_eq_some_iff.mp H
        obtain ⟨t279, A190, H⟩ := H
        replace H : (if t279 = true then (if (t272 != t274) = true then (laws_FnSumsOfDigitsRun.j0 k l1 t261 t262 t263 t264 t271 t275 true) else (if t271 = t273 then (if (t276 != t278) = true then (laws_FnSumsOfDigitsRun.j0 k l1 t261 t262 t263 t264 t271 t275 true) else (if t275 = t277 then (if (t272 != t264) = true then (laws_FnSumsOfDigitsRun.j0 k l1 t261 t262 t263 t264 t271 t275 true) else (laws_FnSumsOfDigitsRun.j0 k l1 t261 t262 t263 t264 t271 t275 (t276 != t264))) else (laws_FnSumsOfDigitsRun.j0 k l1 t261 t262 t263 t264 t271 t275 true))) else (laws_FnSumsOfDigitsRun.j0 k l1 t261 t262 t263 t264 t271 t275 true))) else (laws_FnSumsOfDigitsRun.j0 k l1 t261 t262 t263 t264 t271 t275 true)) = some r := H
        have A19 := Aside0.mk A190
        clear A190
        by_cases c20 : t279 = true
        · subst c20
          have H1 : (if (t272 != t274) = true then (laws_FnSumsOfDigitsRun.j0 k l1 t261 t262 t263 t264 t271 t275 true) else (if t271 = t273 then (if (t276 != t278) = true then (laws_FnSumsOfDigitsRun.j0 k l1 t261 t262 t263 t264 t271 t275 true) else (if t275 = t277 then (if (t272 != t264) = true then (laws_FnSumsOfDigitsRun.j0 k l1 t261 t262 t263 t264 t271 t275 true) else (laws_FnSumsOfDigitsRun.j0 k l1 t261 t262 t263 t264 t271 t275 (t276 != t264))) else (laws_FnSumsOfDigitsRun.j0 k l1 t261 t262 t263 t264 t271 t275 true))) else (laws_FnSumsOfDigitsRun.j0 k l1 t261 t262 t263 t264 t271 t275 true))) = some r := by rw [if_pos rfl] at H; exact H
          clear H
          have H := H1
          clear H1
          by_cases c21 : (t272 != t274) = true
          · rw [if_pos c21] at H
            have c21b0 : (t272 != t274) = true := c21
            (try (have c21b1 : decide (t272 = t274) = false := by simpa using c21))
            (try (have c21b2 : (t272 == t274) = false := by simpa using c21))
            (try (have c21b3 : ¬ (t272 = t274) := by simpa using c21))
            clear c21
            exact (laws_FnSumsOfDigitsRun.j0_no HR_.out _ _ _ _ _ _ _ _ H).elim
          · rw [if_neg c21] at H
            have c21b0 : (t272 != t274) = false := by simpa using c21
            (try (have c21b1 : decide (t272 = t274) = true := by simpa using c21))
            (try (have c21b2 : (t272 == t274) = true := by simpa using c21))
            clear c21
            by_cases c22 : t271 = t273
            · rw [if_pos c22] at H
              have c22b0 : (t271 == t273) = true := beq_iff_eq.mpr c22
              have c22b1 : (t271 != t273) = false := bne_eq_false_iff_eq.mpr c22
              clear c22
              by_cases c23 : (t276 != t278) = true
              · rw [if_pos c23] at H
                have c23b0 : (t276 != t278) = true := c23
                (try (have c23b1 : decide (t276 = t278) = false := by simpa using c23))
                (try (have c23b2 : (t276 == t278) = false := by simpa using c23))
                (try (have c23b3 : ¬ (t276 = t278) := by simpa using c23))
                clear c23
                exact (laws_FnSumsOfDigitsRun.j0_no HR_.out _ _ _ _ _ _ _ _ H).elim
              · rw [if_neg c23] at H
                have c23b0 : (t276 != t278) = false := by simpa using c23
                (try (have c23b1 : decide (t276 = t278) = true := by simpa using c23))
                (try (have c23b2 : (t276 == t278) = true := by simpa using c23))
                clear c23
                by_cases c24 : t275 = t277
                · rw [if_pos c24] at H
                  have c24b0 : (t275 == t277) = true := beq_iff_eq.mpr c24
                  have c24b1 : (t275 != t277) = false := bne_eq_false_iff_eq.mpr c24
                  clear c24
                  by_cases c25 : (t272 != t264) = true
                  · rw [if_pos c25] at H
                    have c25b0 : (t272 != t264) = true := c25
                    (try (have c25b1 : decide (t272 = t264) = false := by simpa using c25))
                    (try (have c25b2 : (t272 == t264) = false := by simpa using c25))
                    (try (have c25b3 : ¬ (t272 = t264) := by simpa using c25))
                    clear c25
                    exact (laws_FnSumsOfDigitsRun.j0_no HR_.out _ _ _ _ _ _ _ _ H).elim
                  · rw [if_neg c25] at H
                    have c25b0 : (t272 != t264) = false := by simpa using c25
                    (try (have c25b1 : decide (t272 = t264) = true := by simpa using c25))
                    (try (have c25b2 : (t272 == t264) = true := by simpa using c25))
                    clear c25
                    as_aux_lemma =>
                      have H' := Aside0.mk H
                      clear H
                      obtain ⟨Ao26, co26, eo26⟩ := Kd.R_slice HO266.out
                      subst eo26
                      obtain ⟨Ao27, co27, eo27⟩ := Kd.R_slice HO270.out
                      subst eo27
                      go_wp2_with (first | (go_at_call 32; (with_reducible refine (laws_qSame.calls k _ _ t263 _ _ t267 true _ ?side1 ?side2 ?side3 ?side4 A19.out).mono ?_); (case side1 => repeat (first | exact (Kd.R_reads' HO266.out).2.2 | (with_reducible refine Kd.C_alloc ?_ _) | (with_reducible refine Kd.C_drewN ?_ _) | (with_reducible refine Kd.C_drew ?_))); (case side2 => exact (Kd.R_reads' HO266.out).2.1); (case side3 => repeat (first | exact (Kd.R_reads' HO270.out).2.2 | (with_reducible refine Kd.C_alloc ?_ _) | (with_reducible refine Kd.C_drewN ?_ _) | (with_reducible refine Kd.C_drew ?_))); (case side4 => exact (Kd.R_reads' HO270.out).2.1); rintro e w' ⟨rfl, ⟨nd, rfl⟩⟩))
                      go_meet
                      case rel => exact ⟨_, ((t276 != t264)), (by first | rfl | (simp; done) | (simp [*]; done)), H', ⟨by first | omega | exact Nat.le_refl _⟩, ⟨by (with_reducible repeat (first | apply Kd.R_alloc | apply Kd.R_drewN | apply Kd.R_drew)); exact Kd.R_mono HO266.out (fun _ hk => trivial)⟩, ⟨by repeat (first | (with_reducible first | exact HB.out | apply below_alloc | apply pw_below_drewN | apply below_drew1) | exact HB.out)⟩⟩
                · rw [if_neg c24] at H
                  have c24b0 : (t275 == t277) = false := beq_eq_false_iff_ne.mpr c24
                  have c24b1 : (t275 != t277) = true := bne_iff_ne.mpr c24
                  exact (laws_FnSumsOfDigitsRun.j0_no HR_.out _ _ _ _ _ _ _ _ H).elim
            · rw [if_neg c22] at H
              have c22b0 : (t271 == t273) = false := beq_eq_false_iff_ne.mpr c22
              have c22b1 : (t271 != t273) = true := bne_iff_ne.mpr c22
              exact (laws_FnSumsOfDigitsRun.j0_no HR_.out _ _ _ _ _ _ _ _ H).elim
        · replace c20 := Bool.eq_false_iff.mpr c20
          subst c20
          have H1 : (laws_FnSumsOfDigitsRun.j0 k l1 t261 t262 t263 t264 t271 t275 true) = some r := by rw [if_neg (show ¬ (false = true) by decide)] at H; exact H
          clear H
          have H := H1
          clear H1
          exact (laws_FnSumsOfDigitsRun.j0_no HR_.out _ _ _ _ _ _ _ _ H).elim
    case rest =>
      as_aux_lemma =>
      clear HC12
      try clear c1
      try clear c2
      try clear p2
      try clear c4
      try clear c7
      try clear c8
      try clear c10
      try clear c18
      try clear c18b0
      try clear c18b1
      try clear c18b2
      try clear c20
      try clear c21
      try clear c21b0
      try clear c21b1
      try clear c21b2
      try clear c22
      try clear c22b0
      try clear c22b1
      try clear c23
      try clear c23b0
      try clear c23b1
      try clear c23b2
      try clear c24
      try clear c24b0
      try clear c24b1
      try clear c25
      try clear c25b0
      try clear c25b1
      try clear c25b2
      obtain ⟨kq, x117_11, rfl, HA, HJ11, HO_7, HB⟩ := hcut
      cases kq with
      | zero => exact absurd HA.out (by simp [laws_FnSumsOfDigitsRun.j0])
      | succ kj11 =>
        have H := HA.out
        clear HA
        simp only [laws_FnSumsOfDigitsRun.j0] at H
        by_cases c28 : x117_11 = true
        · subst c28
          have H1 : (some false) = some r := by rw [if_pos rfl] at H; exact H
          clear H
          have H := H1
          clear H1
          exact absurd (Option.some.inj H) (by rw [HR_.out]; decide)
        · replace c28 := Bool.eq_false_iff.mpr c28
          subst c28
          have H1 : (if t264 = true then (if 0 ≤ (wrap64 ((t263.length : Int) - 1)) then (if (wrap64 ((t263.length : Int) - 1)) < (t263.length : Int) then ((impl_DigitalRoot.f kj11 t261 t262).bind fun bt281 => (if (t263.length : Int) = (wrap64 (t271 + 1)) then (if (rd t263 (wrap64 ((t263.length : Int) - 1))) = t275 then (if bt281.2 = true then (laws_FnSumsOfDigitsRun.j1 kj11 l1 t261 t262 t263 t271 (bt281.1 != t275)) else (laws_FnSumsOfDigitsRun.j1 kj11 l1 t261 t262 t263 t271 true)) else (laws_FnSumsOfDigitsRun.j1 kj11 l1 t261 t262 t263 t271 true)) else (laws_FnSumsOfDigitsRun.j1 kj11 l1 t261 t262 t263 t271 true))) else (none)) else (none)) else (laws_FnSumsOfDigitsRun.j3 kj11 l1)) = some r := by rw [if_neg (show ¬ (false = true) by decide)] at H; exact H
          clear H
          have H := H1
          clear H1
          have HC29 := Aside0.mk H
          clear H
          go_upto_if 118 with (fail)
          go_cut [] (fun wc => ∃ (kq : Nat), Aside0 (laws_FnSumsOfDigitsRun.j3 kq l1 = some r) ∧ Aside0 (kq ≤ kj11) ∧ Aside0 (Below w.heap.size w wc))
          case first =>
            as_aux_lemma =>
            have H := HC29.out
            clear HC29
            by_cases c30 : t264 = true
            · subst c30
              have H1 : (if 0 ≤ (wrap64 ((t263.length : Int) - 1)) then (if (wrap64 ((t263.length : Int) - 1)) < (t263.length : Int) then ((impl_DigitalRoot.f kj11 t261 t262).bind fun bt281 => (if (t263.length : Int) = (wrap64 (t271 + 1)) then (if (rd t263 (wrap64 ((t263.length : Int) - 1))) = t275 then (if bt281.2 = true then (laws_FnSumsOfDigitsRun.j1 kj11 l1 t261 t262 t263 t271 (bt281.1 != t275)) else (laws_FnSumsOfDigitsRun.j1 kj11 l1 t261 t262 t263 t271 true)) else (laws_FnSumsOfDigitsRun.j1 kj11 l1 t261 t262 t263 t271 true)) else (laws_FnSumsOfDigitsRun.j1 kj11 l1 t261 t262 t263 t271 true))) else (none)) else (none)) = some r := by rw [if_pos rfl] at H; exact H
              clear H
              have H := H1
              clear H1
              obtain ⟨ji31, hji31⟩ : ∃ j_ : Int, (wrap64 ((t263.length : Int) - 1)) = j_ := ⟨_, rfl⟩
              replace H : (if 0 ≤ (ji31) then (if (ji31) < (t263.length : Int) then ((impl_DigitalRoot.f kj11 t261 t262).bind fun bt281 => (if (t263.length : Int) = (wrap64 (t271 + 1)) then (if (rd t263 (ji31)) = t275 then (if bt281.2 = true then (laws_FnSumsOfDigitsRun.j1 kj11 l1 t261 t262 t263 t271 (bt281.1 != t275)) else (laws_FnSumsOfDigitsRun.j1 kj11 l1 t261 t262 t263 t271 true)) else (laws_FnSumsOfDigitsRun.j1 kj11 l1 t261 t262 t263 t271 true)) else (laws_FnSumsOfDigitsRun.j1 kj11 l1 t261 t262 t263 t271 true))) else (none)) else (none)) = some r := by first | (rw [hji31] at H; exact H) | (simp only [hji31] at H ⊢; exact H)
              have hji31w : (IntKind.i64.wrap ((t263.length : Int) - 1)) = ji31 := (i64_w _).trans hji31
              by_cases c32 : 0 ≤ (ji31)
              · rw [if_pos c32] at H
                have c32b0 : decide (0 ≤ (ji31)) = true := decide_eq_true c32
                clear c32
                (first | rw [c32b0] | (simp only [i64_w, i32_w]; rw [c32b0]) | skip)
                by_cases c33 : (ji31) < (t263.length : Int)
                · rw [if_pos c33] at H
                  have c33b0 : decide ((ji31) < (t263.length : Int)) = true := decide_eq_true c33
                  clear c33
                  replace H := Option.bind_eq_some_iff.mp H
                  obtain ⟨⟨t281, t282⟩, A340, H⟩ := H
                  replace H : (if (t263.length : Int) = (wrap64 (t271 + 1)) then (if (rd t263 (ji31)) = t275 then (if t282 = true then (laws_FnSumsOfDigitsRun.j1 kj11 l1 t261 t262 t263 t271 (t281 != t275)) else (laws_FnSumsOfDigitsRun.j1 kj11 l1 t261 t262 t263 t271 true)) else (laws_FnSumsOfDigitsRun.j1 kj11 l1 t261 t262 t263 t271 true)) else (laws_FnSumsOfDigitsRun.j1 kj11 l1 t261 t262 t263 t271 true)) = some r := H
                  have A34 := Aside0.mk A340
                  clear A340
                  have HC35 := Aside0.mk H
                  clear H
                  obtain ⟨Ao36, co36, eo36⟩ := Kd.R_slice HO_7.out
                  subst eo36
                  have p280 : 0 ≤ ((ji31) : Int) := of_decide_eq_true (by first | (with_reducible assumption) | assumption)
                  have q280 : (ji31) < (t263.length : Int) := of_decide_eq_true (by first | (with_reducible assumption) | assumption)
                  obtain ⟨ad280, e280, hx280_0⟩ := Kd.at_int (Kd.R_reads' HO_7.out).2.2 (ji31) p280 q280
                  cases e280
                  replace p280 := eq_true p280
                  replace q280 := eq_true q280
                  go_upto_region 15 with (first | ((with_reducible refine gate_callee (f := 84) rfl ?_); refine goesL_ (some 128) rfl rfl Try.func84 (by kernel_rfl) rfl #[.int .i64 t261, .int .i64 t262] rfl (by (try simp only [List.map_toArray, List.map_cons, List.map_nil]); first | done | rfl | (simp only [List.length_drop, List.length_take]; rfl)) ?_; (with_reducible refine (impl_DigitalRoot.calls kj11 t261 t262 t281 t282 _ A34.out).mono ?_); rintro e w37 ⟨rfl, hb⟩; refine ⟨_, rfl, ?_⟩; have n0_ := Aside0.mk (Kd.R_below (by (with_reducible repeat (first | apply Kd.R_alloc | apply Kd.R_drewN | apply Kd.R_drew)); exact HO_7.out) hb); have n1_ := Aside0.mk (below_step (by repeat (first | (with_reducible first | exact HB.out | apply below_alloc | apply pw_below_drewN | apply below_drew1) | exact HB.out)) hb); clear HO_7; clear HB; have HO_7 := n0_; have HB := n1_; clear n0_ n1_; (try clear hb); (try clear hb2); (try clear hk); (try clear hi)))
                  (try simp only [Act.put, List.setIfInBounds_toArray, List.set_cons_zero, List.set_cons_succ])
                  go_cut [149] (fun v149 wc => ∃ (kq : Nat) (x149_34 : Bool), v149 = .bool x149_34 ∧ Aside0 (laws_FnSumsOfDigitsRun.j1 kq l1 t261 t262 t263 t271 x149_34 = some r) ∧ Aside0 (kq ≤ kj11) ∧ Aside0 (Kd.R (Kd.int .i64) 3 wc w.heap.size (fun _ => True) (.slice (some ad280) t263.length co36) t263) ∧ Aside0 (Below w.heap.size w wc))
                  case first =>
                    as_aux_lemma =>
                    have H := HC35.out
                    clear HC35
                    by_cases c38 : (t263.length : Int) = (wrap64 (t271 + 1))
                    · rw [if_pos c38] at H
                      have c38b0 : ((t263.length : Int) == (wrap64 (t271 + 1))) = true := beq_iff_eq.mpr c38
                      have c38b1 : ((t263.length : Int) != (wrap64 (t271 + 1))) = false := bne_eq_false_iff_eq.mpr c38
                      clear c38
                      (first | rw [c38b0] | (simp only [i64_w, i32_w]; rw [c38b0]) | skip)
                      by_cases c39 : (rd t263 (ji31)) = t275
                      · rw [if_pos c39] at H
                        have c39b0 : ((rd t263 (ji31)) == t275) = true := beq_iff_eq.mpr c39
                        have c39b1 : ((rd t263 (ji31)) != t275) = false := bne_eq_false_iff_eq.mpr c39
                        clear c39
                        by_cases c40 : t282 = true
                        · subst c40
                          have H1 : (laws_FnSumsOfDigitsRun.j1 kj11 l1 t261 t262 t263 t271 (t281 != t275)) = some r := by rw [if_pos rfl] at H; exact H
                          clear H
                          have H := H1
                          clear H1
                          as_aux_lemma =>
                            have H' := Aside0.mk H
                            clear H
                            go_wp2
                            go_meet
                            case rel => exact ⟨_, ((t281 != t275)), (by first | rfl | (simp; done) | (simp [*]; done)), H', ⟨by have := HJ11.out; first | omega | exact Nat.le_refl _⟩, ⟨by (with_reducible repeat (first | apply Kd.R_alloc | apply Kd.R_drewN | apply Kd.R_drew)); exact HO_7.out⟩, ⟨by repeat (first | (with_reducible first | exact HB.out | apply below_alloc | apply pw_below_drewN | apply below_drew1) | exact HB.out)⟩⟩
                        · replace c40 := Bool.eq_false_iff.mpr c40
                          subst c40
                          have H1 : (laws_FnSumsOfDigitsRun.j1 kj11 l1 t261 t262 t263 t271 true) = some r := by rw [if_neg (show ¬ (false = true) by decide)] at H; exact H
                          clear H
                          have H := H1
                          clear H1
                          exact (laws_FnSumsOfDigitsRun.j1_no HR_.out _ _ _ _ _ _ H).elim
                      · rw [if_neg c39] at H
                        have c39b0 : ((rd t263 (ji31)) == t275) = false := beq_eq_false_iff_ne.mpr c39
                        have c39b1 : ((rd t263 (ji31)) != t275) = true := bne_iff_ne.mpr c39
                        exact (laws_FnSumsOfDigitsRun.j1_no HR_.out _ _ _ _ _ _ H).elim
                    · rw [if_neg c38] at H
                      have c38b0 : ((t263.length : Int) == (wrap64 (t271 + 1))) = false := beq_eq_false_iff_ne.mpr c38
                      have c38b1 : ((t263.length : Int) != (wrap64 (t271 + 1))) = true := bne_iff_ne.mpr c38
                      (first | rw [c38b0] | (simp only [i64_w, i32_w]; rw [c38b0]) | skip)
                      exact (laws_FnSumsOfDigitsRun.j1_no HR_.out _ _ _ _ _ _ H).elim
                  case rest =>
                    as_aux_lemma =>
                    clear HC35
                    try clear c1
                    try clear c2
                    try clear p2
                    try clear q2
                    try clear hx2
                    try clear c3
                    try clear c4
                    try clear p6
                    try clear c7
                    try clear c8
                    try clear c10
                    try clear c18
                    try clear c18b0
                    try clear c18b1
                    try clear c18b2
                    try clear c20
                    try clear c21
                    try clear c21b0
                    try clear c21b1
                    try clear c21b2
                    try clear c22
                    try clear c22b0
                    try clear c22b1
                    try clear c23
                    try clear c23b0
                    try clear c23b1
                    try clear c23b2
                    try clear c24
                    try clear c24b0
                    try clear c24b1
                    try clear c25
                    try clear c25b0
                    try clear c25b1
                    try clear c25b2
                    try clear c28
                    try clear p28
                    try clear q28
                    try clear hx28
                    try clear c30
                    try clear c32
                    try clear c32b0
                    try clear c33
                    try clear c33b0
                    try clear c38
                    try clear c38b0
                    try clear c38b1
                    try clear c39
                    try clear c39b0
                    try clear c39b1
                    try clear c40
                    try clear hx280_0
                    try clear p2
                    try clear p280
                    try clear q280
                    obtain ⟨kq, x149_34, rfl, HA, HJ34, HO_7, HB⟩ := hcut
                    cases kq with
                    | zero => exact absurd HA.out (by simp [laws_FnSumsOfDigitsRun.j1])
                    | succ kj34 =>
                      have H := HA.out
                      clear HA
                      simp only [laws_FnSumsOfDigitsRun.j1] at H
                      by_cases c41 : x149_34 = true
                      · subst c41
                        have H1 : (some false) = some r := by rw [if_pos rfl] at H; exact H
                        clear H
                        have H := H1
                        clear H1
                        exact absurd (Option.some.inj H) (by rw [HR_.out]; decide)
                      · replace c41 := Bool.eq_false_iff.mpr c41
                        subst c41
                        have H1 : (laws_FnSumsOfDigitsRun.l0 kj34 l1 t261 t262 t263 t271 1) = some r := by rw [if_neg (show ¬ (false = true) by decide)] at H; exact H
                        clear H
                        have H := H1
                        clear H1
                        have H' := Aside0.mk H
                        clear H
                        go_wp2
                        go_loopg [22] kj34 (fun kq v22 w' => ∃ (x22_3 : Int), v22 = .int .i64 x22_3 ∧ Aside0 (laws_FnSumsOfDigitsRun.l0 kq l1 t261 t262 t263 t271 x22_3 = some r) ∧ Aside0 (kq ≤ kj34) ∧ Aside0 (Kd.R (Kd.int .i64) 3 w' w.heap.size (fun _ => True) (.slice (some ad280) t263.length co36) t263) ∧ Aside0 (Below w.heap.size w w'))
                        case atStart => exact ⟨(1), (by first | rfl | (simp; done) | (simp [*]; done)), H', ⟨Nat.le_refl _⟩, ⟨by (with_reducible repeat (first | apply Kd.R_alloc | apply Kd.R_drewN | apply Kd.R_drew)); exact HO_7.out⟩, ⟨by repeat (first | (with_reducible first | exact HB.out | apply below_alloc | apply pw_below_drewN | apply below_drew1) | exact HB.out)⟩⟩
                        case round =>
                          as_aux_lemma =>
                          clear H'
                          try clear c1
                          try clear c2
                          try clear p2
                          try clear q2
                          try clear hx2
                          try clear c3
                          try clear c4
                          try clear p6
                          try clear c7
                          try clear c8
                          try clear c10
                          try clear c18
                          try clear c18b0
                          try clear c18b1
                          try clear c18b2
                          try clear c20
                          try clear c21
                          try clear c21b0
                          try clear c21b1
                          try clear c21b2
                          try clear c22
                          try clear c22b0
                          try clear c22b1
                          try clear c23
                          try clear c23b0
                          try clear c23b1
                          try clear c23b2
                          try clear c24
                          try clear c24b0
                          try clear c24b1
                          try clear c25
                          try clear c25b0
                          try clear c25b1
                          try clear c25b2
                          try clear c28
                          try clear p28
                          try clear q28
                          try clear hx28
                          try clear c30
                          try clear c32
                          try clear c32b0
                          try clear c33
                          try clear c33b0
                          try clear c38
                          try clear c38b0
                          try clear c38b1
                          try clear c39
                          try clear c39b0
                          try clear c39b1
                          try clear c40
                          try clear c41
                          try clear hx280_0
                          try clear p2
                          try clear p28
                          try clear p280
                          try clear p6
                          try clear q2
                          try clear q28
                          try clear q280
                          obtain ⟨x22_3, rfl, HA, HK3, HO_7, HB⟩ := hrel
                          cases gk with
                          | zero => exact absurd HA.out (by simp [laws_FnSumsOfDigitsRun.l0])
                          | succ k3 =>
                            have H := HA.out
                            clear HA
                            simp only [laws_FnSumsOfDigitsRun.l0] at H
                            by_cases c42 : x22_3 < (t263.length : Int)
                            · rw [if_pos c42] at H
                              have c42b0 : decide (x22_3 < (t263.length : Int)) = true := decide_eq_true c42
                              clear c42
                              obtain ⟨ji43, hji43⟩ : ∃ j_ : Int, (wrap64 (x22_3 - 1)) = j_ := ⟨_, rfl⟩
                              replace H : (if 0 ≤ (ji43) then (if (ji43) < (t263.length : Int) then ((impl_DigitSum.f k3 (rd t263 (ji43)) t262).bind fun bt284 => (if bt284.2 = true then (if 0 ≤ x22_3 then (if bt284.1 = (rd t263 x22_3) then (if bt284.1 ≥ (rd t263 (ji43)) then (some false) else (if (wrap64 (t262 - 1)) = 0 then (none) else (if (Int.tmod (wrap64 ((rd t263 (ji43)) - bt284.1)) (wrap64 (t262 - 1))) = 0 then (laws_FnSumsOfDigitsRun.l0 k3 l1 t261 t262 t263 t271 (wrap64 (x22_3 + 1))) else (some false)))) else (some false)) else (none)) else (some false))) else (none)) else (none)) = some r := by first | (rw [hji43] at H; exact H) | (simp only [hji43] at H ⊢; exact H)
                              have hji43w : (IntKind.i64.wrap (x22_3 - 1)) = ji43 := (i64_w _).trans hji43
                              by_cases c44 : 0 ≤ (ji43)
                              · rw [if_pos c44] at H
                                have c44b0 : decide (0 ≤ (ji43)) = true := decide_eq_true c44
                                clear c44
                                by_cases c45 : (ji43) < (t263.length : Int)
                                · rw [if_pos c45] at H
                                  have c45b0 : decide ((ji43) < (t263.length : Int)) = true := decide_eq_true c45
                                  clear c45
                                  replace H := Option.bind_eq_some_iff.mp H
                                  obtain ⟨⟨t284, t285⟩, A460, H⟩ := H
                                  replace H : (if t285 = true then (if 0 ≤ x22_3 then (if t284 = (rd t263 x22_3) then (if t284 ≥ (rd t263 (ji43)) then (some false) else (if (wrap64 (t262 - 1)) = 0 then (none) else (if (Int.tmod (wrap64 ((rd t263 (ji43)) - t284)) (wrap64 (t262 - 1))) = 0 then (laws_FnSumsOfDigitsRun.l0 k3 l1 t261 t262 t263 t271 (wrap64 (x22_3 + 1))) else (some false)))) else (some false)) else (none)) else (some false)) = some r := H
                                  have A46 := Aside0.mk A460
                                  clear A460
                                  by_cases c47 : t285 = true
                                  · subst c47
                                    have H1 : (if 0 ≤ x22_3 then (if t284 = (rd t263 x22_3) then (if t284 ≥ (rd t263 (ji43)) then (some false) else (if (wrap64 (t262 - 1)) = 0 then (none) else (if (Int.tmod (wrap64 ((rd t263 (ji43)) - t284)) (wrap64 (t262 - 1))) = 0 then (laws_FnSumsOfDigitsRun.l0 k3 l1 t261 t262 t263 t271 (wrap64 (x22_3 + 1))) else (some false)))) else (some false)) else (none)) = some r := by rw [if_pos rfl] at H; exact H
                                    clear H
                                    have H := H1
                                    clear H1
                                    by_cases c48 : 0 ≤ x22_3
                                    · rw [if_pos c48] at H
                                      have c48b0 : decide (0 ≤ x22_3) = true := decide_eq_true c48
                                      clear c48
                                      by_cases c49 : t284 = (rd t263 x22_3)
                                      · rw [if_pos c49] at H
                                        have c49b0 : (t284 == (rd t263 x22_3)) = true := beq_iff_eq.mpr c49
                                        have c49b1 : (t284 != (rd t263 x22_3)) = false := bne_eq_false_iff_eq.mpr c49
                                        clear c49
                                        by_cases c50 : t284 ≥ (rd t263 (ji43))
                                        · rw [if_pos c50] at H
                                          have c50b0 : decide ((rd t263 (ji43)) ≤ t284) = true := decide_eq_true c50
                                          clear c50
                                          exact absurd (Option.some.inj H) (by rw [HR_.out]; decide)
                                        · rw [if_neg c50] at H
                                          have c50b0 : decide ((rd t263 (ji43)) ≤ t284) = false := decide_eq_false c50
                                          clear c50
                                          by_cases c51 : (wrap64 (t262 - 1)) = 0
                                          · rw [if_pos c51] at H
                                            exact absurd H (by simp)
                                          · rw [if_neg c51] at H
                                            have c51b0 : ((wrap64 (t262 - 1)) == 0) = false := beq_eq_false_iff_ne.mpr c51
                                            have c51b1 : ((wrap64 (t262 - 1)) != 0) = true := bne_iff_ne.mpr c51
                                            by_cases c52 : (Int.tmod (wrap64 ((rd t263 (ji43)) - t284)) (wrap64 (t262 - 1))) = 0
                                            · rw [if_pos c52] at H
                                              have c52b0 : ((Int.tmod (wrap64 ((rd t263 (ji43)) - t284)) (wrap64 (t262 - 1))) == 0) = true := beq_iff_eq.mpr c52
                                              have c52b1 : ((Int.tmod (wrap64 ((rd t263 (ji43)) - t284)) (wrap64 (t262 - 1))) != 0) = false := bne_eq_false_iff_eq.mpr c52
                                              clear c52
                                              as_aux_lemma =>
                                                have H' := Aside0.mk H
                                                clear H
                                                have p283 : 0 ≤ ((ji43) : Int) := of_decide_eq_true (by first | (with_reducible assumption) | assumption)
                                                have q283 : (ji43) < (t263.length : Int) := of_decide_eq_true (by first | (with_reducible assumption) | assumption)
                                                obtain ⟨ad283, e283, hx283_0⟩ := Kd.at_int (Kd.R_reads' HO_7.out).2.2 (ji43) p283 q283
                                                obtain rfl : ad280 = ad283 := (by injection e283)
                                                replace p283 := eq_true p283
                                                replace q283 := eq_true q283
                                                go_wp2_with (first | ((with_reducible refine gate_callee (f := 58) rfl ?_); refine goesL_ (some 163) rfl rfl Try.func58 (by kernel_rfl) rfl #[.int .i64 (rd t263 (ji43)), .int .i64 t262] rfl (by (try simp only [List.map_toArray, List.map_cons, List.map_nil]); first | done | (simp only [hji43]; rfl) | rfl | (simp only [List.length_drop, List.length_take]; rfl)) ?_; (with_reducible refine (impl_DigitSum.calls k3 (rd t263 (ji43)) t262 t284 true _ A46.out).mono ?_); rintro e w53 ⟨rfl, hb⟩; refine ⟨_, rfl, ?_⟩; have n0_ := Aside0.mk (Kd.R_below (by (with_reducible repeat (first | apply Kd.R_alloc | apply Kd.R_drewN | apply Kd.R_drew)); exact HO_7.out) hb); have n1_ := Aside0.mk (below_step (by repeat (first | (with_reducible first | exact HB.out | apply below_alloc | apply pw_below_drewN | apply below_drew1) | exact HB.out)) hb); clear HO_7; clear HB; have HO_7 := n0_; have HB := n1_; clear n0_ n1_; (try clear hb); (try clear hb2); (try clear hk); (try clear hi); have p286 : 0 ≤ (x22_3 : Int) := of_decide_eq_true (by first | (with_reducible assumption) | assumption); have q286 : x22_3 < (t263.length : Int) := of_decide_eq_true (by first | (with_reducible assumption) | assumption); obtain ⟨ad286, e286, hx286_0⟩ := Kd.at_int (Kd.R_reads' HO_7.out).2.2 x22_3 p286 q286; obtain rfl : ad280 = ad286 := (by injection e286); replace p286 := eq_true p286; replace q286 := eq_true q286; have p287 : 0 ≤ ((ji43) : Int) := of_decide_eq_true (by first | (with_reducible assumption) | assumption); have q287 : (ji43) < (t263.length : Int) := of_decide_eq_true (by first | (with_reducible assumption) | assumption); obtain ⟨ad287, e287, hx287_0⟩ := Kd.at_int (Kd.R_reads' HO_7.out).2.2 (ji43) p287 q287; obtain rfl : ad280 = ad287 := (by injection e287); replace p287 := eq_true p287; replace q287 := eq_true q287; have p288 : 0 ≤ ((ji43) : Int) := of_decide_eq_true (by first | (with_reducible assumption) | assumption); have q288 : (ji43) < (t263.length : Int) := of_decide_eq_true (by first | (with_reducible assumption) | assumption); obtain ⟨ad288, e288, hx288_0⟩ := Kd.at_int (Kd.R_reads' HO_7.out).2.2 (ji43) p288 q288; obtain rfl : ad280 = ad288 := (by injection e288); replace p288 := eq_true p288; replace q288 := eq_true q288))
                                                go_roundg k3
                                                case measure => have := HJ11.out; have := HJ34.out; have := HK3.out; omega
                                                case rel => exact ⟨(wrap64 (x22_3 + 1)), (by first | rfl | (simp; done) | (simp [*]; done)), H', ⟨by have := HJ11.out; have := HJ34.out; have := HK3.out; omega⟩, ⟨by (with_reducible repeat (first | apply Kd.R_alloc | apply Kd.R_drewN | apply Kd.R_drew)); exact HO_7.out⟩, ⟨by repeat (first | (with_reducible first | exact HB.out | apply below_alloc | apply pw_below_drewN | apply below_drew1) | exact HB.out)⟩⟩
                                            · rw [if_neg c52] at H
                                              have c52b0 : ((Int.tmod (wrap64 ((rd t263 (ji43)) - t284)) (wrap64 (t262 - 1))) == 0) = false := beq_eq_false_iff_ne.mpr c52
                                              have c52b1 : ((Int.tmod (wrap64 ((rd t263 (ji43)) - t284)) (wrap64 (t262 - 1))) != 0) = true := bne_iff_ne.mpr c52
                                              exact absurd (Option.some.inj H) (by rw [HR_.out]; decide)
                                      · rw [if_neg c49] at H
                                        have c49b0 : (t284 == (rd t263 x22_3)) = false := beq_eq_false_iff_ne.mpr c49
                                        have c49b1 : (t284 != (rd t263 x22_3)) = true := bne_iff_ne.mpr c49
                                        exact absurd (Option.some.inj H) (by rw [HR_.out]; decide)
                                    · rw [if_neg c48] at H
                                      exact absurd H (by simp)
                                  · replace c47 := Bool.eq_false_iff.mpr c47
                                    subst c47
                                    have H1 : (some false) = some r := by rw [if_neg (show ¬ (false = true) by decide)] at H; exact H
                                    clear H
                                    have H := H1
                                    clear H1
                                    exact absurd (Option.some.inj H) (by rw [HR_.out]; decide)
                                · rw [if_neg c45] at H
                                  exact absurd H (by simp)
                              · rw [if_neg c44] at H
                                exact absurd H (by simp)
                            · rw [if_neg c42] at H
                              have c42b0 : decide (x22_3 < (t263.length : Int)) = false := decide_eq_false c42
                              clear c42
                              replace H := Option.bind_eq_some_iff.mp H
                              obtain ⟨⟨t289, t290⟩, A540, H⟩ := H
                              replace H : (if t290 = true then (if t261 < t289 then (some false) else (laws_FnSumsOfDigitsRun.j3 k3 l1)) else (laws_FnSumsOfDigitsRun.j3 k3 l1)) = some r := H
                              have A54 := Aside0.mk A540
                              clear A540
                              by_cases c55 : t290 = true
                              · subst c55
                                have H1 : (if t261 < t289 then (some false) else (laws_FnSumsOfDigitsRun.j3 k3 l1)) = some r := by rw [if_pos rfl] at H; exact H
                                clear H
                                have H := H1
                                clear H1
                                by_cases c56 : t261 < t289
                                · rw [if_pos c56] at H
                                  have c56b0 : decide (t261 < t289) = true := decide_eq_true c56
                                  clear c56
                                  exact absurd (Option.some.inj H) (by rw [HR_.out]; decide)
                                · rw [if_neg c56] at H
                                  have c56b0 : decide (t261 < t289) = false := decide_eq_false c56
                                  clear c56
                                  as_aux_lemma =>
                                    have H' := Aside0.mk H
                                    clear H
                                    go_wp2_with (first | ((with_reducible refine gate_callee (f := 85) rfl ?_); refine goesL_ (some 201) rfl rfl Try.func85 (by kernel_rfl) rfl #[.int .i64 t271, .int .i64 t262] rfl (by (try simp only [List.map_toArray, List.map_cons, List.map_nil]); first | done | rfl | (simp only [List.length_drop, List.length_take]; rfl)) ?_; (with_reducible refine (impl_LeastSumPersistent.calls k3 t271 t262 t289 true _ A54.out).mono ?_); rintro e w57 ⟨rfl, hb⟩; refine ⟨_, rfl, ?_⟩; have n0_ := Aside0.mk (Kd.R_below (by (with_reducible repeat (first | apply Kd.R_alloc | apply Kd.R_drewN | apply Kd.R_drew)); exact HO_7.out) hb); have n1_ := Aside0.mk (below_step (by repeat (first | (with_reducible first | exact HB.out | apply below_alloc | apply pw_below_drewN | apply below_drew1) | exact HB.out)) hb); clear HO_7; clear HB; have HO_7 := n0_; have HB := n1_; clear n0_ n1_; (try clear hb); (try clear hb2); (try clear hk); (try clear hi)))
                                    go_meet
                                    case rel => exact ⟨_, H', ⟨by have := HJ11.out; have := HJ34.out; have := HK3.out; first | omega | exact Nat.le_refl _⟩, ⟨by repeat (first | (with_reducible first | exact HB.out | apply below_alloc | apply pw_below_drewN | apply below_drew1) | exact HB.out)⟩⟩
                              · replace c55 := Bool.eq_false_iff.mpr c55
                                subst c55
                                have H1 : (laws_FnSumsOfDigitsRun.j3 k3 l1) = some r := by rw [if_neg (show ¬ (false = true) by decide)] at H; exact H
                                clear H
                                have H := H1
                                clear H1
                                as_aux_lemma =>
                                  have H' := Aside0.mk H
                                  clear H
                                  go_wp2_with (first | ((with_reducible refine gate_callee (f := 85) rfl ?_); refine goesL_ (some 201) rfl rfl Try.func85 (by kernel_rfl) rfl #[.int .i64 t271, .int .i64 t262] rfl (by (try simp only [List.map_toArray, List.map_cons, List.map_nil]); first | done | rfl | (simp only [List.length_drop, List.length_take]; rfl)) ?_; (with_reducible refine (impl_LeastSumPersistent.calls k3 t271 t262 t289 false _ A54.out).mono ?_); rintro e w58 ⟨rfl, hb⟩; refine ⟨_, rfl, ?_⟩; have n0_ := Aside0.mk (Kd.R_below (by (with_reducible repeat (first | apply Kd.R_alloc | apply Kd.R_drewN | apply Kd.R_drew)); exact HO_7.out) hb); have n1_ := Aside0.mk (below_step (by repeat (first | (with_reducible first | exact HB.out | apply below_alloc | apply pw_below_drewN | apply below_drew1) | exact HB.out)) hb); clear HO_7; clear HB; have HO_7 := n0_; have HB := n1_; clear n0_ n1_; (try clear hb); (try clear hb2); (try clear hk); (try clear hi)))
                                  go_meet
                                  case rel => exact ⟨_, H', ⟨by have := HJ11.out; have := HJ34.out; have := HK3.out; first | omega | exact Nat.le_refl _⟩, ⟨by repeat (first | (with_reducible first | exact HB.out | apply below_alloc | apply pw_below_drewN | apply below_drew1) | exact HB.out)⟩⟩
                · rw [if_neg c33] at H
                  exact absurd H (by simp)
              · rw [if_neg c32] at H
                exact absurd H (by simp)
            · replace c30 := Bool.eq_false_iff.mpr c30
              subst c30
              have H1 : (laws_FnSumsOfDigitsRun.j3 kj11 l1) = some r := by rw [if_neg (show ¬ (false = true) by decide)] at H; exact H
              clear H
              have H := H1
              clear H1
              as_aux_lemma =>
                have H' := Aside0.mk H
                clear H
                go_wp2
                go_meet
                case rel => exact ⟨_, H', ⟨by have := HJ11.out; first | omega | exact Nat.le_refl _⟩, ⟨by repeat (first | (with_reducible first | exact HB.out | apply below_alloc | apply pw_below_drewN | apply below_drew1) | exact HB.out)⟩⟩
          case rest =>
            as_aux_lemma =>
            clear HC29
            try clear c1
            try clear c2
            try clear p2
            try clear q2
            try clear hx2
            try clear c3
            try clear c4
            try clear c5
            try clear p6
            try clear c7
            try clear c8
            try clear c10
            try clear c18
            try clear c18b0
            try clear c18b1
            try clear c18b2
            try clear c20
            try clear c21
            try clear c21b0
            try clear c21b1
            try clear c21b2
            try clear c22
            try clear c22b0
            try clear c22b1
            try clear c23
            try clear c23b0
            try clear c23b1
            try clear c23b2
            try clear c24
            try clear c24b0
            try clear c24b1
            try clear c25
            try clear c25b0
            try clear c25b1
            try clear c25b2
            try clear c28
            try clear p28
            try clear q28
            try clear hx28
            try clear c30
            try clear c32
            try clear c32b0
            try clear c33
            try clear c33b0
            try clear c38
            try clear c38b0
            try clear c38b1
            try clear c39
            try clear c39b0
            try clear c39b1
            try clear c40
            try clear c41
            try clear c42
            try clear c42b0
            try clear c44
            try clear c44b0
            try clear c45
            try clear c45b0
            try clear c47
            try clear c48
            try clear c48b0
            try clear c49
            try clear c49b0
            try clear c49b1
            try clear c50
            try clear c50b0
            try clear c51
            try clear c51b0
            try clear c51b1
            try clear c52
            try clear c52b0
            try clear c52b1
            try clear c55
            try clear c56
            try clear c56b0
            try clear c58
            try clear hx280_0
            try clear hx283_0
            try clear hx286_0
            try clear hx287_0
            try clear hx288_0
            try clear p2
            try clear p28
            try clear p280
            try clear p283
            try clear p286
            try clear p287
            try clear p288
            try clear p6
            try clear q2
            try clear q28
            try clear q280
            try clear q283
            try clear q286
            try clear q287
            try clear q288
            obtain ⟨kq, HA, HJ28, HB⟩ := hcut
            cases kq with
            | zero => exact absurd HA.out (by simp [laws_FnSumsOfDigitsRun.j3])
            | succ kj28 =>
              have H := HA.out
              clear HA
              simp only [laws_FnSumsOfDigitsRun.j3] at H
              replace H := Option.bind_eq_some_iff.mp H
              obtain ⟨⟨t291, t292⟩, A590, H⟩ := H
              replace H : ((impl_LeastSumPersistent.f kj28 t291 t292).bind fun bt293 => ((spec_LeastSumPersistent.f kj28 t291 t292).bind fun bt295 => (if (bt293.2 != bt295.2) = true then (laws_FnSumsOfDigitsRun.j4 kj28 t291 t292 bt293.1 bt293.2 true) else (laws_FnSumsOfDigitsRun.j4 kj28 t291 t292 bt293.1 bt293.2 (bt293.1 != bt295.1))))) = some r := H
              have A59 := Aside0.mk A590
              clear A590
              replace H := Option.bind_eq_some_iff.mp H
              obtain ⟨⟨t293, t294⟩, A600, H⟩ := H
              replace H : ((spec_LeastSumPersistent.f kj28 t291 t292).bind fun bt295 => (if (t294 != bt295.2) = true then (laws_FnSumsOfDigitsRun.j4 kj28 t291 t292 t293 t294 true) else (laws_FnSumsOfDigitsRun.j4 kj28 t291 t292 t293 t294 (t293 != bt295.1)))) = some r := H
              have A60 := Aside0.mk A600
              clear A600
              replace H := Option.bind_eq_some_iff.mp H
              obtain ⟨⟨t295, t296⟩, A610, H⟩ := H
              replace H : (if (t294 != t296) = true then (laws_FnSumsOfDigitsRun.j4 kj28 t291 t292 t293 t294 true) else (laws_FnSumsOfDigitsRun.j4 kj28 t291 t292 t293 t294 (t293 != t295))) = some r := H
              have A61 := Aside0.mk A610
              clear A610
              have HC62 := Aside0.mk H
              clear H
              go_upto_region 29 with (first | ((with_reducible refine gate_callee (f := 86) rfl ?_); refine goesL_ (some 212) rfl rfl Try.func86 (by kernel_rfl) rfl #[.slice A1 l1.length c1] rfl (by (try simp only [List.map_toArray, List.map_cons, List.map_nil]); first | done | rfl | (simp only [List.length_drop, List.length_take]; rfl)) ?_; (with_reducible refine (spec_DrawLeastSumPersistent.calls _ _ l1 t291 t292 _ ?side1 ?side2 A59.out).mono ?_); (case side1 => repeat (first | exact (Kd.C_below HR1.out HB.out) | (with_reducible refine Kd.C_alloc ?_ _) | (with_reducible refine Kd.C_drewN ?_ _) | (with_reducible refine Kd.C_drew ?_))); (case side2 => exact HC1.out); rintro e w63 ⟨rfl, hb⟩; refine ⟨_, rfl, ?_⟩; have n0_ := Aside0.mk (below_step (by repeat (first | (with_reducible first | exact HB.out | apply below_alloc | apply pw_below_drewN | apply below_drew1) | exact HB.out)) hb); clear HB; have HB := n0_; clear n0_; (try clear hb); (try clear hb2); (try clear hk); (try clear hi)) | ((with_reducible refine gate_callee (f := 85) rfl ?_); refine goesL_ (some 218) rfl rfl Try.func85 (by kernel_rfl) rfl #[.int .i64 t291, .int .i64 t292] rfl (by (try simp only [List.map_toArray, List.map_cons, List.map_nil]); first | done | rfl | (simp only [List.length_drop, List.length_take]; rfl)) ?_; (with_reducible refine (impl_LeastSumPersistent.calls kj28 t291 t292 t293 t294 _ A60.out).mono ?_); rintro e w64 ⟨rfl, hb⟩; refine ⟨_, rfl, ?_⟩; have n0_ := Aside0.mk (below_step (by repeat (first | (with_reducible first | exact HB.out | apply below_alloc | apply pw_below_drewN | apply below_drew1) | exact HB.out)) hb); clear HB; have HB := n0_; clear n0_; (try clear hb); (try clear hb2); (try clear hk); (try clear hi)) | ((with_reducible refine gate_callee (f := 87) rfl ?_); refine goesL_ (some 224) rfl rfl Try.func87 (by kernel_rfl) rfl #[.int .i64 t291, .int .i64 t292] rfl (by (try simp only [List.map_toArray, List.map_cons, List.map_nil]); first | done | rfl | (simp only [List.length_drop, List.length_take]; rfl)) ?_; (with_reducible refine (spec_LeastSumPersistent.calls kj28 t291 t292 t295 t296 _ A61.out).mono ?_); rintro e w65 ⟨rfl, hb⟩; refine ⟨_, rfl, ?_⟩; have n0_ := Aside0.mk (below_step (by repeat (first | (with_reducible first | exact HB.out | apply below_alloc | apply pw_below_drewN | apply below_drew1) | exact HB.out)) hb); clear HB; have HB := n0_; clear n0_; (try clear hb); (try clear hb2); (try clear hk); (try clear hi)))
              (try simp only [Act.put, List.setIfInBounds_toArray, List.set_cons_zero, List.set_cons_succ])
              go_cut [234] (fun v234 wc => ∃ (kq : Nat) (x234_61 : Bool), v234 = .bool x234_61 ∧ Aside0 (laws_FnSumsOfDigitsRun.j4 kq t291 t292 t293 t294 x234_61 = some r) ∧ Aside0 (kq ≤ kj28) ∧ Aside0 (Below w.heap.size w wc))
              case first =>
                as_aux_lemma =>
                have H := HC62.out
                clear HC62
                by_cases c66 : (t294 != t296) = true
                · rw [if_pos c66] at H
                  have c66b0 : (t294 != t296) = true := c66
                  (try (have c66b1 : decide (t294 = t296) = false := by simpa using c66))
                  (try (have c66b2 : (t294 == t296) = false := by simpa using c66))
                  (try (have c66b3 : ¬ (t294 = t296) := by simpa using c66))
                  clear c66
                  (first | rw [c66b0] | (simp only [i64_w, i32_w]; rw [c66b0]) | skip)
                  exact (laws_FnSumsOfDigitsRun.j4_no HR_.out _ _ _ _ _ H).elim
                · rw [if_neg c66] at H
                  have c66b0 : (t294 != t296) = false := by simpa using c66
                  (try (have c66b1 : decide (t294 = t296) = true := by simpa using c66))
                  (try (have c66b2 : (t294 == t296) = true := by simpa using c66))
                  clear c66
                  (first | rw [c66b0] | (simp only [i64_w, i32_w]; rw [c66b0]) | skip)
                  as_aux_lemma =>
                    have H' := Aside0.mk H
                    clear H
                    go_wp2
                    go_meet
                    case rel => exact ⟨_, ((t293 != t295)), (by first | rfl | (simp; done) | (simp [*]; done)), H', ⟨by have := HJ11.out; have := HJ28.out; first | omega | exact Nat.le_refl _⟩, ⟨by repeat (first | (with_reducible first | exact HB.out | apply below_alloc | apply pw_below_drewN | apply below_drew1) | exact HB.out)⟩⟩
              case rest =>
                as_aux_lemma =>
                clear HC62
                try clear c1
                try clear c2
                try clear p2
                try clear q2
                try clear hx2
                try clear c3
                try clear c4
                try clear c5
                try clear c6
                try clear p6
                try clear c7
                try clear c8
                try clear c10
                try clear c18
                try clear c18b0
                try clear c18b1
                try clear c18b2
                try clear c20
                try clear c21
                try clear c21b0
                try clear c21b1
                try clear c21b2
                try clear c22
                try clear c22b0
                try clear c22b1
                try clear c23
                try clear c23b0
                try clear c23b1
                try clear c23b2
                try clear c24
                try clear c24b0
                try clear c24b1
                try clear c25
                try clear c25b0
                try clear c25b1
                try clear c25b2
                try clear c28
                try clear p28
                try clear q28
                try clear hx28
                try clear c30
                try clear c32
                try clear c32b0
                try clear c33
                try clear c33b0
                try clear c38
                try clear c38b0
                try clear c38b1
                try clear c39
                try clear c39b0
                try clear c39b1
                try clear c40
                try clear c41
                try clear c42
                try clear c42b0
                try clear c44
                try clear c44b0
                try clear c45
                try clear c45b0
                try clear c47
                try clear c48
                try clear c48b0
                try clear c49
                try clear c49b0
                try clear c49b1
                try clear c50
                try clear c50b0
                try clear c51
                try clear c51b0
                try clear c51b1
                try clear c52
                try clear c52b0
                try clear c52b1
                try clear c55
                try clear c56
                try clear c56b0
                try clear c58
                try clear p64
                try clear c66
                try clear c66b0
                try clear c66b1
                try clear c66b2
                try clear hx280_0
                try clear hx283_0
                try clear hx286_0
                try clear hx287_0
                try clear hx288_0
                try clear p2
                try clear p28
                try clear p280
                try clear p283
                try clear p286
                try clear p287
                try clear p288
                try clear p6
                try clear q2
                try clear q28
                try clear q280
                try clear q283
                try clear q286
                try clear q287
                try clear q288
                obtain ⟨kq, x234_61, rfl, HA, HJ61, HB⟩ := hcut
                cases kq with
                | zero => exact absurd HA.out (by simp [laws_FnSumsOfDigitsRun.j4])
                | succ kj61 =>
                  have H := HA.out
                  clear HA
                  simp only [laws_FnSumsOfDigitsRun.j4] at H
                  by_cases c67 : x234_61 = true
                  · subst c67
                    have H1 : (some false) = some r := by rw [if_pos rfl] at H; exact H
                    clear H
                    have H := H1
                    clear H1
                    exact absurd (Option.some.inj H) (by rw [HR_.out]; decide)
                  · replace c67 := Bool.eq_false_iff.mpr c67
                    subst c67
                    have H1 : (if t294 = true then ((impl_SumPersistence.f kj61 t293 t292).bind fun bt297 => (if bt297.2 = true then (some (bt297.1 == t291)) else (some false))) else (some true)) = some r := by rw [if_neg (show ¬ (false = true) by decide)] at H; exact H
                    clear H
                    have H := H1
                    clear H1
                    by_cases c68 : t294 = true
                    · subst c68
                      have H1 : ((impl_SumPersistence.f kj61 t293 t292).bind fun bt297 => (if bt297.2 = true then (some (bt297.1 == t291)) else (some false))) = some r := by rw [if_pos rfl] at H; exact H
                      clear H
                      have H := H1
                      clear H1
                      replace H := Option.bind_eq_some_iff.mp H
                      obtain ⟨⟨t297, t298⟩, A690, H⟩ := H
                      replace H : (if t298 = true then (some (t297 == t291)) else (some false)) = some r := H
                      have A69 := Aside0.mk A690
                      clear A690
                      by_cases c70 : t298 = true
                      · subst c70
                        have H1 : (some (t297 == t291)) = some r := by rw [if_pos rfl] at H; exact H
                        clear H
                        have H := H1
                        clear H1
                        as_aux_lemma =>
                          obtain rfl := Option.some.inj H
                          go_wp2_with (first | ((with_reducible refine gate_callee (f := 80) rfl ?_); refine goesL_ (some 239) rfl rfl Try.func80 (by kernel_rfl) rfl #[.int .i64 t293, .int .i64 t292] rfl (by (try simp only [List.map_toArray, List.map_cons, List.map_nil]); first | done | rfl | (simp only [List.length_drop, List.length_take]; rfl)) ?_; (with_reducible refine (impl_SumPersistence.calls kj61 t293 t292 t297 true _ A69.out).mono ?_); rintro e w71 ⟨rfl, hb⟩; refine ⟨_, rfl, ?_⟩; have n0_ := Aside0.mk (below_step (by repeat (first | (with_reducible first | exact HB.out | apply below_alloc | apply pw_below_drewN | apply below_drew1) | exact HB.out)) hb); clear HB; have HB := n0_; clear n0_; (try clear hb); (try clear hb2); (try clear hk); (try clear hi)))
                          go_ret
                          exact ⟨by first | rfl | (simp [errW_none, errW_some] <;> rfl) | (simp [*, errW_none, errW_some] <;> rfl), by repeat (first | (with_reducible first | exact HB.out | apply below_alloc | apply pw_below_drewN | apply below_drew1) | exact HB.out)⟩
                      · replace c70 := Bool.eq_false_iff.mpr c70
                        subst c70
                        have H1 : (some false) = some r := by rw [if_neg (show ¬ (false = true) by decide)] at H; exact H
                        clear H
                        have H := H1
                        clear H1
                        exact absurd (Option.some.inj H) (by rw [HR_.out]; decide)
                    · replace c68 := Bool.eq_false_iff.mpr c68
                      subst c68
                      have H1 : (some true) = some r := by rw [if_neg (show ¬ (false = true) by decide)] at H; exact H
                      clear H
                      have H := H1
                      clear H1
                      as_aux_lemma =>
                        obtain rfl := Option.some.inj H
                        go_wp2
                        go_ret
                        exact ⟨by first | rfl | (simp [errW_none, errW_some] <;> rfl) | (simp [*, errW_none, errW_some] <;> rfl), by repeat (first | (with_reducible first | exact HB.out | apply below_alloc | apply pw_below_drewN | apply below_drew1) | exact HB.out)⟩

/-- THE ONE PURE STATEMENT of laws_FnSumsOfDigitsRun: yours. -/
def laws_FnSumsOfDigitsRun.Pure : Prop := ∀ (l0 : List Int) (l1 : List Int), l0.length ≤ maxLen → l0.length * 1 ≤ 140737488351232 → (∀ x ∈ l0, (Lit.int .u8 x).wf = true) → l1.length ≤ maxLen → l1.length * 1 ≤ 140737488351232 → (∀ x ∈ l1, (Lit.int .u8 x).wf = true) → ∃ k, laws_FnSumsOfDigitsRun.f k l0 l1 = some true
theorem laws_FnSumsOfDigitsRun.walk (P : laws_FnSumsOfDigitsRun.Pure) (a0 : Option Addr) (len0 cap0 : Nat) (z0 : List Int) (a1 : Option Addr) (len1 cap1 : Nat) (z1 : List Int) (w : World) (w0 : (a0 = none ∧ len0 = 0 ∧ cap0 = 0 ∧ z0 = []) ∨ ∃ x, a0 = some x ∧ len0 ≤ cap0 ∧ cap0 ≤ maxLen ∧ z0.length = cap0 ∧ (∀ i, i < z0.length → w.cell? (x.add i) = some (.int .u8 (z0.getD i 0))) ∧ ∀ n ∈ z0, (Lit.int .u8 n).wf = true) (y0 : len0 * 1 ≤ 140737488351232) (w1 : (a1 = none ∧ len1 = 0 ∧ cap1 = 0 ∧ z1 = []) ∨ ∃ x, a1 = some x ∧ len1 ≤ cap1 ∧ cap1 ≤ maxLen ∧ z1.length = cap1 ∧ (∀ i, i < z1.length → w.cell? (x.add i) = some (.int .u8 (z1.getD i 0))) ∧ ∀ n ∈ z1, (Lit.int .u8 n).wf = true) (y1 : len1 * 1 ≤ 140737488351232) :
    Calls Try.prog 10 #[.slice a0 len0 cap0, .slice a1 len1 cap1] w fun e w' => e = .returned (.bool true) ∧ Below w.heap.size w w' := by
  obtain ⟨l0, rfl, hr0, hm0, hw0, hc0⟩ := ReadsInt.ofRowC w0
  obtain ⟨l1, rfl, hr1, hm1, hw1, hc1⟩ := ReadsInt.ofRowC w1
  obtain ⟨k, h⟩ := P l0 l1 hm0 y0 hw0 hm1 y1 hw1
  refine (laws_FnSumsOfDigitsRun.calls k _ _ l0 _ _ l1 true w (Kd.C_of_reads (d := (0 : Int)) (h1 := fun _ => rfl) hr0) hc0 (Kd.C_of_reads (d := (0 : Int)) (h1 := fun _ => rfl) hr1) hc1 h rfl).mono ?_
  rintro e w' ⟨rfl, hd⟩
  exact ⟨rfl, hd⟩

end Go.Proofs.Ytikkpehjleoplaa.PFnSumsOfDigitsRun
