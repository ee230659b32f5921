-- out of the kit's print, turned by wip/own_print.py
import Derived.Test.YtiheocddlopfcaaPFnWordsSayx0
import Derived.Test.YtiheocddlopfcaaPFnWordsSayx1
import Derived.Test.YtiheocddlopfcaaPFnWordsSayx2
import Derived.Test.YtiheocddlopfcaaPFnWordsSayx3
import Derived.Test.YtiheocddlopfcaaPFnWordsSayx4
import Derived.Test.YtiheocddlopfcaaPFnWordsSayx5
import Derived.Test.YtiheocddlopfcaaPFnWordsSayx6
import Derived.Test.YtiheocddlopfcaaPFnWordsSayx7
namespace Go.Proofs.Ytiheocddlopfcaa.PFnWordsSay
open Go.RowKit Go.Proofs.YtiheocddlopfcaaW.PrintWords Go.Proofs.YtiheocddlopfcaaW.PrintLast Go.Proofs.YtiheocddlopfcaaW.PrintMore
attribute [local go_sem] max2_int min2_int max_two min_two max_three min_three max_four min_four   -- for this text's walks alone
set_option linter.unusedVariables false
set_option linter.unusedSimpArgs false

/-! ### laws_FnWordsSay: function 4 -/
mutual
def laws_FnWordsSay.j0 : Nat → List Int → List Int → List Int → Bool → Bool → Option (Bool)
  | 0, _, _, _, _, _ => none
  | k + 1, x1, x5, x6, x7, x58 => if x58 = true then (some false) else (if x7 = true then ((impl_UnsayWord.f k x6).bind fun bt367 => (if bt367.2 = true then ((laws_qSame.f k bt367.1 x5).bind fun t371 => (if t371 = true then (laws_FnWordsSay.j1 k x1 x5 x6 (((x6.length : Int) % 2) != 0)) else (laws_FnWordsSay.j1 k x1 x5 x6 true))) else (laws_FnWordsSay.j1 k x1 x5 x6 true))) else (laws_FnWordsSay.j3 k x1))
def laws_FnWordsSay.j3 : Nat → List Int → Option (Bool)
  | 0, _ => none
  | k + 1, x1 => (spec_DrawUnsayWord.f k x1).bind fun t373 => ((impl_UnsayWord.f k t373).bind fun bt376 => ((spec_UnsayWord.f k t373).bind fun bt380 => (if (bt376.2 != bt380.2) = true then (laws_FnWordsSay.j4 k x1 t373 bt376.1 bt376.2 true) else ((laws_qSame.f k bt376.1 bt380.1).bind fun t384 => (laws_FnWordsSay.j4 k x1 t373 bt376.1 bt376.2 (!t384))))))
def laws_FnWordsSay.j4 : Nat → List Int → List Int → List Int → Bool → Bool → Option (Bool)
  | 0, _, _, _, _, _ => none
  | k + 1, x1, x14, x15, x16, x115 => if x115 = true then (some false) else (if x16 = true then ((impl_SayWord.f k x15).bind fun bt385 => (if bt385.2 = true then ((laws_qSame.f k bt385.1 x14).bind fun t389 => (if t389 = true then (laws_FnWordsSay.j5 k x1) else (some false))) else (some false))) else (laws_FnWordsSay.j5 k x1))
def laws_FnWordsSay.j5 : Nat → List Int → Option (Bool)
  | 0, _ => none
  | k + 1, x1 => (spec_DrawSayRun.f k x1).bind fun bt390 => ((impl_SayRun.f k bt390.1 bt390.2).bind fun bt394 => ((spec_SayRun.f k bt390.1 bt390.2).bind fun bt398 => ((impl_LengthsOfSay.f k bt390.1 bt390.2).bind fun bt402 => ((spec_LengthsOfSay.f k bt390.1 bt390.2).bind fun bt406 => (if (bt394.2 != bt398.2) = true then (laws_FnWordsSay.j6 k bt390.1 bt390.2 bt394.1 bt394.2 bt402.1 true) else ((laws_qSameRows.f k bt394.1 bt398.1).bind fun t410 => (if t410 = true then (if (bt402.2 != bt406.2) = true then (laws_FnWordsSay.j6 k bt390.1 bt390.2 bt394.1 bt394.2 bt402.1 true) else ((laws_qSame.f k bt402.1 bt406.1).bind fun t411 => (if t411 = true then (laws_FnWordsSay.j6 k bt390.1 bt390.2 bt394.1 bt394.2 bt402.1 (bt402.2 != bt394.2)) else (laws_FnWordsSay.j6 k bt390.1 bt390.2 bt394.1 bt394.2 bt402.1 true)))) else (laws_FnWordsSay.j6 k bt390.1 bt390.2 bt394.1 bt394.2 bt402.1 true))))))))
def laws_FnWordsSay.j6 : Nat → List Int → Int → List (List Int) → Bool → List Int → Bool → Option (Bool)
  | 0, _, _, _, _, _, _ => none
  | k + 1, x21, x22, x23, x24, x27, x183 => if x183 = true then (some false) else (if x24 = true then (if (x23.length : Int) = (wrap64 (x22 + 1)) then (if 0 < (x23.length : Int) then ((laws_qSame.f k (rd_L2 x23 0) x21).bind fun t413 => (laws_FnWordsSay.j7 k x23 x27 (!t413))) else (none)) else (laws_FnWordsSay.j7 k x23 x27 true)) else (some true))
def laws_FnWordsSay.j7 : Nat → List (List Int) → List Int → Bool → Option (Bool)
  | 0, _, _, _ => none
  | k + 1, x23, x27, x198 => if x198 = true then (some false) else (laws_FnWordsSay.l1 k x23 x27 x23 (x23.length : Int) 0)
def laws_FnWordsSay.l1 : Nat → List (List Int) → List Int → List (List Int) → Int → Int → Option (Bool)
  | 0, _, _, _, _, _ => none
  | k + 1, x23, x27, x199, x200, x201 => if x201 < x200 then (if 0 ≤ x201 then (if x201 < (x199.length : Int) then (if x201 < (x27.length : Int) then (if (rd x27 x201) = ((rd_L2 x199 x201).length : Int) then (if x201 > 0 then (if 0 ≤ (wrap64 (x201 - 1)) then (if (wrap64 (x201 - 1)) < (x23.length : Int) then ((impl_SayWord.f k (rd_L2 x23 (wrap64 (x201 - 1)))).bind fun bt417 => (if bt417.2 = true then ((laws_qSame.f k bt417.1 (rd_L2 x199 x201)).bind fun t421 => (if t421 = true then (laws_FnWordsSay.l1 k x23 x27 x199 x200 (wrap64 (x201 + 1))) else (some false))) else (some false))) else (none)) else (none)) else (laws_FnWordsSay.l1 k x23 x27 x199 x200 (wrap64 (x201 + 1)))) else (some false)) else (none)) else (none)) else (none)) else (some true)
def laws_FnWordsSay.j1 : Nat → List Int → List Int → List Int → Bool → Option (Bool)
  | 0, _, _, _, _ => none
  | k + 1, x1, x5, x6, x78 => if x78 = true then (some false) else (laws_FnWordsSay.l0 k x1 x5 x6 0 0)
def laws_FnWordsSay.l0 : Nat → List Int → List Int → List Int → Int → Int → Option (Bool)
  | 0, _, _, _, _, _ => none
  | k + 1, x1, x5, x6, x12, x13 => if x13 < (x6.length : Int) then (if 0 ≤ x13 then (laws_FnWordsSay.l0 k x1 x5 x6 (wrap64 (x12 + (rd x6 x13))) (wrap64 (x13 + 2))) else (none)) else (if x12 = (x5.length : Int) then (laws_FnWordsSay.j3 k x1) else (some false))
end
def laws_FnWordsSay.f (k : Nat) (l0 : List Int) (l1 : List Int) : Option (Bool) := (laws_big.f l0 l1).bind fun t354 => (if t354 = true then (some true) else ((spec_DrawSayWord.f k l0).bind fun t355 => ((impl_SayWord.f k t355).bind fun bt358 => ((spec_SayWord.f k t355).bind fun bt362 => (if (bt358.2 != bt362.2) = true then (laws_FnWordsSay.j0 k l1 t355 bt358.1 bt358.2 true) else ((laws_qSame.f k bt358.1 bt362.1).bind fun t366 => (laws_FnWordsSay.j0 k l1 t355 bt358.1 bt358.2 (!t366))))))))
theorem laws_FnWordsSay.mono_l : ∀ k, (∀ y0 y1 y2 y3 y4, LeO (laws_FnWordsSay.j0 k y0 y1 y2 y3 y4) (laws_FnWordsSay.j0 (k + 1) y0 y1 y2 y3 y4)) ∧ (∀ y0, LeO (laws_FnWordsSay.j3 k y0) (laws_FnWordsSay.j3 (k + 1) y0)) ∧ (∀ y0 y1 y2 y3 y4, LeO (laws_FnWordsSay.j4 k y0 y1 y2 y3 y4) (laws_FnWordsSay.j4 (k + 1) y0 y1 y2 y3 y4)) ∧ (∀ y0, LeO (laws_FnWordsSay.j5 k y0) (laws_FnWordsSay.j5 (k + 1) y0)) ∧ (∀ y0 y1 y2 y3 y4 y5, LeO (laws_FnWordsSay.j6 k y0 y1 y2 y3 y4 y5) (laws_FnWordsSay.j6 (k + 1) y0 y1 y2 y3 y4 y5)) ∧ (∀ y0 y1 y2, LeO (laws_FnWordsSay.j7 k y0 y1 y2) (laws_FnWordsSay.j7 (k + 1) y0 y1 y2)) ∧ (∀ y0 y1 y2 y3 y4, LeO (laws_FnWordsSay.l1 k y0 y1 y2 y3 y4) (laws_FnWordsSay.l1 (k + 1) y0 y1 y2 y3 y4)) ∧ (∀ y0 y1 y2 y3, LeO (laws_FnWordsSay.j1 k y0 y1 y2 y3) (laws_FnWordsSay.j1 (k + 1) y0 y1 y2 y3)) ∧ (∀ y0 y1 y2 y3 y4, LeO (laws_FnWordsSay.l0 k y0 y1 y2 y3 y4) (laws_FnWordsSay.l0 (k + 1) y0 y1 y2 y3 y4))
  | 0 => ⟨fun _ _ _ _ _ r h => by simp [laws_FnWordsSay.j0] at h, fun _ r h => by simp [laws_FnWordsSay.j3] at h, fun _ _ _ _ _ r h => by simp [laws_FnWordsSay.j4] at h, fun _ r h => by simp [laws_FnWordsSay.j5] at h, fun _ _ _ _ _ _ r h => by simp [laws_FnWordsSay.j6] at h, fun _ _ _ r h => by simp [laws_FnWordsSay.j7] at h, fun _ _ _ _ _ r h => by simp [laws_FnWordsSay.l1] at h, fun _ _ _ _ r h => by simp [laws_FnWordsSay.j1] at h, fun _ _ _ _ _ r h => by simp [laws_FnWordsSay.l0] at h⟩
  | k + 1 => by
    obtain ⟨ih0, ih1, ih2, ih3, ih4, ih5, ih6, ih7, ih8⟩ := laws_FnWordsSay.mono_l k
    refine ⟨?_, ?_, ?_, ?_, ?_, ?_, ?_, ?_, ?_⟩
    · intro y0 y1 y2 y3 y4
      unfold laws_FnWordsSay.j0
      repeat' first
      | (with_reducible exact ih0 _ _ _ _ _)
      | (with_reducible exact ih1 _)
      | (with_reducible exact ih2 _ _ _ _ _)
      | (with_reducible exact ih3 _)
      | (with_reducible exact ih4 _ _ _ _ _ _)
      | (with_reducible exact ih5 _ _ _)
      | (with_reducible exact ih6 _ _ _ _ _)
      | (with_reducible exact ih7 _ _ _ _)
      | (with_reducible exact ih8 _ _ _ _ _)
      | (with_reducible exact impl_LengthsOfSay.mono _ _ _)
      | (with_reducible exact impl_SayRun.mono _ _ _)
      | (with_reducible exact impl_SayWord.mono _ _)
      | (with_reducible exact impl_UnsayWord.mono _ _)
      | (with_reducible exact laws_qSame.mono _ _ _)
      | (with_reducible exact laws_qSameRows.mono _ _ _)
      | (with_reducible exact spec_DrawSayRun.mono _ _)
      | (with_reducible exact spec_DrawSayWord.mono _ _)
      | (with_reducible exact spec_DrawUnsayWord.mono _ _)
      | (with_reducible exact spec_LengthsOfSay.mono _ _ _)
      | (with_reducible exact spec_SayRun.mono _ _ _)
      | (with_reducible exact spec_SayWord.mono _ _)
      | (with_reducible exact spec_UnsayWord.mono _ _)
      | (with_reducible exact LeO.refl _)
      | (with_reducible exact LeO.none _)
      | (with_reducible refine LeO.ite ?_ ?_)
      | (with_reducible refine LeO.bind ?_ (fun _ => ?_))
      | exact ih0 _ _ _ _ _
      | exact ih1 _
      | exact ih2 _ _ _ _ _
      | exact ih3 _
      | exact ih4 _ _ _ _ _ _
      | exact ih5 _ _ _
      | exact ih6 _ _ _ _ _
      | exact ih7 _ _ _ _
      | exact ih8 _ _ _ _ _
      | exact impl_LengthsOfSay.mono _ _ _
      | exact impl_SayRun.mono _ _ _
      | exact impl_SayWord.mono _ _
      | exact impl_UnsayWord.mono _ _
      | exact laws_qSame.mono _ _ _
      | exact laws_qSameRows.mono _ _ _
      | exact spec_DrawSayRun.mono _ _
      | exact spec_DrawSayWord.mono _ _
      | exact spec_DrawUnsayWord.mono _ _
      | exact spec_LengthsOfSay.mono _ _ _
      | exact spec_SayRun.mono _ _ _
      | exact spec_SayWord.mono _ _
      | exact spec_UnsayWord.mono _ _
      | exact LeO.none _
      | refine LeO.ite ?_ ?_
      | refine LeO.bind ?_ (fun _ => ?_)
    · intro y0
      unfold laws_FnWordsSay.j3
      repeat' first
      | (with_reducible exact ih0 _ _ _ _ _)
      | (with_reducible exact ih1 _)
      | (with_reducible exact ih2 _ _ _ _ _)
      | (with_reducible exact ih3 _)
      | (with_reducible exact ih4 _ _ _ _ _ _)
      | (with_reducible exact ih5 _ _ _)
      | (with_reducible exact ih6 _ _ _ _ _)
      | (with_reducible exact ih7 _ _ _ _)
      | (with_reducible exact ih8 _ _ _ _ _)
      | (with_reducible exact impl_LengthsOfSay.mono _ _ _)
      | (with_reducible exact impl_SayRun.mono _ _ _)
      | (with_reducible exact impl_SayWord.mono _ _)
      | (with_reducible exact impl_UnsayWord.mono _ _)
      | (with_reducible exact laws_qSame.mono _ _ _)
      | (with_reducible exact laws_qSameRows.mono _ _ _)
      | (with_reducible exact spec_DrawSayRun.mono _ _)
      | (with_reducible exact spec_DrawSayWord.mono _ _)
      | (with_reducible exact spec_DrawUnsayWord.mono _ _)
      | (with_reducible exact spec_LengthsOfSay.mono _ _ _)
      | (with_reducible exact spec_SayRun.mono _ _ _)
      | (with_reducible exact spec_SayWord.mono _ _)
      | (with_reducible exact spec_UnsayWord.mono _ _)
      | (with_reducible exact LeO.refl _)
      | (with_reducible exact LeO.none _)
      | (with_reducible refine LeO.ite ?_ ?_)
      | (with_reducible refine LeO.bind ?_ (fun _ => ?_))
      | exact ih0 _ _ _ _ _
      | exact ih1 _
      | exact ih2 _ _ _ _ _
      | exact ih3 _
      | exact ih4 _ _ _ _ _ _
      | exact ih5 _ _ _
      | exact ih6 _ _ _ _ _
      | exact ih7 _ _ _ _
      | exact ih8 _ _ _ _ _
      | exact impl_LengthsOfSay.mono _ _ _
      | exact impl_SayRun.mono _ _ _
      | exact impl_SayWord.mono _ _
      | exact impl_UnsayWord.mono _ _
      | exact laws_qSame.mono _ _ _
      | exact laws_qSameRows.mono _ _ _
      | exact spec_DrawSayRun.mono _ _
      | exact spec_DrawSayWord.mono _ _
      | exact spec_DrawUnsayWord.mono _ _
      | exact spec_LengthsOfSay.mono _ _ _
      | exact spec_SayRun.mono _ _ _
      | exact spec_SayWord.mono _ _
      | exact spec_UnsayWord.mono _ _
      | exact LeO.none _
      | refine LeO.ite ?_ ?_
      | refine LeO.bind ?_ (fun _ => ?_)
    · intro y0 y1 y2 y3 y4
      unfold laws_FnWordsSay.j4
      repeat' first
      | (with_reducible exact ih0 _ _ _ _ _)
      | (with_reducible exact ih1 _)
      | (with_reducible exact ih2 _ _ _ _ _)
      | (with_reducible exact ih3 _)
      | (with_reducible exact ih4 _ _ _ _ _ _)
      | (with_reducible exact ih5 _ _ _)
      | (with_reducible exact ih6 _ _ _ _ _)
      | (with_reducible exact ih7 _ _ _ _)
      | (with_reducible exact ih8 _ _ _ _ _)
      | (with_reducible exact impl_LengthsOfSay.mono _ _ _)
      | (with_reducible exact impl_SayRun.mono _ _ _)
      | (with_reducible exact impl_SayWord.mono _ _)
      | (with_reducible exact impl_UnsayWord.mono _ _)
      | (with_reducible exact laws_qSame.mono _ _ _)
      | (with_reducible exact laws_qSameRows.mono _ _ _)
      | (with_reducible exact spec_DrawSayRun.mono _ _)
      | (with_reducible exact spec_DrawSayWord.mono _ _)
      | (with_reducible exact spec_DrawUnsayWord.mono _ _)
      | (with_reducible exact spec_LengthsOfSay.mono _ _ _)
      | (with_reducible exact spec_SayRun.mono _ _ _)
      | (with_reducible exact spec_SayWord.mono _ _)
      | (with_reducible exact spec_UnsayWord.mono _ _)
      | (with_reducible exact LeO.refl _)
      | (with_reducible exact LeO.none _)
      | (with_reducible refine LeO.ite ?_ ?_)
      | (with_reducible refine LeO.bind ?_ (fun _ => ?_))
      | exact ih0 _ _ _ _ _
      | exact ih1 _
      | exact ih2 _ _ _ _ _
      | exact ih3 _
      | exact ih4 _ _ _ _ _ _
      | exact ih5 _ _ _
      | exact ih6 _ _ _ _ _
      | exact ih7 _ _ _ _
      | exact ih8 _ _ _ _ _
      | exact impl_LengthsOfSay.mono _ _ _
      | exact impl_SayRun.mono _ _ _
      | exact impl_SayWord.mono _ _
      | exact impl_UnsayWord.mono _ _
      | exact laws_qSame.mono _ _ _
      | exact laws_qSameRows.mono _ _ _
      | exact spec_DrawSayRun.mono _ _
      | exact spec_DrawSayWord.mono _ _
      | exact spec_DrawUnsayWord.mono _ _
      | exact spec_LengthsOfSay.mono _ _ _
      | exact spec_SayRun.mono _ _ _
      | exact spec_SayWord.mono _ _
      | exact spec_UnsayWord.mono _ _
      | exact LeO.none _
      | refine LeO.ite ?_ ?_
      | refine LeO.bind ?_ (fun _ => ?_)
    · intro y0
      unfold laws_FnWordsSay.j5
      repeat' first
      | (with_reducible exact ih0 _ _ _ _ _)
      | (with_reducible exact ih1 _)
      | (with_reducible exact ih2 _ _ _ _ _)
      | (with_reducible exact ih3 _)
      | (with_reducible exact ih4 _ _ _ _ _ _)
      | (with_reducible exact ih5 _ _ _)
      | (with_reducible exact ih6 _ _ _ _ _)
      | (with_reducible exact ih7 _ _ _ _)
      | (with_reducible exact ih8 _ _ _ _ _)
      | (with_reducible exact impl_LengthsOfSay.mono _ _ _)
      | (with_reducible exact impl_SayRun.mono _ _ _)
      | (with_reducible exact impl_SayWord.mono _ _)
      | (with_reducible exact impl_UnsayWord.mono _ _)
      | (with_reducible exact laws_qSame.mono _ _ _)
      | (with_reducible exact laws_qSameRows.mono _ _ _)
      | (with_reducible exact spec_DrawSayRun.mono _ _)
      | (with_reducible exact spec_DrawSayWord.mono _ _)
      | (with_reducible exact spec_DrawUnsayWord.mono _ _)
      | (with_reducible exact spec_LengthsOfSay.mono _ _ _)
      | (with_reducible exact spec_SayRun.mono _ _ _)
      | (with_reducible exact spec_SayWord.mono _ _)
      | (with_reducible exact spec_UnsayWord.mono _ _)
      | (with_reducible exact LeO.refl _)
      | (with_reducible exact LeO.none _)
      | (with_reducible refine LeO.ite ?_ ?_)
      | (with_reducible refine LeO.bind ?_ (fun _ => ?_))
      | exact ih0 _ _ _ _ _
      | exact ih1 _
      | exact ih2 _ _ _ _ _
      | exact ih3 _
      | exact ih4 _ _ _ _ _ _
      | exact ih5 _ _ _
      | exact ih6 _ _ _ _ _
      | exact ih7 _ _ _ _
      | exact ih8 _ _ _ _ _
      | exact impl_LengthsOfSay.mono _ _ _
      | exact impl_SayRun.mono _ _ _
      | exact impl_SayWord.mono _ _
      | exact impl_UnsayWord.mono _ _
      | exact laws_qSame.mono _ _ _
      | exact laws_qSameRows.mono _ _ _
      | exact spec_DrawSayRun.mono _ _
      | exact spec_DrawSayWord.mono _ _
      | exact spec_DrawUnsayWord.mono _ _
      | exact spec_LengthsOfSay.mono _ _ _
      | exact spec_SayRun.mono _ _ _
      | exact spec_SayWord.mono _ _
      | exact spec_UnsayWord.mono _ _
      | exact LeO.none _
      | refine LeO.ite ?_ ?_
      | refine LeO.bind ?_ (fun _ => ?_)
    · intro y0 y1 y2 y3 y4 y5
      unfold laws_FnWordsSay.j6
      repeat' first
      | (with_reducible exact ih0 _ _ _ _ _)
      | (with_reducible exact ih1 _)
      | (with_reducible exact ih2 _ _ _ _ _)
      | (with_reducible exact ih3 _)
      | (with_reducible exact ih4 _ _ _ _ _ _)
      | (with_reducible exact ih5 _ _ _)
      | (with_reducible exact ih6 _ _ _ _ _)
      | (with_reducible exact ih7 _ _ _ _)
      | (with_reducible exact ih8 _ _ _ _ _)
      | (with_reducible exact impl_LengthsOfSay.mono _ _ _)
      | (with_reducible exact impl_SayRun.mono _ _ _)
      | (with_reducible exact impl_SayWord.mono _ _)
      | (with_reducible exact impl_UnsayWord.mono _ _)
      | (with_reducible exact laws_qSame.mono _ _ _)
      | (with_reducible exact laws_qSameRows.mono _ _ _)
      | (with_reducible exact spec_DrawSayRun.mono _ _)
      | (with_reducible exact spec_DrawSayWord.mono _ _)
      | (with_reducible exact spec_DrawUnsayWord.mono _ _)
      | (with_reducible exact spec_LengthsOfSay.mono _ _ _)
      | (with_reducible exact spec_SayRun.mono _ _ _)
      | (with_reducible exact spec_SayWord.mono _ _)
      | (with_reducible exact spec_UnsayWord.mono _ _)
      | (with_reducible exact LeO.refl _)
      | (with_reducible exact LeO.none _)
      | (with_reducible refine LeO.ite ?_ ?_)
      | (with_reducible refine LeO.bind ?_ (fun _ => ?_))
      | exact ih0 _ _ _ _ _
      | exact ih1 _
      | exact ih2 _ _ _ _ _
      | exact ih3 _
      | exact ih4 _ _ _ _ _ _
      | exact ih5 _ _ _
      | exact ih6 _ _ _ _ _
      | exact ih7 _ _ _ _
      | exact ih8 _ _ _ _ _
      | exact impl_LengthsOfSay.mono _ _ _
      | exact impl_SayRun.mono _ _ _
      | exact impl_SayWord.mono _ _
      | exact impl_UnsayWord.mono _ _
      | exact laws_qSame.mono _ _ _
      | exact laws_qSameRows.mono _ _ _
      | exact spec_DrawSayRun.mono _ _
      | exact spec_DrawSayWord.mono _ _
      | exact spec_DrawUnsayWord.mono _ _
      | exact spec_LengthsOfSay.mono _ _ _
      | exact spec_SayRun.mono _ _ _
      | exact spec_SayWord.mono _ _
      | exact spec_UnsayWord.mono _ _
      | exact LeO.none _
      | refine LeO.ite ?_ ?_
      | refine LeO.bind ?_ (fun _ => ?_)
    · intro y0 y1 y2
      unfold laws_FnWordsSay.j7
      repeat' first
      | (with_reducible exact ih0 _ _ _ _ _)
      | (with_reducible exact ih1 _)
      | (with_reducible exact ih2 _ _ _ _ _)
      | (with_reducible exact ih3 _)
      | (with_reducible exact ih4 _ _ _ _ _ _)
      | (with_reducible exact ih5 _ _ _)
      | (with_reducible exact ih6 _ _ _ _ _)
      | (with_reducible exact ih7 _ _ _ _)
      | (with_reducible exact ih8 _ _ _ _ _)
      | (with_reducible exact impl_LengthsOfSay.mono _ _ _)
      | (with_reducible exact impl_SayRun.mono _ _ _)
      | (with_reducible exact impl_SayWord.mono _ _)
      | (with_reducible exact impl_UnsayWord.mono _ _)
      | (with_reducible exact laws_qSame.mono _ _ _)
      | (with_reducible exact laws_qSameRows.mono _ _ _)
      | (with_reducible exact spec_DrawSayRun.mono _ _)
      | (with_reducible exact spec_DrawSayWord.mono _ _)
      | (with_reducible exact spec_DrawUnsayWord.mono _ _)
      | (with_reducible exact spec_LengthsOfSay.mono _ _ _)
      | (with_reducible exact spec_SayRun.mono _ _ _)
      | (with_reducible exact spec_SayWord.mono _ _)
      | (with_reducible exact spec_UnsayWord.mono _ _)
      | (with_reducible exact LeO.refl _)
      | (with_reducible exact LeO.none _)
      | (with_reducible refine LeO.ite ?_ ?_)
      | (with_reducible refine LeO.bind ?_ (fun _ => ?_))
      | exact ih0 _ _ _ _ _
      | exact ih1 _
      | exact ih2 _ _ _ _ _
      | exact ih3 _
      | exact ih4 _ _ _ _ _ _
      | exact ih5 _ _ _
      | exact ih6 _ _ _ _ _
      | exact ih7 _ _ _ _
      | exact ih8 _ _ _ _ _
      | exact impl_LengthsOfSay.mono _ _ _
      | exact impl_SayRun.mono _ _ _
      | exact impl_SayWord.mono _ _
      | exact impl_UnsayWord.mono _ _
      | exact laws_qSame.mono _ _ _
      | exact laws_qSameRows.mono _ _ _
      | exact spec_DrawSayRun.mono _ _
      | exact spec_DrawSayWord.mono _ _
      | exact spec_DrawUnsayWord.mono _ _
      | exact spec_LengthsOfSay.mono _ _ _
      | exact spec_SayRun.mono _ _ _
      | exact spec_SayWord.mono _ _
      | exact spec_UnsayWord.mono _ _
      | exact LeO.none _
      | refine LeO.ite ?_ ?_
      | refine LeO.bind ?_ (fun _ => ?_)
    · intro y0 y1 y2 y3 y4
      unfold laws_FnWordsSay.l1
      repeat' first
      | (with_reducible exact ih0 _ _ _ _ _)
      | (with_reducible exact ih1 _)
      | (with_reducible exact ih2 _ _ _ _ _)
      | (with_reducible exact ih3 _)
      | (with_reducible exact ih4 _ _ _ _ _ _)
      | (with_reducible exact ih5 _ _ _)
      | (with_reducible exact ih6 _ _ _ _ _)
      | (with_reducible exact ih7 _ _ _ _)
      | (with_reducible exact ih8 _ _ _ _ _)
      | (with_reducible exact impl_LengthsOfSay.mono _ _ _)
      | (with_reducible exact impl_SayRun.mono _ _ _)
      | (with_reducible exact impl_SayWord.mono _ _)
      | (with_reducible exact impl_UnsayWord.mono _ _)
      | (with_reducible exact laws_qSame.mono _ _ _)
      | (with_reducible exact laws_qSameRows.mono _ _ _)
      | (with_reducible exact spec_DrawSayRun.mono _ _)
      | (with_reducible exact spec_DrawSayWord.mono _ _)
      | (with_reducible exact spec_DrawUnsayWord.mono _ _)
      | (with_reducible exact spec_LengthsOfSay.mono _ _ _)
      | (with_reducible exact spec_SayRun.mono _ _ _)
      | (with_reducible exact spec_SayWord.mono _ _)
      | (with_reducible exact spec_UnsayWord.mono _ _)
      | (with_reducible exact LeO.refl _)
      | (with_reducible exact LeO.none _)
      | (with_reducible refine LeO.ite ?_ ?_)
      | (with_reducible refine LeO.bind ?_ (fun _ => ?_))
      | exact ih0 _ _ _ _ _
      | exact ih1 _
      | exact ih2 _ _ _ _ _
      | exact ih3 _
      | exact ih4 _ _ _ _ _ _
      | exact ih5 _ _ _
      | exact ih6 _ _ _ _ _
      | exact ih7 _ _ _ _
      | exact ih8 _ _ _ _ _
      | exact impl_LengthsOfSay.mono _ _ _
      | exact impl_SayRun.mono _ _ _
      | exact impl_SayWord.mono _ _
      | exact impl_UnsayWord.mono _ _
      | exact laws_qSame.mono _ _ _
      | exact laws_qSameRows.mono _ _ _
      | exact spec_DrawSayRun.mono _ _
      | exact spec_DrawSayWord.mono _ _
      | exact spec_DrawUnsayWord.mono _ _
      | exact spec_LengthsOfSay.mono _ _ _
      | exact spec_SayRun.mono _ _ _
      | exact spec_SayWord.mono _ _
      | exact spec_UnsayWord.mono _ _
      | exact LeO.none _
      | refine LeO.ite ?_ ?_
      | refine LeO.bind ?_ (fun _ => ?_)
    · intro y0 y1 y2 y3
      unfold laws_FnWordsSay.j1
      repeat' first
      | (with_reducible exact ih0 _ _ _ _ _)
      | (with_reducible exact ih1 _)
      | (with_reducible exact ih2 _ _ _ _ _)
      | (with_reducible exact ih3 _)
      | (with_reducible exact ih4 _ _ _ _ _ _)
      | (with_reducible exact ih5 _ _ _)
      | (with_reducible exact ih6 _ _ _ _ _)
      | (with_reducible exact ih7 _ _ _ _)
      | (with_reducible exact ih8 _ _ _ _ _)
      | (with_reducible exact impl_LengthsOfSay.mono _ _ _)
      | (with_reducible exact impl_SayRun.mono _ _ _)
      | (with_reducible exact impl_SayWord.mono _ _)
      | (with_reducible exact impl_UnsayWord.mono _ _)
      | (with_reducible exact laws_qSame.mono _ _ _)
      | (with_reducible exact laws_qSameRows.mono _ _ _)
      | (with_reducible exact spec_DrawSayRun.mono _ _)
      | (with_reducible exact spec_DrawSayWord.mono _ _)
      | (with_reducible exact spec_DrawUnsayWord.mono _ _)
      | (with_reducible exact spec_LengthsOfSay.mono _ _ _)
      | (with_reducible exact spec_SayRun.mono _ _ _)
      | (with_reducible exact spec_SayWord.mono _ _)
      | (with_reducible exact spec_UnsayWord.mono _ _)
      | (with_reducible exact LeO.refl _)
      | (with_reducible exact LeO.none _)
      | (with_reducible refine LeO.ite ?_ ?_)
      | (with_reducible refine LeO.bind ?_ (fun _ => ?_))
      | exact ih0 _ _ _ _ _
      | exact ih1 _
      | exact ih2 _ _ _ _ _
      | exact ih3 _
      | exact ih4 _ _ _ _ _ _
      | exact ih5 _ _ _
      | exact ih6 _ _ _ _ _
      | exact ih7 _ _ _ _
      | exact ih8 _ _ _ _ _
      | exact impl_LengthsOfSay.mono _ _ _
      | exact impl_SayRun.mono _ _ _
      | exact impl_SayWord.mono _ _
      | exact impl_UnsayWord.mono _ _
      | exact laws_qSame.mono _ _ _
      | exact laws_qSameRows.mono _ _ _
      | exact spec_DrawSayRun.mono _ _
      | exact spec_DrawSayWord.mono _ _
      | exact spec_DrawUnsayWord.mono _ _
      | exact spec_LengthsOfSay.mono _ _ _
      | exact spec_SayRun.mono _ _ _
      | exact spec_SayWord.mono _ _
      | exact spec_UnsayWord.mono _ _
      | exact LeO.none _
      | refine LeO.ite ?_ ?_
      | refine LeO.bind ?_ (fun _ => ?_)
    · intro y0 y1 y2 y3 y4
      unfold laws_FnWordsSay.l0
      repeat' first
      | (with_reducible exact ih0 _ _ _ _ _)
      | (with_reducible exact ih1 _)
      | (with_reducible exact ih2 _ _ _ _ _)
      | (with_reducible exact ih3 _)
      | (with_reducible exact ih4 _ _ _ _ _ _)
      | (with_reducible exact ih5 _ _ _)
      | (with_reducible exact ih6 _ _ _ _ _)
      | (with_reducible exact ih7 _ _ _ _)
      | (with_reducible exact ih8 _ _ _ _ _)
      | (with_reducible exact impl_LengthsOfSay.mono _ _ _)
      | (with_reducible exact impl_SayRun.mono _ _ _)
      | (with_reducible exact impl_SayWord.mono _ _)
      | (with_reducible exact impl_UnsayWord.mono _ _)
      | (with_reducible exact laws_qSame.mono _ _ _)
      | (with_reducible exact laws_qSameRows.mono _ _ _)
      | (with_reducible exact spec_DrawSayRun.mono _ _)
      | (with_reducible exact spec_DrawSayWord.mono _ _)
      | (with_reducible exact spec_DrawUnsayWord.mono _ _)
      | (with_reducible exact spec_LengthsOfSay.mono _ _ _)
      | (with_reducible exact spec_SayRun.mono _ _ _)
      | (with_reducible exact spec_SayWord.mono _ _)
      | (with_reducible exact spec_UnsayWord.mono _ _)
      | (with_reducible exact LeO.refl _)
      | (with_reducible exact LeO.none _)
      | (with_reducible refine LeO.ite ?_ ?_)
      | (with_reducible refine LeO.bind ?_ (fun _ => ?_))
      | exact ih0 _ _ _ _ _
      | exact ih1 _
      | exact ih2 _ _ _ _ _
      | exact ih3 _
      | exact ih4 _ _ _ _ _ _
      | exact ih5 _ _ _
      | exact ih6 _ _ _ _ _
      | exact ih7 _ _ _ _
      | exact ih8 _ _ _ _ _
      | exact impl_LengthsOfSay.mono _ _ _
      | exact impl_SayRun.mono _ _ _
      | exact impl_SayWord.mono _ _
      | exact impl_UnsayWord.mono _ _
      | exact laws_qSame.mono _ _ _
      | exact laws_qSameRows.mono _ _ _
      | exact spec_DrawSayRun.mono _ _
      | exact spec_DrawSayWord.mono _ _
      | exact spec_DrawUnsayWord.mono _ _
      | exact spec_LengthsOfSay.mono _ _ _
      | exact spec_SayRun.mono _ _ _
      | exact spec_SayWord.mono _ _
      | exact spec_UnsayWord.mono _ _
      | exact LeO.none _
      | refine LeO.ite ?_ ?_
      | refine LeO.bind ?_ (fun _ => ?_)
theorem laws_FnWordsSay.mono : ∀ a0 a1 k, LeO (laws_FnWordsSay.f k a0 a1) (laws_FnWordsSay.f (k + 1) a0 a1) := by
  intro a0 a1 k
  obtain ⟨ih0, ih1, ih2, ih3, ih4, ih5, ih6, ih7, ih8⟩ := laws_FnWordsSay.mono_l k
  unfold laws_FnWordsSay.f
  repeat' first
      | (with_reducible exact ih0 _ _ _ _ _)
      | (with_reducible exact ih1 _)
      | (with_reducible exact ih2 _ _ _ _ _)
      | (with_reducible exact ih3 _)
      | (with_reducible exact ih4 _ _ _ _ _ _)
      | (with_reducible exact ih5 _ _ _)
      | (with_reducible exact ih6 _ _ _ _ _)
      | (with_reducible exact ih7 _ _ _ _)
      | (with_reducible exact ih8 _ _ _ _ _)
      | (with_reducible exact impl_LengthsOfSay.mono _ _ _)
      | (with_reducible exact impl_SayRun.mono _ _ _)
      | (with_reducible exact impl_SayWord.mono _ _)
      | (with_reducible exact impl_UnsayWord.mono _ _)
      | (with_reducible exact laws_qSame.mono _ _ _)
      | (with_reducible exact laws_qSameRows.mono _ _ _)
      | (with_reducible exact spec_DrawSayRun.mono _ _)
      | (with_reducible exact spec_DrawSayWord.mono _ _)
      | (with_reducible exact spec_DrawUnsayWord.mono _ _)
      | (with_reducible exact spec_LengthsOfSay.mono _ _ _)
      | (with_reducible exact spec_SayRun.mono _ _ _)
      | (with_reducible exact spec_SayWord.mono _ _)
      | (with_reducible exact spec_UnsayWord.mono _ _)
      | (with_reducible exact LeO.refl _)
      | (with_reducible exact LeO.none _)
      | (with_reducible refine LeO.ite ?_ ?_)
      | (with_reducible refine LeO.bind ?_ (fun _ => ?_))
      | exact ih0 _ _ _ _ _
      | exact ih1 _
      | exact ih2 _ _ _ _ _
      | exact ih3 _
      | exact ih4 _ _ _ _ _ _
      | exact ih5 _ _ _
      | exact ih6 _ _ _ _ _
      | exact ih7 _ _ _ _
      | exact ih8 _ _ _ _ _
      | exact impl_LengthsOfSay.mono _ _ _
      | exact impl_SayRun.mono _ _ _
      | exact impl_SayWord.mono _ _
      | exact impl_UnsayWord.mono _ _
      | exact laws_qSame.mono _ _ _
      | exact laws_qSameRows.mono _ _ _
      | exact spec_DrawSayRun.mono _ _
      | exact spec_DrawSayWord.mono _ _
      | exact spec_DrawUnsayWord.mono _ _
      | exact spec_LengthsOfSay.mono _ _ _
      | exact spec_SayRun.mono _ _ _
      | exact spec_SayWord.mono _ _
      | exact spec_UnsayWord.mono _ _
      | exact LeO.none _
      | refine LeO.ite ?_ ?_
      | refine LeO.bind ?_ (fun _ => ?_)
theorem laws_FnWordsSay.j0_no {r : Bool} (hr : r = true) (k : Nat) (x1 : List Int) (x5 : List Int) (x6 : List Int) (x7 : Bool) (h : laws_FnWordsSay.j0 k x1 x5 x6 x7 true = some r) : False := by
  subst hr
  cases k with
  | zero => simp [laws_FnWordsSay.j0] at h
  | succ k => simp [laws_FnWordsSay.j0] at h
theorem laws_FnWordsSay.j4_no {r : Bool} (hr : r = true) (k : Nat) (x1 : List Int) (x14 : List Int) (x15 : List Int) (x16 : Bool) (h : laws_FnWordsSay.j4 k x1 x14 x15 x16 true = some r) : False := by
  subst hr
  cases k with
  | zero => simp [laws_FnWordsSay.j4] at h
  | succ k => simp [laws_FnWordsSay.j4] at h
theorem laws_FnWordsSay.j6_no {r : Bool} (hr : r = true) (k : Nat) (x21 : List Int) (x22 : Int) (x23 : List (List Int)) (x24 : Bool) (x27 : List Int) (h : laws_FnWordsSay.j6 k x21 x22 x23 x24 x27 true = some r) : False := by
  subst hr
  cases k with
  | zero => simp [laws_FnWordsSay.j6] at h
  | succ k => simp [laws_FnWordsSay.j6] at h
theorem laws_FnWordsSay.j7_no {r : Bool} (hr : r = true) (k : Nat) (x23 : List (List Int)) (x27 : List Int) (h : laws_FnWordsSay.j7 k x23 x27 true = some r) : False := by
  subst hr
  cases k with
  | zero => simp [laws_FnWordsSay.j7] at h
  | succ k => simp [laws_FnWordsSay.j7] at h
theorem laws_FnWordsSay.j1_no {r : Bool} (hr : r = true) (k : Nat) (x1 : List Int) (x5 : List Int) (x6 : List Int) (h : laws_FnWordsSay.j1 k x1 x5 x6 true = some r) : False := by
  subst hr
  cases k with
  | zero => simp [laws_FnWordsSay.j1] at h
  | succ k => simp [laws_FnWordsSay.j1] at h
set_option maxHeartbeats 8000000 in
set_option maxRecDepth 100000 in
theorem laws_FnWordsSay.calls (k : Nat) (A0 : Option Addr) (c0 : Nat) (l0 : List Int) (A1 : Option Addr) (c1 : Nat) (l1 : List Int) (r : Bool) (w : World) (hr0 : Kd.C (Kd.int .u8) w A0 l0.length l0) (hc0 : l0.length ≤ c0) (hr1 : Kd.C (Kd.int .u8) w A1 l1.length l1) (hc1 : l1.length ≤ c1) (h : laws_FnWordsSay.f k l0 l1 = some r) (hr_ : r = true) :
    Calls Try.prog 4 #[.slice A0 l0.length c0, .slice A1 l1.length c1] w fun e w' => e = .returned (.bool r) ∧ Below w.heap.size w w' := by
  have HR0 := Aside0.mk hr0
  have HC0 := Aside0.mk hc0
  clear hr0 hc0
  have HR1 := Aside0.mk hr1
  have HC1 := Aside0.mk hc1
  clear hr1 hc1
  have HB := Aside0.mk (Below.refl w.heap.size w)
  have H : ((laws_big.f l0 l1).bind fun t354 => (if t354 = true then (some true) else ((spec_DrawSayWord.f k l0).bind fun t355 => ((impl_SayWord.f k t355).bind fun bt358 => ((spec_SayWord.f k t355).bind fun bt362 => (if (bt358.2 != bt362.2) = true then (laws_FnWordsSay.j0 k l1 t355 bt358.1 bt358.2 true) else ((laws_qSame.f k bt358.1 bt362.1).bind fun t366 => (laws_FnWordsSay.j0 k l1 t355 bt358.1 bt358.2 (!t366))))))))) = some r := h
  clear h
  have HR_ := Aside0.mk hr_
  clear hr_
  replace H := Option.bind_eq_some_iff.mp H
  obtain ⟨t354, A30, H⟩ := H
  replace H : (if t354 = true then (some true) else ((spec_DrawSayWord.f k l0).bind fun t355 => ((impl_SayWord.f k t355).bind fun bt358 => ((spec_SayWord.f k t355).bind fun bt362 => (if (bt358.2 != bt362.2) = true then (laws_FnWordsSay.j0 k l1 t355 bt358.1 bt358.2 true) else ((laws_qSame.f k bt358.1 bt362.1).bind fun t366 => (laws_FnWordsSay.j0 k l1 t355 bt358.1 bt358.2 (!t366)))))))) = some r := H
  have A3 := Aside0.mk A30
  clear A30
  by_cases c4 : t354 = true
  · subst c4
    have H1 : (some true) = some r := by rw [if_pos rfl] at H; exact H
    clear H
    have H := H1
    clear H1
    as_aux_lemma =>
      obtain rfl := Option.some.inj H
      go_enter Try.func4, Try.ntmps4
      go_wp2_with (first | ((with_reducible refine gate_callee (f := 15) rfl ?_); refine goesL_ (some 37) rfl rfl Try.func15 (by kernel_rfl) rfl #[.slice A0 l0.length c0, .slice A1 l1.length c1] rfl (by (try simp only [List.map_toArray, List.map_cons, List.map_nil]); first | done | rfl | (simp only [List.length_drop, List.length_take]; rfl)) ?_; (with_reducible refine (laws_big.calls _ _ l0 _ _ l1 true _ ?side1 ?side2 ?side3 ?side4 A3.out).mono ?_); (case side1 => repeat (first | exact HR0.out | (with_reducible refine Kd.C_alloc ?_ _) | (with_reducible refine Kd.C_drewN ?_ _) | (with_reducible refine Kd.C_drew ?_))); (case side2 => exact HC0.out); (case side3 => repeat (first | exact HR1.out | (with_reducible refine Kd.C_alloc ?_ _) | (with_reducible refine Kd.C_drewN ?_ _) | (with_reducible refine Kd.C_drew ?_))); (case side4 => exact HC1.out); rintro e w' ⟨rfl, ⟨nd, rfl⟩⟩; refine ⟨_, rfl, ?_⟩))
      go_ret
      exact ⟨by first | rfl | (simp [errW_none, errW_some] <;> rfl) | (simp [*, errW_none, errW_some] <;> rfl), by repeat (first | (with_reducible first | exact HB.out | apply below_alloc | apply pw_below_drewN | apply below_drew1) | exact HB.out)⟩
  · replace c4 := Bool.eq_false_iff.mpr c4
    subst c4
    have H1 : ((spec_DrawSayWord.f k l0).bind fun t355 => ((impl_SayWord.f k t355).bind fun bt358 => ((spec_SayWord.f k t355).bind fun bt362 => (if (bt358.2 != bt362.2) = true then (laws_FnWordsSay.j0 k l1 t355 bt358.1 bt358.2 true) else ((laws_qSame.f k bt358.1 bt362.1).bind fun t366 => (laws_FnWordsSay.j0 k l1 t355 bt358.1 bt358.2 (!t366))))))) = some r := by rw [if_neg (show ¬ (false = true) by decide)] at H; exact H
    clear H
    have H := H1
    clear H1
    replace H := Option.bind_eq_some_iff.mp H
    obtain ⟨t355, A50, H⟩ := H
    replace H : ((impl_SayWord.f k t355).bind fun bt358 => ((spec_SayWord.f k t355).bind fun bt362 => (if (bt358.2 != bt362.2) = true then (laws_FnWordsSay.j0 k l1 t355 bt358.1 bt358.2 true) else ((laws_qSame.f k bt358.1 bt362.1).bind fun t366 => (laws_FnWordsSay.j0 k l1 t355 bt358.1 bt358.2 (!t366)))))) = some r := H
    have A5 := Aside0.mk A50
    clear A50
    replace H := Option.bind_eq_some_iff.mp H
    obtain ⟨⟨t358, t359⟩, A60, H⟩ := H
    replace H : ((spec_SayWord.f k t355).bind fun bt362 => (if (t359 != bt362.2) = true then (laws_FnWordsSay.j0 k l1 t355 t358 t359 true) else ((laws_qSame.f k t358 bt362.1).bind fun t366 => (laws_FnWordsSay.j0 k l1 t355 t358 t359 (!t366))))) = some r := H
    have A6 := Aside0.mk A60
    clear A60
    replace H := Option.bind_eq_some_iff.mp H
    obtain ⟨⟨t362, t363⟩, A70, H⟩ := H
    replace H : (if (t359 != t363) = true then (laws_FnWordsSay.j0 k l1 t355 t358 t359 true) else ((laws_qSame.f k t358 t362).bind fun t366 => (laws_FnWordsSay.j0 k l1 t355 t358 t359 (!t366)))) = some r := H
    have A7 := Aside0.mk A70
    clear A70
    have HC8 := Aside0.mk H
    clear H
    go_enter Try.func4, Try.ntmps4
    go_upto_region 6 with (first | ((with_reducible refine gate_callee (f := 15) rfl ?_); refine goesL_ (some 37) rfl rfl Try.func15 (by kernel_rfl) rfl #[.slice A0 l0.length c0, .slice A1 l1.length c1] rfl (by (try simp only [List.map_toArray, List.map_cons, List.map_nil]); first | done | rfl | (simp only [List.length_drop, List.length_take]; rfl)) ?_; (with_reducible refine (laws_big.calls _ _ l0 _ _ l1 false _ ?side1 ?side2 ?side3 ?side4 A3.out).mono ?_); (case side1 => repeat (first | exact HR0.out | (with_reducible refine Kd.C_alloc ?_ _) | (with_reducible refine Kd.C_drewN ?_ _) | (with_reducible refine Kd.C_drew ?_))); (case side2 => exact HC0.out); (case side3 => repeat (first | exact HR1.out | (with_reducible refine Kd.C_alloc ?_ _) | (with_reducible refine Kd.C_drewN ?_ _) | (with_reducible refine Kd.C_drew ?_))); (case side4 => exact HC1.out); rintro e w' ⟨rfl, ⟨nd, rfl⟩⟩; refine ⟨_, rfl, ?_⟩) | ((with_reducible refine gate_callee (f := 36) rfl ?_); refine goesL_ (some 39) rfl rfl Try.func36 (by kernel_rfl) rfl #[.slice A0 l0.length c0] rfl (by (try simp only [List.map_toArray, List.map_cons, List.map_nil]); first | done | rfl | (simp only [List.length_drop, List.length_take]; rfl)) ?_; (with_reducible refine (spec_DrawSayWord.calls k _ _ l0 t355 _ ?side1 ?side2 A5.out).mono ?_); (case side1 => repeat (first | exact HR0.out | (with_reducible refine Kd.C_alloc ?_ _) | (with_reducible refine Kd.C_drewN ?_ _) | (with_reducible refine Kd.C_drew ?_))); (case side2 => exact HC0.out); rintro e w9 ⟨v356, rfl, ho0, hb⟩; refine ⟨_, rfl, ?_⟩; have n0_ := Aside0.mk (Kd.R_lower ho0 (below_size (by repeat (first | (with_reducible first | exact HB.out | apply below_alloc | apply pw_below_drewN | apply below_drew1) | exact HB.out)))); have n1_ := Aside0.mk (below_step (by repeat (first | (with_reducible first | exact HB.out | apply below_alloc | apply pw_below_drewN | apply below_drew1) | exact HB.out)) hb); clear HB; have HO357 := n0_; have HB := n1_; clear n0_ n1_; (try clear hb); (try clear hb2); (try clear hk); (try clear hi); (try clear ho0); obtain ⟨Ao10, co10, eo10⟩ := Kd.R_slice HO357.out; subst eo10) | ((with_reducible refine gate_callee (f := 37) rfl ?_); refine goesL_ (some 42) rfl rfl Try.func37 (by kernel_rfl) rfl #[.slice Ao10 t355.length co10] rfl (by (try simp only [List.map_toArray, List.map_cons, List.map_nil]); first | done | rfl | (simp only [List.length_drop, List.length_take]; rfl)) ?_; (with_reducible refine (impl_SayWord.calls k _ _ t355 t358 t359 _ ?side1 ?side2 A6.out).mono ?_); (case side1 => repeat (first | exact (Kd.R_reads' HO357.out).2.2 | (with_reducible refine Kd.C_alloc ?_ _) | (with_reducible refine Kd.C_drewN ?_ _) | (with_reducible refine Kd.C_drew ?_))); (case side2 => exact (Kd.R_reads' HO357.out).2.1); rintro e w11 ⟨v360, rfl, ho0, hb⟩; refine ⟨_, rfl, ?_⟩; have n0_ := Aside0.mk (Kd.R_elder' (by (with_reducible repeat (first | apply Kd.R_alloc | apply Kd.R_drewN | apply Kd.R_drew)); exact HO357.out) (Kd.R_base ho0) hb); have n1_ := Aside0.mk (Kd.R_lower (Kd.R_new' ho0 (Kd.R_lt (by (with_reducible repeat (first | apply Kd.R_alloc | apply Kd.R_drewN | apply Kd.R_drew)); exact HO357.out))) (below_size (by repeat (first | (with_reducible first | exact HB.out | apply below_alloc | apply pw_below_drewN | apply below_drew1) | exact HB.out)))); have n2_ := Aside0.mk (below_step (by repeat (first | (with_reducible first | exact HB.out | apply below_alloc | apply pw_below_drewN | apply below_drew1) | exact HB.out)) hb); clear HO357; clear HB; have HO357 := n0_; have HO361 := n1_; have HB := n2_; clear n0_ n1_ n2_; (try clear hb); (try clear hb2); (try clear hk); (try clear hi); (try clear ho0)) | ((with_reducible refine gate_callee (f := 38) rfl ?_); refine goesL_ (some 47) rfl rfl Try.func38 (by kernel_rfl) rfl #[.slice Ao10 t355.length co10] rfl (by (try simp only [List.map_toArray, List.map_cons, List.map_nil]); first | done | rfl | (simp only [List.length_drop, List.length_take]; rfl)) ?_; (with_reducible refine (spec_SayWord.calls k _ _ t355 t362 t363 _ ?side1 ?side2 A7.out).mono ?_); (case side1 => repeat (first | exact (Kd.R_reads' HO357.out).2.2 | (with_reducible refine Kd.C_alloc ?_ _) | (with_reducible refine Kd.C_drewN ?_ _) | (with_reducible refine Kd.C_drew ?_))); (case side2 => exact (Kd.R_reads' HO357.out).2.1); rintro e w12 ⟨v364, rfl, ho0, hb⟩; refine ⟨_, rfl, ?_⟩; have n0_ := Aside0.mk (Kd.R_elder' (by (with_reducible repeat (first | apply Kd.R_alloc | apply Kd.R_drewN | apply Kd.R_drew)); exact HO357.out) (Kd.R_base ho0) hb); have n1_ := Aside0.mk (Kd.R_elder' (by (with_reducible repeat (first | apply Kd.R_alloc | apply Kd.R_drewN | apply Kd.R_drew)); exact HO361.out) (Kd.R_base ho0) hb); have n2_ := Aside0.mk (Kd.R_lower (Kd.R_new' (Kd.R_new' ho0 (Kd.R_lt (by (with_reducible repeat (first | apply Kd.R_alloc | apply Kd.R_drewN | apply Kd.R_drew)); exact HO357.out))) (Kd.R_lt (by (with_reducible repeat (first | apply Kd.R_alloc | apply Kd.R_drewN | apply Kd.R_drew)); exact HO361.out))) (below_size (by repeat (first | (with_reducible first | exact HB.out | apply below_alloc | apply pw_below_drewN | apply below_drew1) | exact HB.out)))); have n3_ := Aside0.mk (below_step (by repeat (first | (with_reducible first | exact HB.out | apply below_alloc | apply pw_below_drewN | apply below_drew1) | exact HB.out)) hb); clear HO357; clear HO361; clear HB; have HO357 := n0_; have HO361 := n1_; have HO365 := n2_; have HB := n3_; clear n0_ n1_ n2_ n3_; (try clear hb); (try clear hb2); (try clear hk); (try clear hi); (try clear ho0)))
    (try simp only [Act.put, List.setIfInBounds_toArray, List.set_cons_zero, List.set_cons_succ])
    go_cut [58] (fun v58 wc => ∃ (kq : Nat) (x58_7 : Bool), v58 = .bool x58_7 ∧ Aside0 (laws_FnWordsSay.j0 kq l1 t355 t358 t359 x58_7 = some r) ∧ Aside0 (kq ≤ k) ∧ Aside0 (Kd.R (Kd.int .i64) 3 wc w.heap.size (fun k_ => some k_ ≠ (v360 : Value).ownBlock) (.slice Ao10 t355.length co10) t355) ∧ Aside0 (Kd.R (Kd.int .i64) 3 wc w.heap.size (fun k_ => some k_ ≠ ((.slice Ao10 t355.length co10) : Value).ownBlock) v360 t358) ∧ Aside0 (Below w.heap.size w wc))
    case first =>
      have H := HC8.out
      clear HC8
      by_cases c13 : (t359 != t363) = true
      · rw [if_pos c13] at H
        have c13b0 : (t359 != t363) = true := c13
        (try (have c13b1 : decide (t359 = t363) = false := by simpa using c13))
        (try (have c13b2 : (t359 == t363) = false := by simpa using c13))
        (try (have c13b3 : ¬ (t359 = t363) := by simpa using c13))
        clear c13
        (first | rw [c13b0] | (simp only [i64_w, i32_w]; rw [c13b0]) | skip)
        exact (laws_FnWordsSay.j0_no HR_.out _ _ _ _ _ H).elim
      · rw [if_neg c13] at H
        have c13b0 : (t359 != t363) = false := by simpa using c13
        (try (have c13b1 : decide (t359 = t363) = true := by simpa using c13))
        (try (have c13b2 : (t359 == t363) = true := by simpa using c13))
        clear c13
        (first | rw [c13b0] | (simp only [i64_w, i32_w]; rw [c13b0]) | skip)
        replace H := Option.bind_eq_some_iff.mp H
        obtain ⟨t366, A140, H⟩ := H
        replace H : (laws_FnWordsSay.j0 k l1 t355 t358 t359 (!t366)) = some r := H
        have A14 := Aside0.mk A140
        clear A140
        as_aux_lemma =>
          have H' := Aside0.mk H
          clear H
          obtain ⟨Ao15, co15, eo15⟩ := Kd.R_slice HO361.out
          subst eo15
          obtain ⟨Ao16, co16, eo16⟩ := Kd.R_slice HO365.out
          subst eo16
          go_wp2_with (first | (go_at_call 34; (with_reducible refine (laws_qSame.calls k _ _ t358 _ _ t362 t366 _ ?side1 ?side2 ?side3 ?side4 A14.out).mono ?_); (case side1 => repeat (first | exact (Kd.R_reads' HO361.out).2.2 | (with_reducible refine Kd.C_alloc ?_ _) | (with_reducible refine Kd.C_drewN ?_ _) | (with_reducible refine Kd.C_drew ?_))); (case side2 => exact (Kd.R_reads' HO361.out).2.1); (case side3 => repeat (first | exact (Kd.R_reads' HO365.out).2.2 | (with_reducible refine Kd.C_alloc ?_ _) | (with_reducible refine Kd.C_drewN ?_ _) | (with_reducible refine Kd.C_drew ?_))); (case side4 => exact (Kd.R_reads' HO365.out).2.1); rintro e w' ⟨rfl, ⟨nd, rfl⟩⟩))
          go_meet
          case rel => exact ⟨_, (!t366), (by first | rfl | (simp; done) | (simp [*]; done)), H', ⟨by first | omega | exact Nat.le_refl _⟩, ⟨by (with_reducible repeat (first | apply Kd.R_alloc | apply Kd.R_drewN | apply Kd.R_drew)); exact Kd.R_mono HO357.out (fun _ hk => hk.1.2)⟩, ⟨by (with_reducible repeat (first | apply Kd.R_alloc | apply Kd.R_drewN | apply Kd.R_drew)); exact Kd.R_mono HO361.out (fun _ hk => hk.1.2)⟩, ⟨by repeat (first | (with_reducible first | exact HB.out | apply below_alloc | apply pw_below_drewN | apply below_drew1) | exact HB.out)⟩⟩
    case rest =>
      clear HC8
      try clear c1
      try clear p2
      try clear c3
      try clear c4
      try clear c13
      try clear c13b0
      try clear c13b1
      try clear c13b2
      try clear c15
      obtain ⟨kq, x58_7, rfl, HA, HJ7, HO_5, HO_6, HB⟩ := hcut
      cases kq with
      | zero => exact absurd HA.out (by simp [laws_FnWordsSay.j0])
      | succ kj7 =>
        have H := HA.out
        clear HA
        simp only [laws_FnWordsSay.j0] at H
        by_cases c17 : x58_7 = true
        · subst c17
          have H1 : (some false) = some r := by rw [if_pos rfl] at H; exact H
          clear H
          have H := H1
          clear H1
          exact absurd (Option.some.inj H) (by rw [HR_.out]; decide)
        · replace c17 := Bool.eq_false_iff.mpr c17
          subst c17
          have H1 : (if t359 = true then ((impl_UnsayWord.f kj7 t358).bind fun bt367 => (if bt367.2 = true then ((laws_qSame.f kj7 bt367.1 t355).bind fun t371 => (if t371 = true then (laws_FnWordsSay.j1 kj7 l1 t355 t358 (((t358.length : Int) % 2) != 0)) else (laws_FnWordsSay.j1 kj7 l1 t355 t358 true))) else (laws_FnWordsSay.j1 kj7 l1 t355 t358 true))) else (laws_FnWordsSay.j3 kj7 l1)) = some r := by rw [if_neg (show ¬ (false = true) by decide)] at H; exact H
          clear H
          have H := H1
          clear H1
          have HC18 := Aside0.mk H
          clear H
          go_upto_if 59 with (fail)
          go_cut [] (fun wc => ∃ (kq : Nat), Aside0 (laws_FnWordsSay.j3 kq l1 = some r) ∧ Aside0 (kq ≤ kj7) ∧ Aside0 (Below w.heap.size w wc))
          case first =>
            have H := HC18.out
            clear HC18
            by_cases c19 : t359 = true
            · subst c19
              have H1 : ((impl_UnsayWord.f kj7 t358).bind fun bt367 => (if bt367.2 = true then ((laws_qSame.f kj7 bt367.1 t355).bind fun t371 => (if t371 = true then (laws_FnWordsSay.j1 kj7 l1 t355 t358 (((t358.length : Int) % 2) != 0)) else (laws_FnWordsSay.j1 kj7 l1 t355 t358 true))) else (laws_FnWordsSay.j1 kj7 l1 t355 t358 true))) = some r := by rw [if_pos rfl] at H; exact H
              clear H
              have H := H1
              clear H1
              replace H := Option.bind_eq_some_iff.mp H
              obtain ⟨⟨t367, t368⟩, A200, H⟩ := H
              replace H : (if t368 = true then ((laws_qSame.f kj7 t367 t355).bind fun t371 => (if t371 = true then (laws_FnWordsSay.j1 kj7 l1 t355 t358 (((t358.length : Int) % 2) != 0)) else (laws_FnWordsSay.j1 kj7 l1 t355 t358 true))) else (laws_FnWordsSay.j1 kj7 l1 t355 t358 true)) = some r := H
              have A20 := Aside0.mk A200
              clear A200
              have HC21 := Aside0.mk H
              clear H
              obtain ⟨Ao22, co22, eo22⟩ := Kd.R_slice HO_6.out
              subst eo22
              go_upto_region 10 with (first | ((with_reducible refine gate_callee (f := 39) rfl ?_); refine goesL_ (some 62) rfl rfl Try.func39 (by kernel_rfl) rfl #[.slice Ao22 t358.length co22] rfl (by (try simp only [List.map_toArray, List.map_cons, List.map_nil]); first | done | rfl | (simp only [List.length_drop, List.length_take]; rfl)) ?_; (with_reducible refine (impl_UnsayWord.calls kj7 _ _ t358 t367 t368 _ ?side1 ?side2 A20.out).mono ?_); (case side1 => repeat (first | exact (Kd.R_reads' HO_6.out).2.2 | (with_reducible refine Kd.C_alloc ?_ _) | (with_reducible refine Kd.C_drewN ?_ _) | (with_reducible refine Kd.C_drew ?_))); (case side2 => exact (Kd.R_reads' HO_6.out).2.1); rintro e w23 ⟨v369, rfl, ho0, hb⟩; refine ⟨_, rfl, ?_⟩; have n0_ := Aside0.mk (Kd.R_elder' (by (with_reducible repeat (first | apply Kd.R_alloc | apply Kd.R_drewN | apply Kd.R_drew)); exact HO_5.out) (Kd.R_base ho0) hb); have n1_ := Aside0.mk (Kd.R_elder' (by (with_reducible repeat (first | apply Kd.R_alloc | apply Kd.R_drewN | apply Kd.R_drew)); exact HO_6.out) (Kd.R_base ho0) hb); have n2_ := Aside0.mk (Kd.R_lower (Kd.R_new' (Kd.R_new' ho0 (Kd.R_lt (by (with_reducible repeat (first | apply Kd.R_alloc | apply Kd.R_drewN | apply Kd.R_drew)); exact HO_5.out))) (Kd.R_lt (by (with_reducible repeat (first | apply Kd.R_alloc | apply Kd.R_drewN | apply Kd.R_drew)); exact HO_6.out))) (below_size (by repeat (first | (with_reducible first | exact HB.out | apply below_alloc | apply pw_below_drewN | apply below_drew1) | exact HB.out)))); have n3_ := Aside0.mk (below_step (by repeat (first | (with_reducible first | exact HB.out | apply below_alloc | apply pw_below_drewN | apply below_drew1) | exact HB.out)) hb); clear HO_5; clear HO_6; clear HB; have HO_5 := n0_; have HO_6 := n1_; have HO370 := n2_; have HB := n3_; clear n0_ n1_ n2_ n3_; (try clear hb); (try clear hb2); (try clear hk); (try clear hi); (try clear ho0)))
              (try simp only [Act.put, List.setIfInBounds_toArray, List.set_cons_zero, List.set_cons_succ])
              go_cut [78] (fun v78 wc => ∃ (kq : Nat) (x78_20 : Bool), v78 = .bool x78_20 ∧ Aside0 (laws_FnWordsSay.j1 kq l1 t355 t358 x78_20 = some r) ∧ Aside0 (kq ≤ kj7) ∧ Aside0 (Kd.R (Kd.int .i64) 3 wc w.heap.size (fun k_ => some k_ ≠ ((.slice Ao22 t358.length co22) : Value).ownBlock) (.slice Ao10 t355.length co10) t355) ∧ Aside0 (Kd.R (Kd.int .i64) 3 wc w.heap.size (fun k_ => some k_ ≠ ((.slice Ao10 t355.length co10) : Value).ownBlock) (.slice Ao22 t358.length co22) t358) ∧ Aside0 (Below w.heap.size w wc))
              case first =>
                have H := HC21.out
                clear HC21
                by_cases c24 : t368 = true
                · subst c24
                  have H1 : ((laws_qSame.f kj7 t367 t355).bind fun t371 => (if t371 = true then (laws_FnWordsSay.j1 kj7 l1 t355 t358 (((t358.length : Int) % 2) != 0)) else (laws_FnWordsSay.j1 kj7 l1 t355 t358 true))) = some r := by rw [if_pos rfl] at H; exact H
                  clear H
                  have H := H1
                  clear H1
                  replace H := Option.bind_eq_some_iff.mp H
                  obtain ⟨t371, A250, H⟩ := H
                  replace H : (if t371 = true then (laws_FnWordsSay.j1 kj7 l1 t355 t358 (((t358.length : Int) % 2) != 0)) else (laws_FnWordsSay.j1 kj7 l1 t355 t358 true)) = some r := H
                  have A25 := Aside0.mk A250
                  clear A250
                  by_cases c26 : t371 = true
                  · subst c26
                    have H1 : (laws_FnWordsSay.j1 kj7 l1 t355 t358 (((t358.length : Int) % 2) != 0)) = some r := by rw [if_pos rfl] at H; exact H
                    clear H
                    have H := H1
                    clear H1
                    as_aux_lemma =>
                      have H' := Aside0.mk H
                      clear H
                      obtain ⟨Ao27, co27, eo27⟩ := Kd.R_slice HO370.out
                      subst eo27
                      go_wp2_with (first | (go_at_call 34; (with_reducible refine (laws_qSame.calls kj7 _ _ t367 _ _ t355 true _ ?side1 ?side2 ?side3 ?side4 A25.out).mono ?_); (case side1 => repeat (first | exact (Kd.R_reads' HO370.out).2.2 | (with_reducible refine Kd.C_alloc ?_ _) | (with_reducible refine Kd.C_drewN ?_ _) | (with_reducible refine Kd.C_drew ?_))); (case side2 => exact (Kd.R_reads' HO370.out).2.1); (case side3 => repeat (first | exact (Kd.R_reads' HO_5.out).2.2 | (with_reducible refine Kd.C_alloc ?_ _) | (with_reducible refine Kd.C_drewN ?_ _) | (with_reducible refine Kd.C_drew ?_))); (case side4 => exact (Kd.R_reads' HO_5.out).2.1); rintro e w' ⟨rfl, ⟨nd, rfl⟩⟩))
                      go_meet
                      case rel => exact ⟨_, ((((t358.length : Int) % 2) != 0)), (by first | rfl | (simp; done) | (simp [*]; done)), H', ⟨by have := HJ7.out; first | omega | exact Nat.le_refl _⟩, ⟨by (with_reducible repeat (first | apply Kd.R_alloc | apply Kd.R_drewN | apply Kd.R_drew)); exact Kd.R_mono HO_5.out (fun _ hk => hk.1)⟩, ⟨by (with_reducible repeat (first | apply Kd.R_alloc | apply Kd.R_drewN | apply Kd.R_drew)); exact Kd.R_mono HO_6.out (fun _ hk => hk.1)⟩, ⟨by repeat (first | (with_reducible first | exact HB.out | apply below_alloc | apply pw_below_drewN | apply below_drew1) | exact HB.out)⟩⟩
                  · replace c26 := Bool.eq_false_iff.mpr c26
                    subst c26
                    have H1 : (laws_FnWordsSay.j1 kj7 l1 t355 t358 true) = some r := by rw [if_neg (show ¬ (false = true) by decide)] at H; exact H
                    clear H
                    have H := H1
                    clear H1
                    exact (laws_FnWordsSay.j1_no HR_.out _ _ _ _ H).elim
                · replace c24 := Bool.eq_false_iff.mpr c24
                  subst c24
                  have H1 : (laws_FnWordsSay.j1 kj7 l1 t355 t358 true) = some r := by rw [if_neg (show ¬ (false = true) by decide)] at H; exact H
                  clear H
                  have H := H1
                  clear H1
                  exact (laws_FnWordsSay.j1_no HR_.out _ _ _ _ H).elim
              case rest =>
                clear HC21
                try clear c1
                try clear c2
                try clear p2
                try clear c3
                try clear c4
                try clear c13
                try clear c13b0
                try clear c13b1
                try clear c13b2
                try clear c15
                try clear c17
                try clear c19
                try clear c24
                try clear c26
                try clear p2
                obtain ⟨kq, x78_20, rfl, HA, HJ20, HO_5, HO_6, HB⟩ := hcut
                cases kq with
                | zero => exact absurd HA.out (by simp [laws_FnWordsSay.j1])
                | succ kj20 =>
                  have H := HA.out
                  clear HA
                  simp only [laws_FnWordsSay.j1] at H
                  by_cases c28 : x78_20 = true
                  · subst c28
                    have H1 : (some false) = some r := by rw [if_pos rfl] at H; exact H
                    clear H
                    have H := H1
                    clear H1
                    exact absurd (Option.some.inj H) (by rw [HR_.out]; decide)
                  · replace c28 := Bool.eq_false_iff.mpr c28
                    subst c28
                    have H1 : (laws_FnWordsSay.l0 kj20 l1 t355 t358 0 0) = some r := by rw [if_neg (show ¬ (false = true) by decide)] at H; exact H
                    clear H
                    have H := H1
                    clear H1
                    have H' := Aside0.mk H
                    clear H
                    go_wp2
                    go_loopg [12, 13] kj20 (fun kq v12 v13 w' => ∃ (x12_3 : Int) (x13_3 : Int), v12 = .int .i64 x12_3 ∧ v13 = .int .i64 x13_3 ∧ Aside0 (laws_FnWordsSay.l0 kq l1 t355 t358 x12_3 x13_3 = some r) ∧ Aside0 (kq ≤ kj20) ∧ Aside0 (Kd.R (Kd.int .i64) 3 w' w.heap.size (fun k_ => some k_ ≠ ((.slice Ao22 t358.length co22) : Value).ownBlock) (.slice Ao10 t355.length co10) t355) ∧ Aside0 (Kd.R (Kd.int .i64) 3 w' w.heap.size (fun k_ => some k_ ≠ ((.slice Ao10 t355.length co10) : Value).ownBlock) (.slice Ao22 t358.length co22) t358) ∧ Aside0 (Below w.heap.size w w'))
                    case atStart => exact ⟨(0), (0), (by first | rfl | (simp; done) | (simp [*]; done)), (by first | rfl | (simp; done) | (simp [*]; done)), H', ⟨Nat.le_refl _⟩, ⟨by (with_reducible repeat (first | apply Kd.R_alloc | apply Kd.R_drewN | apply Kd.R_drew)); exact HO_5.out⟩, ⟨by (with_reducible repeat (first | apply Kd.R_alloc | apply Kd.R_drewN | apply Kd.R_drew)); exact HO_6.out⟩, ⟨by repeat (first | (with_reducible first | exact HB.out | apply below_alloc | apply pw_below_drewN | apply below_drew1) | exact HB.out)⟩⟩
                    case round =>
                      clear H'
                      try clear c1
                      try clear c2
                      try clear p2
                      try clear c3
                      try clear c4
                      try clear c13
                      try clear c13b0
                      try clear c13b1
                      try clear c13b2
                      try clear c15
                      try clear c17
                      try clear c19
                      try clear c24
                      try clear c26
                      try clear c28
                      try clear p2
                      obtain ⟨x12_3, x13_3, rfl, rfl, HA, HK3, HO_5, HO_6, HB⟩ := hrel
                      cases gk with
                      | zero => exact absurd HA.out (by simp [laws_FnWordsSay.l0])
                      | succ k3 =>
                        have H := HA.out
                        clear HA
                        simp only [laws_FnWordsSay.l0] at H
                        by_cases c29 : x13_3 < (t358.length : Int)
                        · rw [if_pos c29] at H
                          have c29b0 : decide (x13_3 < (t358.length : Int)) = true := decide_eq_true c29
                          clear c29
                          by_cases c30 : 0 ≤ x13_3
                          · rw [if_pos c30] at H
                            have c30b0 : decide (0 ≤ x13_3) = true := decide_eq_true c30
                            clear c30
                            as_aux_lemma =>
                              have H' := Aside0.mk H
                              clear H
                              have p372 : 0 ≤ (x13_3 : Int) := of_decide_eq_true (by first | (with_reducible assumption) | assumption)
                              have q372 : x13_3 < (t358.length : Int) := of_decide_eq_true (by first | (with_reducible assumption) | assumption)
                              obtain ⟨ad372, e372, hx372_0⟩ := Kd.at_int (Kd.R_reads' HO_6.out).2.2 x13_3 p372 q372
                              cases e372
                              replace p372 := eq_true p372
                              replace q372 := eq_true q372
                              go_wp2
                              go_roundg k3
                              case measure => have := HJ7.out; have := HJ20.out; have := HK3.out; omega
                              case rel => exact ⟨(wrap64 (x12_3 + (rd t358 x13_3))), (wrap64 (x13_3 + 2)), (by first | rfl | (simp; done) | (simp [*]; done)), (by first | rfl | (simp; done) | (simp [*]; done)), H', ⟨by have := HJ7.out; have := HJ20.out; have := HK3.out; omega⟩, ⟨by (with_reducible repeat (first | apply Kd.R_alloc | apply Kd.R_drewN | apply Kd.R_drew)); exact HO_5.out⟩, ⟨by (with_reducible repeat (first | apply Kd.R_alloc | apply Kd.R_drewN | apply Kd.R_drew)); exact HO_6.out⟩, ⟨by repeat (first | (with_reducible first | exact HB.out | apply below_alloc | apply pw_below_drewN | apply below_drew1) | exact HB.out)⟩⟩
                          · rw [if_neg c30] at H
                            exact absurd H (by simp)
                        · rw [if_neg c29] at H
                          have c29b0 : decide (x13_3 < (t358.length : Int)) = false := decide_eq_false c29
                          clear c29
                          by_cases c31 : x12_3 = (t355.length : Int)
                          · rw [if_pos c31] at H
                            have c31b0 : (x12_3 == (t355.length : Int)) = true := beq_iff_eq.mpr c31
                            have c31b1 : (x12_3 != (t355.length : Int)) = false := bne_eq_false_iff_eq.mpr c31
                            clear c31
                            as_aux_lemma =>
                              have H' := Aside0.mk H
                              clear H
                              go_wp2
                              go_meet
                              case rel => exact ⟨_, H', ⟨by have := HJ7.out; have := HJ20.out; have := HK3.out; first | omega | exact Nat.le_refl _⟩, ⟨by repeat (first | (with_reducible first | exact HB.out | apply below_alloc | apply pw_below_drewN | apply below_drew1) | exact HB.out)⟩⟩
                          · rw [if_neg c31] at H
                            have c31b0 : (x12_3 == (t355.length : Int)) = false := beq_eq_false_iff_ne.mpr c31
                            have c31b1 : (x12_3 != (t355.length : Int)) = true := bne_iff_ne.mpr c31
                            exact absurd (Option.some.inj H) (by rw [HR_.out]; decide)
            · replace c19 := Bool.eq_false_iff.mpr c19
              subst c19
              have H1 : (laws_FnWordsSay.j3 kj7 l1) = some r := by rw [if_neg (show ¬ (false = true) by decide)] at H; exact H
              clear H
              have H := H1
              clear H1
              as_aux_lemma =>
                have H' := Aside0.mk H
                clear H
                go_wp2
                go_meet
                case rel => exact ⟨_, H', ⟨by have := HJ7.out; first | omega | exact Nat.le_refl _⟩, ⟨by repeat (first | (with_reducible first | exact HB.out | apply below_alloc | apply pw_below_drewN | apply below_drew1) | exact HB.out)⟩⟩
          case rest =>
            clear HC18
            try clear c1
            try clear c2
            try clear p2
            try clear c3
            try clear p3
            try clear q3
            try clear hx3
            try clear c4
            try clear p6
            try clear c13
            try clear c13b0
            try clear c13b1
            try clear c13b2
            try clear c15
            try clear c17
            try clear c19
            try clear c24
            try clear c26
            try clear c28
            try clear c29
            try clear c29b0
            try clear c30
            try clear c30b0
            try clear c31
            try clear c31b0
            try clear c31b1
            try clear hx372_0
            try clear p2
            try clear p372
            try clear q372
            obtain ⟨kq, HA, HJ17, HB⟩ := hcut
            cases kq with
            | zero => exact absurd HA.out (by simp [laws_FnWordsSay.j3])
            | succ kj17 =>
              have H := HA.out
              clear HA
              simp only [laws_FnWordsSay.j3] at H
              replace H := Option.bind_eq_some_iff.mp H
              obtain ⟨t373, A320, H⟩ := H
              replace H : ((impl_UnsayWord.f kj17 t373).bind fun bt376 => ((spec_UnsayWord.f kj17 t373).bind fun bt380 => (if (bt376.2 != bt380.2) = true then (laws_FnWordsSay.j4 kj17 l1 t373 bt376.1 bt376.2 true) else ((laws_qSame.f kj17 bt376.1 bt380.1).bind fun t384 => (laws_FnWordsSay.j4 kj17 l1 t373 bt376.1 bt376.2 (!t384)))))) = some r := H
              have A32 := Aside0.mk A320
              clear A320
              replace H := Option.bind_eq_some_iff.mp H
              obtain ⟨⟨t376, t377⟩, A330, H⟩ := H
              replace H : ((spec_UnsayWord.f kj17 t373).bind fun bt380 => (if (t377 != bt380.2) = true then (laws_FnWordsSay.j4 kj17 l1 t373 t376 t377 true) else ((laws_qSame.f kj17 t376 bt380.1).bind fun t384 => (laws_FnWordsSay.j4 kj17 l1 t373 t376 t377 (!t384))))) = some r := H
              have A33 := Aside0.mk A330
              clear A330
              replace H := Option.bind_eq_some_iff.mp H
              obtain ⟨⟨t380, t381⟩, A340, H⟩ := H
              replace H : (if (t377 != t381) = true then (laws_FnWordsSay.j4 kj17 l1 t373 t376 t377 true) else ((laws_qSame.f kj17 t376 t380).bind fun t384 => (laws_FnWordsSay.j4 kj17 l1 t373 t376 t377 (!t384)))) = some r := H
              have A34 := Aside0.mk A340
              clear A340
              have HC35 := Aside0.mk H
              clear H
              go_upto_region 22 with (first | ((with_reducible refine gate_callee (f := 40) rfl ?_); refine goesL_ (some 96) rfl rfl Try.func40 (by kernel_rfl) rfl #[.slice A1 l1.length c1] rfl (by (try simp only [List.map_toArray, List.map_cons, List.map_nil]); first | done | rfl | (simp only [List.length_drop, List.length_take]; rfl)) ?_; (with_reducible refine (spec_DrawUnsayWord.calls kj17 _ _ l1 t373 _ ?side1 ?side2 A32.out).mono ?_); (case side1 => repeat (first | exact (Kd.C_below HR1.out HB.out) | (with_reducible refine Kd.C_alloc ?_ _) | (with_reducible refine Kd.C_drewN ?_ _) | (with_reducible refine Kd.C_drew ?_))); (case side2 => exact HC1.out); rintro e w36 ⟨v374, rfl, ho0, hb⟩; refine ⟨_, rfl, ?_⟩; have n0_ := Aside0.mk (Kd.R_lower ho0 (below_size (by repeat (first | (with_reducible first | exact HB.out | apply below_alloc | apply pw_below_drewN | apply below_drew1) | exact HB.out)))); have n1_ := Aside0.mk (below_step (by repeat (first | (with_reducible first | exact HB.out | apply below_alloc | apply pw_below_drewN | apply below_drew1) | exact HB.out)) hb); clear HB; have HO375 := n0_; have HB := n1_; clear n0_ n1_; (try clear hb); (try clear hb2); (try clear hk); (try clear hi); (try clear ho0); obtain ⟨Ao37, co37, eo37⟩ := Kd.R_slice HO375.out; subst eo37) | ((with_reducible refine gate_callee (f := 39) rfl ?_); refine goesL_ (some 99) rfl rfl Try.func39 (by kernel_rfl) rfl #[.slice Ao37 t373.length co37] rfl (by (try simp only [List.map_toArray, List.map_cons, List.map_nil]); first | done | rfl | (simp only [List.length_drop, List.length_take]; rfl)) ?_; (with_reducible refine (impl_UnsayWord.calls kj17 _ _ t373 t376 t377 _ ?side1 ?side2 A33.out).mono ?_); (case side1 => repeat (first | exact (Kd.R_reads' HO375.out).2.2 | (with_reducible refine Kd.C_alloc ?_ _) | (with_reducible refine Kd.C_drewN ?_ _) | (with_reducible refine Kd.C_drew ?_))); (case side2 => exact (Kd.R_reads' HO375.out).2.1); rintro e w38 ⟨v378, rfl, ho0, hb⟩; refine ⟨_, rfl, ?_⟩; have n0_ := Aside0.mk (Kd.R_elder' (by (with_reducible repeat (first | apply Kd.R_alloc | apply Kd.R_drewN | apply Kd.R_drew)); exact HO375.out) (Kd.R_base ho0) hb); have n1_ := Aside0.mk (Kd.R_lower (Kd.R_new' ho0 (Kd.R_lt (by (with_reducible repeat (first | apply Kd.R_alloc | apply Kd.R_drewN | apply Kd.R_drew)); exact HO375.out))) (below_size (by repeat (first | (with_reducible first | exact HB.out | apply below_alloc | apply pw_below_drewN | apply below_drew1) | exact HB.out)))); have n2_ := Aside0.mk (below_step (by repeat (first | (with_reducible first | exact HB.out | apply below_alloc | apply pw_below_drewN | apply below_drew1) | exact HB.out)) hb); clear HO375; clear HB; have HO375 := n0_; have HO379 := n1_; have HB := n2_; clear n0_ n1_ n2_; (try clear hb); (try clear hb2); (try clear hk); (try clear hi); (try clear ho0)) | ((with_reducible refine gate_callee (f := 41) rfl ?_); refine goesL_ (some 104) rfl rfl Try.func41 (by kernel_rfl) rfl #[.slice Ao37 t373.length co37] rfl (by (try simp only [List.map_toArray, List.map_cons, List.map_nil]); first | done | rfl | (simp only [List.length_drop, List.length_take]; rfl)) ?_; (with_reducible refine (spec_UnsayWord.calls kj17 _ _ t373 t380 t381 _ ?side1 ?side2 A34.out).mono ?_); (case side1 => repeat (first | exact (Kd.R_reads' HO375.out).2.2 | (with_reducible refine Kd.C_alloc ?_ _) | (with_reducible refine Kd.C_drewN ?_ _) | (with_reducible refine Kd.C_drew ?_))); (case side2 => exact (Kd.R_reads' HO375.out).2.1); rintro e w39 ⟨v382, rfl, ho0, hb⟩; refine ⟨_, rfl, ?_⟩; have n0_ := Aside0.mk (Kd.R_elder' (by (with_reducible repeat (first | apply Kd.R_alloc | apply Kd.R_drewN | apply Kd.R_drew)); exact HO375.out) (Kd.R_base ho0) hb); have n1_ := Aside0.mk (Kd.R_elder' (by (with_reducible repeat (first | apply Kd.R_alloc | apply Kd.R_drewN | apply Kd.R_drew)); exact HO379.out) (Kd.R_base ho0) hb); have n2_ := Aside0.mk (Kd.R_lower (Kd.R_new' (Kd.R_new' ho0 (Kd.R_lt (by (with_reducible repeat (first | apply Kd.R_alloc | apply Kd.R_drewN | apply Kd.R_drew)); exact HO375.out))) (Kd.R_lt (by (with_reducible repeat (first | apply Kd.R_alloc | apply Kd.R_drewN | apply Kd.R_drew)); exact HO379.out))) (below_size (by repeat (first | (with_reducible first | exact HB.out | apply below_alloc | apply pw_below_drewN | apply below_drew1) | exact HB.out)))); have n3_ := Aside0.mk (below_step (by repeat (first | (with_reducible first | exact HB.out | apply below_alloc | apply pw_below_drewN | apply below_drew1) | exact HB.out)) hb); clear HO375; clear HO379; clear HB; have HO375 := n0_; have HO379 := n1_; have HO383 := n2_; have HB := n3_; clear n0_ n1_ n2_ n3_; (try clear hb); (try clear hb2); (try clear hk); (try clear hi); (try clear ho0)))
              (try simp only [Act.put, List.setIfInBounds_toArray, List.set_cons_zero, List.set_cons_succ])
              go_cut [115] (fun v115 wc => ∃ (kq : Nat) (x115_34 : Bool), v115 = .bool x115_34 ∧ Aside0 (laws_FnWordsSay.j4 kq l1 t373 t376 t377 x115_34 = some r) ∧ Aside0 (kq ≤ kj17) ∧ Aside0 (Kd.R (Kd.int .i64) 3 wc w.heap.size (fun k_ => some k_ ≠ (v378 : Value).ownBlock) (.slice Ao37 t373.length co37) t373) ∧ Aside0 (Kd.R (Kd.int .i64) 3 wc w.heap.size (fun k_ => some k_ ≠ ((.slice Ao37 t373.length co37) : Value).ownBlock) v378 t376) ∧ Aside0 (Below w.heap.size w wc))
              case first =>
                have H := HC35.out
                clear HC35
                by_cases c40 : (t377 != t381) = true
                · rw [if_pos c40] at H
                  have c40b0 : (t377 != t381) = true := c40
                  (try (have c40b1 : decide (t377 = t381) = false := by simpa using c40))
                  (try (have c40b2 : (t377 == t381) = false := by simpa using c40))
                  (try (have c40b3 : ¬ (t377 = t381) := by simpa using c40))
                  clear c40
                  (first | rw [c40b0] | (simp only [i64_w, i32_w]; rw [c40b0]) | skip)
                  exact (laws_FnWordsSay.j4_no HR_.out _ _ _ _ _ H).elim
                · rw [if_neg c40] at H
                  have c40b0 : (t377 != t381) = false := by simpa using c40
                  (try (have c40b1 : decide (t377 = t381) = true := by simpa using c40))
                  (try (have c40b2 : (t377 == t381) = true := by simpa using c40))
                  clear c40
                  (first | rw [c40b0] | (simp only [i64_w, i32_w]; rw [c40b0]) | skip)
                  replace H := Option.bind_eq_some_iff.mp H
                  obtain ⟨t384, A410, H⟩ := H
                  replace H : (laws_FnWordsSay.j4 kj17 l1 t373 t376 t377 (!t384)) = some r := H
                  have A41 := Aside0.mk A410
                  clear A410
                  as_aux_lemma =>
                    have H' := Aside0.mk H
                    clear H
                    obtain ⟨Ao42, co42, eo42⟩ := Kd.R_slice HO379.out
                    subst eo42
                    obtain ⟨Ao43, co43, eo43⟩ := Kd.R_slice HO383.out
                    subst eo43
                    go_wp2_with (first | (go_at_call 34; (with_reducible refine (laws_qSame.calls kj17 _ _ t376 _ _ t380 t384 _ ?side1 ?side2 ?side3 ?side4 A41.out).mono ?_); (case side1 => repeat (first | exact (Kd.R_reads' HO379.out).2.2 | (with_reducible refine Kd.C_alloc ?_ _) | (with_reducible refine Kd.C_drewN ?_ _) | (with_reducible refine Kd.C_drew ?_))); (case side2 => exact (Kd.R_reads' HO379.out).2.1); (case side3 => repeat (first | exact (Kd.R_reads' HO383.out).2.2 | (with_reducible refine Kd.C_alloc ?_ _) | (with_reducible refine Kd.C_drewN ?_ _) | (with_reducible refine Kd.C_drew ?_))); (case side4 => exact (Kd.R_reads' HO383.out).2.1); rintro e w' ⟨rfl, ⟨nd, rfl⟩⟩))
                    go_meet
                    case rel => exact ⟨_, (!t384), (by first | rfl | (simp; done) | (simp [*]; done)), H', ⟨by have := HJ7.out; have := HJ17.out; first | omega | exact Nat.le_refl _⟩, ⟨by (with_reducible repeat (first | apply Kd.R_alloc | apply Kd.R_drewN | apply Kd.R_drew)); exact Kd.R_mono HO375.out (fun _ hk => hk.1.2)⟩, ⟨by (with_reducible repeat (first | apply Kd.R_alloc | apply Kd.R_drewN | apply Kd.R_drew)); exact Kd.R_mono HO379.out (fun _ hk => hk.1.2)⟩, ⟨by repeat (first | (with_reducible first | exact HB.out | apply below_alloc | apply pw_below_drewN | apply below_drew1) | exact HB.out)⟩⟩
              case rest =>
                clear HC35
                try clear c1
                try clear c2
                try clear p2
                try clear c3
                try clear p3
                try clear q3
                try clear hx3
                try clear c4
                try clear p6
                try clear c13
                try clear c13b0
                try clear c13b1
                try clear c13b2
                try clear c15
                try clear c17
                try clear c19
                try clear c24
                try clear c26
                try clear c28
                try clear c29
                try clear c29b0
                try clear c30
                try clear c30b0
                try clear c31
                try clear c31b0
                try clear c31b1
                try clear c36
                try clear c37
                try clear p37
                try clear q37
                try clear hx37
                try clear c38
                try clear c39
                try clear c40
                try clear c40b0
                try clear c40b1
                try clear c40b2
                try clear c41
                try clear hx372_0
                try clear p2
                try clear p3
                try clear p372
                try clear p6
                try clear q3
                try clear q372
                obtain ⟨kq, x115_34, rfl, HA, HJ34, HO_14, HO_15, HB⟩ := hcut
                cases kq with
                | zero => exact absurd HA.out (by simp [laws_FnWordsSay.j4])
                | succ kj34 =>
                  have H := HA.out
                  clear HA
                  simp only [laws_FnWordsSay.j4] at H
                  by_cases c44 : x115_34 = true
                  · subst c44
                    have H1 : (some false) = some r := by rw [if_pos rfl] at H; exact H
                    clear H
                    have H := H1
                    clear H1
                    exact absurd (Option.some.inj H) (by rw [HR_.out]; decide)
                  · replace c44 := Bool.eq_false_iff.mpr c44
                    subst c44
                    have H1 : (if t377 = true then ((impl_SayWord.f kj34 t376).bind fun bt385 => (if bt385.2 = true then ((laws_qSame.f kj34 bt385.1 t373).bind fun t389 => (if t389 = true then (laws_FnWordsSay.j5 kj34 l1) else (some false))) else (some false))) else (laws_FnWordsSay.j5 kj34 l1)) = some r := by rw [if_neg (show ¬ (false = true) by decide)] at H; exact H
                    clear H
                    have H := H1
                    clear H1
                    have HC45 := Aside0.mk H
                    clear H
                    go_upto_if 116 with (fail)
                    go_cut [] (fun wc => ∃ (kq : Nat), Aside0 (laws_FnWordsSay.j5 kq l1 = some r) ∧ Aside0 (kq ≤ kj34) ∧ Aside0 (Below w.heap.size w wc))
                    case first =>
                      have H := HC45.out
                      clear HC45
                      by_cases c46 : t377 = true
                      · subst c46
                        have H1 : ((impl_SayWord.f kj34 t376).bind fun bt385 => (if bt385.2 = true then ((laws_qSame.f kj34 bt385.1 t373).bind fun t389 => (if t389 = true then (laws_FnWordsSay.j5 kj34 l1) else (some false))) else (some false))) = some r := by rw [if_pos rfl] at H; exact H
                        clear H
                        have H := H1
                        clear H1
                        replace H := Option.bind_eq_some_iff.mp H
                        obtain ⟨⟨t385, t386⟩, A470, H⟩ := H
                        replace H : (if t386 = true then ((laws_qSame.f kj34 t385 t373).bind fun t389 => (if t389 = true then (laws_FnWordsSay.j5 kj34 l1) else (some false))) else (some false)) = some r := H
                        have A47 := Aside0.mk A470
                        clear A470
                        by_cases c48 : t386 = true
                        · subst c48
                          have H1 : ((laws_qSame.f kj34 t385 t373).bind fun t389 => (if t389 = true then (laws_FnWordsSay.j5 kj34 l1) else (some false))) = some r := by rw [if_pos rfl] at H; exact H
                          clear H
                          have H := H1
                          clear H1
                          replace H := Option.bind_eq_some_iff.mp H
                          obtain ⟨t389, A490, H⟩ := H
                          replace H : (if t389 = true then (laws_FnWordsSay.j5 kj34 l1) else (some false)) = some r := H
                          have A49 := Aside0.mk A490
                          clear A490
                          by_cases c50 : t389 = true
                          · subst c50
                            have H1 : (laws_FnWordsSay.j5 kj34 l1) = some r := by rw [if_pos rfl] at H; exact H
                            clear H
                            have H := H1
                            clear H1
                            as_aux_lemma =>
                              have H' := Aside0.mk H
                              clear H
                              obtain ⟨Ao51, co51, eo51⟩ := Kd.R_slice HO_15.out
                              subst eo51
                              go_wp2_with (first | ((with_reducible refine gate_callee (f := 37) rfl ?_); refine goesL_ (some 119) rfl rfl Try.func37 (by kernel_rfl) rfl #[.slice Ao51 t376.length co51] rfl (by (try simp only [List.map_toArray, List.map_cons, List.map_nil]); first | done | rfl | (simp only [List.length_drop, List.length_take]; rfl)) ?_; (with_reducible refine (impl_SayWord.calls kj34 _ _ t376 t385 true _ ?side1 ?side2 A47.out).mono ?_); (case side1 => repeat (first | exact (Kd.R_reads' HO_15.out).2.2 | (with_reducible refine Kd.C_alloc ?_ _) | (with_reducible refine Kd.C_drewN ?_ _) | (with_reducible refine Kd.C_drew ?_))); (case side2 => exact (Kd.R_reads' HO_15.out).2.1); rintro e w52 ⟨v387, rfl, ho0, hb⟩; refine ⟨_, rfl, ?_⟩; have n0_ := Aside0.mk (Kd.R_elder' (by (with_reducible repeat (first | apply Kd.R_alloc | apply Kd.R_drewN | apply Kd.R_drew)); exact HO_14.out) (Kd.R_base ho0) hb); have n1_ := Aside0.mk (Kd.R_elder' (by (with_reducible repeat (first | apply Kd.R_alloc | apply Kd.R_drewN | apply Kd.R_drew)); exact HO_15.out) (Kd.R_base ho0) hb); have n2_ := Aside0.mk (Kd.R_lower (Kd.R_new' (Kd.R_new' ho0 (Kd.R_lt (by (with_reducible repeat (first | apply Kd.R_alloc | apply Kd.R_drewN | apply Kd.R_drew)); exact HO_14.out))) (Kd.R_lt (by (with_reducible repeat (first | apply Kd.R_alloc | apply Kd.R_drewN | apply Kd.R_drew)); exact HO_15.out))) (below_size (by repeat (first | (with_reducible first | exact HB.out | apply below_alloc | apply pw_below_drewN | apply below_drew1) | exact HB.out)))); have n3_ := Aside0.mk (below_step (by repeat (first | (with_reducible first | exact HB.out | apply below_alloc | apply pw_below_drewN | apply below_drew1) | exact HB.out)) hb); clear HO_14; clear HO_15; clear HB; have HO_14 := n0_; have HO_15 := n1_; have HO388 := n2_; have HB := n3_; clear n0_ n1_ n2_ n3_; (try clear hb); (try clear hb2); (try clear hk); (try clear hi); (try clear ho0); obtain ⟨Ao53, co53, eo53⟩ := Kd.R_slice HO388.out; subst eo53) | (go_at_call 34; (with_reducible refine (laws_qSame.calls kj34 _ _ t385 _ _ t373 true _ ?side1 ?side2 ?side3 ?side4 A49.out).mono ?_); (case side1 => repeat (first | exact (Kd.R_reads' HO388.out).2.2 | (with_reducible refine Kd.C_alloc ?_ _) | (with_reducible refine Kd.C_drewN ?_ _) | (with_reducible refine Kd.C_drew ?_))); (case side2 => exact (Kd.R_reads' HO388.out).2.1); (case side3 => repeat (first | exact (Kd.R_reads' HO_14.out).2.2 | (with_reducible refine Kd.C_alloc ?_ _) | (with_reducible refine Kd.C_drewN ?_ _) | (with_reducible refine Kd.C_drew ?_))); (case side4 => exact (Kd.R_reads' HO_14.out).2.1); rintro e w' ⟨rfl, ⟨nd, rfl⟩⟩))
                              go_meet
                              case rel => exact ⟨_, H', ⟨by have := HJ7.out; have := HJ17.out; have := HJ34.out; first | omega | exact Nat.le_refl _⟩, ⟨by repeat (first | (with_reducible first | exact HB.out | apply below_alloc | apply pw_below_drewN | apply below_drew1) | exact HB.out)⟩⟩
                          · replace c50 := Bool.eq_false_iff.mpr c50
                            subst c50
                            have H1 : (some false) = some r := by rw [if_neg (show ¬ (false = true) by decide)] at H; exact H
                            clear H
                            have H := H1
                            clear H1
                            exact absurd (Option.some.inj H) (by rw [HR_.out]; decide)
                        · replace c48 := Bool.eq_false_iff.mpr c48
                          subst c48
                          have H1 : (some false) = some r := by rw [if_neg (show ¬ (false = true) by decide)] at H; exact H
                          clear H
                          have H := H1
                          clear H1
                          exact absurd (Option.some.inj H) (by rw [HR_.out]; decide)
                      · replace c46 := Bool.eq_false_iff.mpr c46
                        subst c46
                        have H1 : (laws_FnWordsSay.j5 kj34 l1) = some r := by rw [if_neg (show ¬ (false = true) by decide)] at H; exact H
                        clear H
                        have H := H1
                        clear H1
                        as_aux_lemma =>
                          have H' := Aside0.mk H
                          clear H
                          go_wp2
                          go_meet
                          case rel => exact ⟨_, H', ⟨by have := HJ7.out; have := HJ17.out; have := HJ34.out; first | omega | exact Nat.le_refl _⟩, ⟨by repeat (first | (with_reducible first | exact HB.out | apply below_alloc | apply pw_below_drewN | apply below_drew1) | exact HB.out)⟩⟩
                    case rest =>
                      clear HC45
                      try clear c1
                      try clear c2
                      try clear p2
                      try clear c3
                      try clear p3
                      try clear q3
                      try clear hx3
                      try clear c4
                      try clear c5
                      try clear p6
                      try clear c13
                      try clear c13b0
                      try clear c13b1
                      try clear c13b2
                      try clear c15
                      try clear c17
                      try clear c19
                      try clear c24
                      try clear c26
                      try clear c28
                      try clear c29
                      try clear c29b0
                      try clear c30
                      try clear c30b0
                      try clear c31
                      try clear c31b0
                      try clear c31b1
                      try clear c36
                      try clear c37
                      try clear p37
                      try clear q37
                      try clear hx37
                      try clear c38
                      try clear c39
                      try clear c40
                      try clear c40b0
                      try clear c40b1
                      try clear c40b2
                      try clear c41
                      try clear c44
                      try clear c46
                      try clear c48
                      try clear c50
                      try clear hx372_0
                      try clear p2
                      try clear p3
                      try clear p37
                      try clear p372
                      try clear p6
                      try clear q3
                      try clear q37
                      try clear q372
                      obtain ⟨kq, HA, HJ44, HB⟩ := hcut
                      cases kq with
                      | zero => exact absurd HA.out (by simp [laws_FnWordsSay.j5])
                      | succ kj44 =>
                        have H := HA.out
                        clear HA
                        simp only [laws_FnWordsSay.j5] at H
                        replace H := Option.bind_eq_some_iff.mp H
                        obtain ⟨⟨t390, t391⟩, A540, H⟩ := H
                        replace H : ((impl_SayRun.f kj44 t390 t391).bind fun bt394 => ((spec_SayRun.f kj44 t390 t391).bind fun bt398 => ((impl_LengthsOfSay.f kj44 t390 t391).bind fun bt402 => ((spec_LengthsOfSay.f kj44 t390 t391).bind fun bt406 => (if (bt394.2 != bt398.2) = true then (laws_FnWordsSay.j6 kj44 t390 t391 bt394.1 bt394.2 bt402.1 true) else ((laws_qSameRows.f kj44 bt394.1 bt398.1).bind fun t410 => (if t410 = true then (if (bt402.2 != bt406.2) = true then (laws_FnWordsSay.j6 kj44 t390 t391 bt394.1 bt394.2 bt402.1 true) else ((laws_qSame.f kj44 bt402.1 bt406.1).bind fun t411 => (if t411 = true then (laws_FnWordsSay.j6 kj44 t390 t391 bt394.1 bt394.2 bt402.1 (bt402.2 != bt394.2)) else (laws_FnWordsSay.j6 kj44 t390 t391 bt394.1 bt394.2 bt402.1 true)))) else (laws_FnWordsSay.j6 kj44 t390 t391 bt394.1 bt394.2 bt402.1 true)))))))) = some r := H
                        have A54 := Aside0.mk A540
                        clear A540
                        replace H := Option.bind_eq_some_iff.mp H
                        obtain ⟨⟨t394, t397⟩, A550, H⟩ := H
                        replace H : ((spec_SayRun.f kj44 t390 t391).bind fun bt398 => ((impl_LengthsOfSay.f kj44 t390 t391).bind fun bt402 => ((spec_LengthsOfSay.f kj44 t390 t391).bind fun bt406 => (if (t397 != bt398.2) = true then (laws_FnWordsSay.j6 kj44 t390 t391 t394 t397 bt402.1 true) else ((laws_qSameRows.f kj44 t394 bt398.1).bind fun t410 => (if t410 = true then (if (bt402.2 != bt406.2) = true then (laws_FnWordsSay.j6 kj44 t390 t391 t394 t397 bt402.1 true) else ((laws_qSame.f kj44 bt402.1 bt406.1).bind fun t411 => (if t411 = true then (laws_FnWordsSay.j6 kj44 t390 t391 t394 t397 bt402.1 (bt402.2 != t397)) else (laws_FnWordsSay.j6 kj44 t390 t391 t394 t397 bt402.1 true)))) else (laws_FnWordsSay.j6 kj44 t390 t391 t394 t397 bt402.1 true))))))) = some r := H
                        have A55 := Aside0.mk A550
                        clear A550
                        replace H := Option.bind_eq_some_iff.mp H
                        obtain ⟨⟨t398, t401⟩, A560, H⟩ := H
                        replace H : ((impl_LengthsOfSay.f kj44 t390 t391).bind fun bt402 => ((spec_LengthsOfSay.f kj44 t390 t391).bind fun bt406 => (if (t397 != t401) = true then (laws_FnWordsSay.j6 kj44 t390 t391 t394 t397 bt402.1 true) else ((laws_qSameRows.f kj44 t394 t398).bind fun t410 => (if t410 = true then (if (bt402.2 != bt406.2) = true then (laws_FnWordsSay.j6 kj44 t390 t391 t394 t397 bt402.1 true) else ((laws_qSame.f kj44 bt402.1 bt406.1).bind fun t411 => (if t411 = true then (laws_FnWordsSay.j6 kj44 t390 t391 t394 t397 bt402.1 (bt402.2 != t397)) else (laws_FnWordsSay.j6 kj44 t390 t391 t394 t397 bt402.1 true)))) else (laws_FnWordsSay.j6 kj44 t390 t391 t394 t397 bt402.1 true)))))) = some r := H
                        have A56 := Aside0.mk A560
                        clear A560
                        replace H := Option.bind_eq_some_iff.mp H
                        obtain ⟨⟨t402, t403⟩, A570, H⟩ := H
                        replace H : ((spec_LengthsOfSay.f kj44 t390 t391).bind fun bt406 => (if (t397 != t401) = true then (laws_FnWordsSay.j6 kj44 t390 t391 t394 t397 t402 true) else ((laws_qSameRows.f kj44 t394 t398).bind fun t410 => (if t410 = true then (if (t403 != bt406.2) = true then (laws_FnWordsSay.j6 kj44 t390 t391 t394 t397 t402 true) else ((laws_qSame.f kj44 t402 bt406.1).bind fun t411 => (if t411 = true then (laws_FnWordsSay.j6 kj44 t390 t391 t394 t397 t402 (t403 != t397)) else (laws_FnWordsSay.j6 kj44 t390 t391 t394 t397 t402 true)))) else (laws_FnWordsSay.j6 kj44 t390 t391 t394 t397 t402 true))))) = some r := H
                        have A57 := Aside0.mk A570
                        clear A570
                        replace H := Option.bind_eq_some_iff.mp H
                        obtain ⟨⟨t406, t407⟩, A580, H⟩ := H
                        replace H : (if (t397 != t401) = true then (laws_FnWordsSay.j6 kj44 t390 t391 t394 t397 t402 true) else ((laws_qSameRows.f kj44 t394 t398).bind fun t410 => (if t410 = true then (if (t403 != t407) = true then (laws_FnWordsSay.j6 kj44 t390 t391 t394 t397 t402 true) else ((laws_qSame.f kj44 t402 t406).bind fun t411 => (if t411 = true then (laws_FnWordsSay.j6 kj44 t390 t391 t394 t397 t402 (t403 != t397)) else (laws_FnWordsSay.j6 kj44 t390 t391 t394 t397 t402 true)))) else (laws_FnWordsSay.j6 kj44 t390 t391 t394 t397 t402 true)))) = some r := H
                        have A58 := Aside0.mk A580
                        clear A580
                        have HC59 := Aside0.mk H
                        clear H
                        go_upto_region 33 with (first | ((with_reducible refine gate_callee (f := 42) rfl ?_); refine goesL_ (some 132) rfl rfl Try.func42 (by kernel_rfl) rfl #[.slice A1 l1.length c1] rfl (by (try simp only [List.map_toArray, List.map_cons, List.map_nil]); first | done | rfl | (simp only [List.length_drop, List.length_take]; rfl)) ?_; (with_reducible refine (spec_DrawSayRun.calls kj44 _ _ l1 t390 t391 _ ?side1 ?side2 A54.out).mono ?_); (case side1 => repeat (first | exact (Kd.C_below HR1.out HB.out) | (with_reducible refine Kd.C_alloc ?_ _) | (with_reducible refine Kd.C_drewN ?_ _) | (with_reducible refine Kd.C_drew ?_))); (case side2 => exact HC1.out); rintro e w60 ⟨v392, rfl, ho0, hb⟩; refine ⟨_, rfl, ?_⟩; have n0_ := Aside0.mk (Kd.R_lower ho0 (below_size (by repeat (first | (with_reducible first | exact HB.out | apply below_alloc | apply pw_below_drewN | apply below_drew1) | exact HB.out)))); have n1_ := Aside0.mk (below_step (by repeat (first | (with_reducible first | exact HB.out | apply below_alloc | apply pw_below_drewN | apply below_drew1) | exact HB.out)) hb); clear HB; have HO393 := n0_; have HB := n1_; clear n0_ n1_; (try clear hb); (try clear hb2); (try clear hk); (try clear hi); (try clear ho0); obtain ⟨Ao61, co61, eo61⟩ := Kd.R_slice HO393.out; subst eo61) | ((with_reducible refine gate_callee (f := 43) rfl ?_); refine goesL_ (some 138) rfl rfl Try.func43 (by kernel_rfl) rfl #[.slice Ao61 t390.length co61, .int .i64 t391] rfl (by (try simp only [List.map_toArray, List.map_cons, List.map_nil]); first | done | rfl | (simp only [List.length_drop, List.length_take]; rfl)) ?_; (with_reducible refine (impl_SayRun.calls kj44 _ _ t390 t391 t394 t397 _ ?side1 ?side2 A55.out).mono ?_); (case side1 => repeat (first | exact (Kd.R_reads' HO393.out).2.2 | (with_reducible refine Kd.C_alloc ?_ _) | (with_reducible refine Kd.C_drewN ?_ _) | (with_reducible refine Kd.C_drew ?_))); (case side2 => exact (Kd.R_reads' HO393.out).2.1); rintro e w62 ⟨v395, rfl, ho0, hb⟩; refine ⟨_, rfl, ?_⟩; have n0_ := Aside0.mk (Kd.R_below (by (with_reducible repeat (first | apply Kd.R_alloc | apply Kd.R_drewN | apply Kd.R_drew)); exact HO393.out) hb); have n1_ := Aside0.mk (Kd.N_lower (Kd.N_mono (ok' := fun k_ => some k_ ≠ (.slice Ao61 t390.length co61 : Value).ownBlock) ho0 (fun k_ hk_ => (Kd.fresh' (Kd.R_lt (by (with_reducible repeat (first | apply Kd.R_alloc | apply Kd.R_drewN | apply Kd.R_drew)); exact HO393.out)) k_ hk_))) (below_size (by repeat (first | (with_reducible first | exact HB.out | apply below_alloc | apply pw_below_drewN | apply below_drew1) | exact HB.out)))); have n2_ := Aside0.mk (below_step (by repeat (first | (with_reducible first | exact HB.out | apply below_alloc | apply pw_below_drewN | apply below_drew1) | exact HB.out)) hb); clear HO393; clear HB; have HO393 := n0_; have HO396 := n1_; have HB := n2_; clear n0_ n1_ n2_; (try clear hb); (try clear hb2); (try clear hk); (try clear hi); (try clear ho0)) | ((with_reducible refine gate_callee (f := 44) rfl ?_); refine goesL_ (some 144) rfl rfl Try.func44 (by kernel_rfl) rfl #[.slice Ao61 t390.length co61, .int .i64 t391] rfl (by (try simp only [List.map_toArray, List.map_cons, List.map_nil]); first | done | rfl | (simp only [List.length_drop, List.length_take]; rfl)) ?_; (with_reducible refine (spec_SayRun.calls kj44 _ _ t390 t391 t398 t401 _ ?side1 ?side2 A56.out).mono ?_); (case side1 => repeat (first | exact (Kd.R_reads' HO393.out).2.2 | (with_reducible refine Kd.C_alloc ?_ _) | (with_reducible refine Kd.C_drewN ?_ _) | (with_reducible refine Kd.C_drew ?_))); (case side2 => exact (Kd.R_reads' HO393.out).2.1); rintro e w63 ⟨v399, rfl, ho0, hb⟩; refine ⟨_, rfl, ?_⟩; have n0_ := Aside0.mk (Kd.R_below (by (with_reducible repeat (first | apply Kd.R_alloc | apply Kd.R_drewN | apply Kd.R_drew)); exact HO393.out) hb); have n1_ := Aside0.mk (Kd.N_elder' (by (with_reducible repeat (first | apply Kd.N_alloc | apply Kd.N_drewN | apply Kd.N_drew)); exact HO396.out) (Kd.N_base ho0) hb); have n2_ := Aside0.mk (Kd.N_lower (Kd.N_mono (ok' := fun k_ => some k_ ≠ (.slice Ao61 t390.length co61 : Value).ownBlock ∧ some k_ ≠ (v395 : Value).ownBlock) ho0 (fun k_ hk_ => ⟨(Kd.fresh' (Kd.R_lt (by (with_reducible repeat (first | apply Kd.R_alloc | apply Kd.R_drewN | apply Kd.R_drew)); exact HO393.out)) k_ hk_), (Kd.fresh' (Kd.N_lt (by (with_reducible repeat (first | apply Kd.N_alloc | apply Kd.N_drewN | apply Kd.N_drew)); exact HO396.out)) k_ hk_)⟩)) (below_size (by repeat (first | (with_reducible first | exact HB.out | apply below_alloc | apply pw_below_drewN | apply below_drew1) | exact HB.out)))); have n3_ := Aside0.mk (below_step (by repeat (first | (with_reducible first | exact HB.out | apply below_alloc | apply pw_below_drewN | apply below_drew1) | exact HB.out)) hb); clear HO393; clear HO396; clear HB; have HO393 := n0_; have HO396 := n1_; have HO400 := n2_; have HB := n3_; clear n0_ n1_ n2_ n3_; (try clear hb); (try clear hb2); (try clear hk); (try clear hi); (try clear ho0)) | ((with_reducible refine gate_callee (f := 45) rfl ?_); refine goesL_ (some 150) rfl rfl Try.func45 (by kernel_rfl) rfl #[.slice Ao61 t390.length co61, .int .i64 t391] rfl (by (try simp only [List.map_toArray, List.map_cons, List.map_nil]); first | done | rfl | (simp only [List.length_drop, List.length_take]; rfl)) ?_; (with_reducible refine (impl_LengthsOfSay.calls kj44 _ _ t390 t391 t402 t403 _ ?side1 ?side2 A57.out).mono ?_); (case side1 => repeat (first | exact (Kd.R_reads' HO393.out).2.2 | (with_reducible refine Kd.C_alloc ?_ _) | (with_reducible refine Kd.C_drewN ?_ _) | (with_reducible refine Kd.C_drew ?_))); (case side2 => exact (Kd.R_reads' HO393.out).2.1); rintro e w64 ⟨v404, rfl, ho0, hb⟩; refine ⟨_, rfl, ?_⟩; have n0_ := Aside0.mk (Kd.R_elder' (by (with_reducible repeat (first | apply Kd.R_alloc | apply Kd.R_drewN | apply Kd.R_drew)); exact HO393.out) (Kd.R_base ho0) hb); have n1_ := Aside0.mk (Kd.N_elder' (by (with_reducible repeat (first | apply Kd.N_alloc | apply Kd.N_drewN | apply Kd.N_drew)); exact HO396.out) (Kd.R_base ho0) hb); have n2_ := Aside0.mk (Kd.N_elder' (by (with_reducible repeat (first | apply Kd.N_alloc | apply Kd.N_drewN | apply Kd.N_drew)); exact HO400.out) (Kd.R_base ho0) hb); have n3_ := Aside0.mk (Kd.R_lower (Kd.R_new' ho0 (Kd.R_lt (by (with_reducible repeat (first | apply Kd.R_alloc | apply Kd.R_drewN | apply Kd.R_drew)); exact HO393.out))) (below_size (by repeat (first | (with_reducible first | exact HB.out | apply below_alloc | apply pw_below_drewN | apply below_drew1) | exact HB.out)))); have n4_ := Aside0.mk (below_step (by repeat (first | (with_reducible first | exact HB.out | apply below_alloc | apply pw_below_drewN | apply below_drew1) | exact HB.out)) hb); clear HO393; clear HO396; clear HO400; clear HB; have HO393 := n0_; have HO396 := n1_; have HO400 := n2_; have HO405 := n3_; have HB := n4_; clear n0_ n1_ n2_ n3_ n4_; (try clear hb); (try clear hb2); (try clear hk); (try clear hi); (try clear ho0)) | ((with_reducible refine gate_callee (f := 46) rfl ?_); refine goesL_ (some 156) rfl rfl Try.func46 (by kernel_rfl) rfl #[.slice Ao61 t390.length co61, .int .i64 t391] rfl (by (try simp only [List.map_toArray, List.map_cons, List.map_nil]); first | done | rfl | (simp only [List.length_drop, List.length_take]; rfl)) ?_; (with_reducible refine (spec_LengthsOfSay.calls kj44 _ _ t390 t391 t406 t407 _ ?side1 ?side2 A58.out).mono ?_); (case side1 => repeat (first | exact (Kd.R_reads' HO393.out).2.2 | (with_reducible refine Kd.C_alloc ?_ _) | (with_reducible refine Kd.C_drewN ?_ _) | (with_reducible refine Kd.C_drew ?_))); (case side2 => exact (Kd.R_reads' HO393.out).2.1); rintro e w65 ⟨v408, rfl, ho0, hb⟩; refine ⟨_, rfl, ?_⟩; have n0_ := Aside0.mk (Kd.R_elder' (by (with_reducible repeat (first | apply Kd.R_alloc | apply Kd.R_drewN | apply Kd.R_drew)); exact HO393.out) (Kd.R_base ho0) hb); have n1_ := Aside0.mk (Kd.N_elder' (by (with_reducible repeat (first | apply Kd.N_alloc | apply Kd.N_drewN | apply Kd.N_drew)); exact HO396.out) (Kd.R_base ho0) hb); have n2_ := Aside0.mk (Kd.N_elder' (by (with_reducible repeat (first | apply Kd.N_alloc | apply Kd.N_drewN | apply Kd.N_drew)); exact HO400.out) (Kd.R_base ho0) hb); have n3_ := Aside0.mk (Kd.R_elder' (by (with_reducible repeat (first | apply Kd.R_alloc | apply Kd.R_drewN | apply Kd.R_drew)); exact HO405.out) (Kd.R_base ho0) hb); have n4_ := Aside0.mk (Kd.R_lower (Kd.R_new' (Kd.R_new' ho0 (Kd.R_lt (by (with_reducible repeat (first | apply Kd.R_alloc | apply Kd.R_drewN | apply Kd.R_drew)); exact HO393.out))) (Kd.R_lt (by (with_reducible repeat (first | apply Kd.R_alloc | apply Kd.R_drewN | apply Kd.R_drew)); exact HO405.out))) (below_size (by repeat (first | (with_reducible first | exact HB.out | apply below_alloc | apply pw_below_drewN | apply below_drew1) | exact HB.out)))); have n5_ := Aside0.mk (below_step (by repeat (first | (with_reducible first | exact HB.out | apply below_alloc | apply pw_below_drewN | apply below_drew1) | exact HB.out)) hb); clear HO393; clear HO396; clear HO400; clear HO405; clear HB; have HO393 := n0_; have HO396 := n1_; have HO400 := n2_; have HO405 := n3_; have HO409 := n4_; have HB := n5_; clear n0_ n1_ n2_ n3_ n4_ n5_; (try clear hb); (try clear hb2); (try clear hk); (try clear hi); (try clear ho0)))
                        (try simp only [Act.put, List.setIfInBounds_toArray, List.set_cons_zero, List.set_cons_succ])
                        go_cut [183] (fun v183 wc => ∃ (kq : Nat) (x183_58 : Bool), v183 = .bool x183_58 ∧ Aside0 (laws_FnWordsSay.j6 kq t390 t391 t394 t397 t402 x183_58 = some r) ∧ Aside0 (kq ≤ kj44) ∧ Aside0 (Kd.R (Kd.int .i64) 3 wc w.heap.size (fun k_ => some k_ ≠ (v404 : Value).ownBlock) (.slice Ao61 t390.length co61) t390) ∧ Aside0 (Kd.N (Kd.slice 3 (Kd.int .i64)) 29 wc w.heap.size (fun k_ => some k_ ≠ ((.slice Ao61 t390.length co61) : Value).ownBlock ∧ some k_ ≠ (v404 : Value).ownBlock) v395 t394) ∧ Aside0 (Kd.R (Kd.int .i64) 3 wc w.heap.size (fun k_ => some k_ ≠ ((.slice Ao61 t390.length co61) : Value).ownBlock) v404 t402) ∧ Aside0 (Below w.heap.size w wc))
                        case first =>
                          have H := HC59.out
                          clear HC59
                          by_cases c66 : (t397 != t401) = true
                          · rw [if_pos c66] at H
                            have c66b0 : (t397 != t401) = true := c66
                            (try (have c66b1 : decide (t397 = t401) = false := by simpa using c66))
                            (try (have c66b2 : (t397 == t401) = false := by simpa using c66))
                            (try (have c66b3 : ¬ (t397 = t401) := by simpa using c66))
                            clear c66
                            (first | rw [c66b0] | (simp only [i64_w, i32_w]; rw [c66b0]) | skip)
                            exact (laws_FnWordsSay.j6_no HR_.out _ _ _ _ _ _ H).elim
                          · rw [if_neg c66] at H
                            have c66b0 : (t397 != t401) = false := by simpa using c66
                            (try (have c66b1 : decide (t397 = t401) = true := by simpa using c66))
                            (try (have c66b2 : (t397 == t401) = true := by simpa using c66))
                            clear c66
                            (first | rw [c66b0] | (simp only [i64_w, i32_w]; rw [c66b0]) | skip)
                            replace H := Option.bind_eq_some_iff.mp H
                            obtain ⟨t410, A670, H⟩ := H
                            replace H : (if t410 = true then (if (t403 != t407) = true then (laws_FnWordsSay.j6 kj44 t390 t391 t394 t397 t402 true) else ((laws_qSame.f kj44 t402 t406).bind fun t411 => (if t411 = true then (laws_FnWordsSay.j6 kj44 t390 t391 t394 t397 t402 (t403 != t397)) else (laws_FnWordsSay.j6 kj44 t390 t391 t394 t397 t402 true)))) else (laws_FnWordsSay.j6 kj44 t390 t391 t394 t397 t402 true)) = some r := H
                            have A67 := Aside0.mk A670
                            clear A670
                            by_cases c68 : t410 = true
                            · subst c68
                              have H1 : (if (t403 != t407) = true then (laws_FnWordsSay.j6 kj44 t390 t391 t394 t397 t402 true) else ((laws_qSame.f kj44 t402 t406).bind fun t411 => (if t411 = true then (laws_FnWordsSay.j6 kj44 t390 t391 t394 t397 t402 (t403 != t397)) else (laws_FnWordsSay.j6 kj44 t390 t391 t394 t397 t402 true)))) = some r := by rw [if_pos rfl] at H; exact H
                              clear H
                              have H := H1
                              clear H1
                              by_cases c69 : (t403 != t407) = true
                              · rw [if_pos c69] at H
                                have c69b0 : (t403 != t407) = true := c69
                                (try (have c69b1 : decide (t403 = t407) = false := by simpa using c69))
                                (try (have c69b2 : (t403 == t407) = false := by simpa using c69))
                                (try (have c69b3 : ¬ (t403 = t407) := by simpa using c69))
                                clear c69
                                exact (laws_FnWordsSay.j6_no HR_.out _ _ _ _ _ _ H).elim
                              · rw [if_neg c69] at H
                                have c69b0 : (t403 != t407) = false := by simpa using c69
                                (try (have c69b1 : decide (t403 = t407) = true := by simpa using c69))
                                (try (have c69b2 : (t403 == t407) = true := by simpa using c69))
                                clear c69
                                replace H := Option.bind_eq_some_iff.mp H
                                obtain ⟨t411, A700, H⟩ := H
                                replace H : (if t411 = true then (laws_FnWordsSay.j6 kj44 t390 t391 t394 t397 t402 (t403 != t397)) else (laws_FnWordsSay.j6 kj44 t390 t391 t394 t397 t402 true)) = some r := H
                                have A70 := Aside0.mk A700
                                clear A700
                                by_cases c71 : t411 = true
                                · subst c71
                                  have H1 : (laws_FnWordsSay.j6 kj44 t390 t391 t394 t397 t402 (t403 != t397)) = some r := by rw [if_pos rfl] at H; exact H
                                  clear H
                                  have H := H1
                                  clear H1
                                  as_aux_lemma =>
                                    have H' := Aside0.mk H
                                    clear H
                                    obtain ⟨Ao72, co72, eo72⟩ := Kd.N_slice HO396.out
                                    subst eo72
                                    obtain ⟨Ao73, co73, eo73⟩ := Kd.N_slice HO400.out
                                    subst eo73
                                    go_wp2_with (first | (go_at_call 19; (with_reducible refine (laws_qSameRows.calls kj44 _ _ t394 _ _ t398 true _ ?side1 ?side2 ?side3 ?side4 A67.out).mono ?_); (case side1 => repeat (first | exact (Kd.N_reads' HO396.out).2.2 | (with_reducible refine Kd.C_alloc ?_ _) | (with_reducible refine Kd.C_drewN ?_ _) | (with_reducible refine Kd.C_drew ?_))); (case side2 => exact (Kd.N_reads' HO396.out).2.1); (case side3 => repeat (first | exact (Kd.N_reads' HO400.out).2.2 | (with_reducible refine Kd.C_alloc ?_ _) | (with_reducible refine Kd.C_drewN ?_ _) | (with_reducible refine Kd.C_drew ?_))); (case side4 => exact (Kd.N_reads' HO400.out).2.1); rintro e w' ⟨rfl, ⟨nd, rfl⟩⟩; obtain ⟨Ao74, co74, eo74⟩ := Kd.R_slice HO405.out; subst eo74; obtain ⟨Ao75, co75, eo75⟩ := Kd.R_slice HO409.out; subst eo75) | (go_at_call 34; (with_reducible refine (laws_qSame.calls kj44 _ _ t402 _ _ t406 true _ ?side1 ?side2 ?side3 ?side4 A70.out).mono ?_); (case side1 => repeat (first | exact (Kd.R_reads' HO405.out).2.2 | (with_reducible refine Kd.C_alloc ?_ _) | (with_reducible refine Kd.C_drewN ?_ _) | (with_reducible refine Kd.C_drew ?_))); (case side2 => exact (Kd.R_reads' HO405.out).2.1); (case side3 => repeat (first | exact (Kd.R_reads' HO409.out).2.2 | (with_reducible refine Kd.C_alloc ?_ _) | (with_reducible refine Kd.C_drewN ?_ _) | (with_reducible refine Kd.C_drew ?_))); (case side4 => exact (Kd.R_reads' HO409.out).2.1); rintro e w' ⟨rfl, ⟨nd, rfl⟩⟩))
                                    go_meet
                                    case rel => exact ⟨_, ((t403 != t397)), (by first | rfl | (simp; done) | (simp [*]; done)), H', ⟨by have := HJ7.out; have := HJ17.out; have := HJ34.out; have := HJ44.out; first | omega | exact Nat.le_refl _⟩, ⟨by (with_reducible repeat (first | apply Kd.R_alloc | apply Kd.R_drewN | apply Kd.R_drew)); exact Kd.R_mono HO393.out (fun _ hk => hk.1.2)⟩, ⟨by (with_reducible repeat (first | apply Kd.N_alloc | apply Kd.N_drewN | apply Kd.N_drew)); exact Kd.N_mono HO396.out (fun _ hk => ⟨hk.1.1.1, hk.1.2⟩)⟩, ⟨by (with_reducible repeat (first | apply Kd.R_alloc | apply Kd.R_drewN | apply Kd.R_drew)); exact Kd.R_mono HO405.out (fun _ hk => hk.1.2)⟩, ⟨by repeat (first | (with_reducible first | exact HB.out | apply below_alloc | apply pw_below_drewN | apply below_drew1) | exact HB.out)⟩⟩
                                · replace c71 := Bool.eq_false_iff.mpr c71
                                  subst c71
                                  have H1 : (laws_FnWordsSay.j6 kj44 t390 t391 t394 t397 t402 true) = some r := by rw [if_neg (show ¬ (false = true) by decide)] at H; exact H
                                  clear H
                                  have H := H1
                                  clear H1
                                  exact (laws_FnWordsSay.j6_no HR_.out _ _ _ _ _ _ H).elim
                            · replace c68 := Bool.eq_false_iff.mpr c68
                              subst c68
                              have H1 : (laws_FnWordsSay.j6 kj44 t390 t391 t394 t397 t402 true) = some r := by rw [if_neg (show ¬ (false = true) by decide)] at H; exact H
                              clear H
                              have H := H1
                              clear H1
                              exact (laws_FnWordsSay.j6_no HR_.out _ _ _ _ _ _ H).elim
                        case rest =>
                          clear HC59
                          try clear c1
                          try clear c2
                          try clear p2
                          try clear c3
                          try clear p3
                          try clear q3
                          try clear hx3
                          try clear c4
                          try clear c5
                          try clear c6
                          try clear p6
                          try clear c7
                          try clear c13
                          try clear c13b0
                          try clear c13b1
                          try clear c13b2
                          try clear c15
                          try clear c17
                          try clear c19
                          try clear c24
                          try clear c26
                          try clear c28
                          try clear c29
                          try clear c29b0
                          try clear c30
                          try clear c30b0
                          try clear c31
                          try clear c31b0
                          try clear c31b1
                          try clear c36
                          try clear c37
                          try clear p37
                          try clear q37
                          try clear hx37
                          try clear c38
                          try clear c39
                          try clear c40
                          try clear c40b0
                          try clear c40b1
                          try clear c40b2
                          try clear c41
                          try clear c42
                          try clear c43
                          try clear c44
                          try clear c45
                          try clear c46
                          try clear c48
                          try clear c50
                          try clear p64
                          try clear c66
                          try clear c66b0
                          try clear c66b1
                          try clear c66b2
                          try clear c68
                          try clear c69
                          try clear c69b0
                          try clear c69b1
                          try clear c69b2
                          try clear c71
                          try clear hx372_0
                          try clear p2
                          try clear p3
                          try clear p37
                          try clear p372
                          try clear p6
                          try clear q3
                          try clear q37
                          try clear q372
                          obtain ⟨kq, x183_58, rfl, HA, HJ58, HO_21, HO_23, HO_27, HB⟩ := hcut
                          cases kq with
                          | zero => exact absurd HA.out (by simp [laws_FnWordsSay.j6])
                          | succ kj58 =>
                            have H := HA.out
                            clear HA
                            simp only [laws_FnWordsSay.j6] at H
                            by_cases c76 : x183_58 = true
                            · subst c76
                              have H1 : (some false) = some r := by rw [if_pos rfl] at H; exact H
                              clear H
                              have H := H1
                              clear H1
                              exact absurd (Option.some.inj H) (by rw [HR_.out]; decide)
                            · replace c76 := Bool.eq_false_iff.mpr c76
                              subst c76
                              have H1 : (if t397 = true then (if (t394.length : Int) = (wrap64 (t391 + 1)) then (if 0 < (t394.length : Int) then ((laws_qSame.f kj58 (rd_L2 t394 0) t390).bind fun t413 => (laws_FnWordsSay.j7 kj58 t394 t402 (!t413))) else (none)) else (laws_FnWordsSay.j7 kj58 t394 t402 true)) else (some true)) = some r := by rw [if_neg (show ¬ (false = true) by decide)] at H; exact H
                              clear H
                              have H := H1
                              clear H1
                              by_cases c77 : t397 = true
                              · subst c77
                                have H1 : (if (t394.length : Int) = (wrap64 (t391 + 1)) then (if 0 < (t394.length : Int) then ((laws_qSame.f kj58 (rd_L2 t394 0) t390).bind fun t413 => (laws_FnWordsSay.j7 kj58 t394 t402 (!t413))) else (none)) else (laws_FnWordsSay.j7 kj58 t394 t402 true)) = some r := by rw [if_pos rfl] at H; exact H
                                clear H
                                have H := H1
                                clear H1
                                have HC78 := Aside0.mk H
                                clear H
                                go_upto_region 37 with (fail)
                                go_cut [198] (fun v198 wc => ∃ (kq : Nat) (x198_77 : Bool), v198 = .bool x198_77 ∧ Aside0 (laws_FnWordsSay.j7 kq t394 t402 x198_77 = some r) ∧ Aside0 (kq ≤ kj58) ∧ Aside0 (Kd.N (Kd.slice 3 (Kd.int .i64)) 29 wc w.heap.size (fun k_ => some k_ ≠ (v404 : Value).ownBlock) v395 t394) ∧ Aside0 (Kd.R (Kd.int .i64) 3 wc w.heap.size (fun _ => True) v404 t402) ∧ Aside0 (Below w.heap.size w wc))
                                case first =>
                                  have H := HC78.out
                                  clear HC78
                                  by_cases c79 : (t394.length : Int) = (wrap64 (t391 + 1))
                                  · rw [if_pos c79] at H
                                    have c79b0 : ((t394.length : Int) == (wrap64 (t391 + 1))) = true := beq_iff_eq.mpr c79
                                    have c79b1 : ((t394.length : Int) != (wrap64 (t391 + 1))) = false := bne_eq_false_iff_eq.mpr c79
                                    clear c79
                                    (first | rw [c79b0] | (simp only [i64_w, i32_w]; rw [c79b0]) | skip)
                                    by_cases c80 : 0 < (t394.length : Int)
                                    · rw [if_pos c80] at H
                                      have c80b0 : decide (0 < (t394.length : Int)) = true := decide_eq_true c80
                                      have c80b1 : decide (0 < t394.length) = true := decide_eq_true (by omega)
                                      clear c80
                                      replace H := Option.bind_eq_some_iff.mp H
                                      obtain ⟨t413, A810, H⟩ := H
                                      replace H : (laws_FnWordsSay.j7 kj58 t394 t402 (!t413)) = some r := H
                                      have A81 := Aside0.mk A810
                                      clear A810
                                      as_aux_lemma =>
                                        have H' := Aside0.mk H
                                        clear H
                                        obtain ⟨Ao82, co82, eo82⟩ := Kd.N_slice HO_23.out
                                        subst eo82
                                        have p412 : 0 ≤ (0 : Int) := (by omega)
                                        have q412 : 0 < (t394.length : Int) := of_decide_eq_true (by first | (with_reducible assumption) | assumption)
                                        obtain ⟨ad412, A412_0, c412_0, e412, hx412_0, hl412_0, hi412_0⟩ := at_L2 (Kd.N_reads' HO_23.out).2.2 0 p412 q412
                                        cases e412
                                        obtain ⟨ce412, hce412, hMe412, hcc412⟩ := Kd.N_get HO_23.out [] 0 p412 (by first | exact q412 | exact of_decide_eq_true (by first | (with_reducible assumption) | assumption) | (have e_ := (Kd.N_reads' HO_23.out).1; omega))
                                        obtain ⟨ua412_0, uc412_0, rfl, ul412_0, ge412_0⟩ := Kd.FK_slice_open hMe412
                                        have hv412_0 := hcc412 0 _ rfl
                                        rw [Nat.add_zero, show ((Kd.slice 3 (Kd.int .i64))).sz = 1 from rfl, Nat.mul_one] at hv412_0
                                        replace hv412_0 := Option.some.inj (hv412_0.symm.trans hx412_0)
                                        injection hv412_0 with hva_ hvn_ hvc_
                                        rw [hva_] at ge412_0
                                        rw [hvc_] at ul412_0
                                        have HL412_0 := Aside0.mk (show Kd.V (Kd.int .i64) 3 _ w.heap.size _ _ (rd_L2 t394 0) from Kd.V_mk ul412_0 ge412_0)
                                        clear hva_ hvn_ hvc_ ge412_0 ul412_0
                                        clear hcc412 hce412
                                        have qi412 : (0 < t394.length) = True := eq_true (by omega)
                                        (try rw [show ((0 : Int)).toNat = 0 from rfl] at hx412_0)
                                        (try rw [Addr.add_zero'] at hx412_0)
                                        have HR412_0 := Aside0.mk hi412_0
                                        have HC412_0 := Aside0.mk hl412_0
                                        clear hi412_0 hl412_0
                                        replace p412 := eq_true p412
                                        replace q412 := eq_true q412
                                        go_wp2_with (first | (go_at_call 34; (with_reducible refine (laws_qSame.calls kj58 _ _ (rd_L2 t394 0) _ _ t390 t413 _ ?side1 ?side2 ?side3 ?side4 A81.out).mono ?_); (case side1 => repeat (first | exact (by repeat (first | (with_reducible exact HR412_0.out) | (with_reducible refine Kd.C_alloc ?_ _) | (with_reducible refine Kd.C_drewN ?_ _) | (with_reducible refine Kd.C_drew ?_) | exact HR412_0.out)) | (with_reducible refine Kd.C_alloc ?_ _) | (with_reducible refine Kd.C_drewN ?_ _) | (with_reducible refine Kd.C_drew ?_))); (case side2 => exact HC412_0.out); (case side3 => repeat (first | exact (Kd.R_reads' HO_21.out).2.2 | (with_reducible refine Kd.C_alloc ?_ _) | (with_reducible refine Kd.C_drewN ?_ _) | (with_reducible refine Kd.C_drew ?_))); (case side4 => exact (Kd.R_reads' HO_21.out).2.1); rintro e w' ⟨rfl, ⟨nd, rfl⟩⟩))
                                        go_meet
                                        case rel => exact ⟨_, (!t413), (by first | rfl | (simp; done) | (simp [*]; done)), H', ⟨by have := HJ7.out; have := HJ17.out; have := HJ34.out; have := HJ44.out; have := HJ58.out; first | omega | exact Nat.le_refl _⟩, ⟨by (with_reducible repeat (first | apply Kd.N_alloc | apply Kd.N_drewN | apply Kd.N_drew)); exact Kd.N_mono HO_23.out (fun _ hk => hk.2)⟩, ⟨by (with_reducible repeat (first | apply Kd.R_alloc | apply Kd.R_drewN | apply Kd.R_drew)); exact Kd.R_mono HO_27.out (fun _ hk => trivial)⟩, ⟨by repeat (first | (with_reducible first | exact HB.out | apply below_alloc | apply pw_below_drewN | apply below_drew1) | exact HB.out)⟩⟩
                                    · rw [if_neg c80] at H
                                      exact absurd H (by simp)
                                  · rw [if_neg c79] at H
                                    have c79b0 : ((t394.length : Int) == (wrap64 (t391 + 1))) = false := beq_eq_false_iff_ne.mpr c79
                                    have c79b1 : ((t394.length : Int) != (wrap64 (t391 + 1))) = true := bne_iff_ne.mpr c79
                                    (first | rw [c79b0] | (simp only [i64_w, i32_w]; rw [c79b0]) | skip)
                                    exact (laws_FnWordsSay.j7_no HR_.out _ _ _ H).elim
                                case rest =>
                                  clear HC78
                                  try clear c1
                                  try clear c2
                                  try clear p2
                                  try clear c3
                                  try clear p3
                                  try clear q3
                                  try clear hx3
                                  try clear c4
                                  try clear p4
                                  try clear q4
                                  try clear hx4
                                  try clear qi4
                                  try clear c5
                                  try clear c6
                                  try clear p6
                                  try clear c7
                                  try clear c8
                                  try clear c13
                                  try clear c13b0
                                  try clear c13b1
                                  try clear c13b2
                                  try clear c15
                                  try clear c17
                                  try clear c19
                                  try clear c24
                                  try clear c26
                                  try clear c28
                                  try clear c29
                                  try clear c29b0
                                  try clear c30
                                  try clear c30b0
                                  try clear c31
                                  try clear c31b0
                                  try clear c31b1
                                  try clear c36
                                  try clear c37
                                  try clear p37
                                  try clear q37
                                  try clear hx37
                                  try clear c38
                                  try clear c39
                                  try clear c40
                                  try clear c40b0
                                  try clear c40b1
                                  try clear c40b2
                                  try clear c41
                                  try clear p41
                                  try clear q41
                                  try clear hx41
                                  try clear qi41
                                  try clear c42
                                  try clear c43
                                  try clear c44
                                  try clear c45
                                  try clear c46
                                  try clear c48
                                  try clear c50
                                  try clear p64
                                  try clear c66
                                  try clear c66b0
                                  try clear c66b1
                                  try clear c66b2
                                  try clear c68
                                  try clear c69
                                  try clear c69b0
                                  try clear c69b1
                                  try clear c69b2
                                  try clear c71
                                  try clear c76
                                  try clear c77
                                  try clear c79
                                  try clear c79b0
                                  try clear c79b1
                                  try clear c80
                                  try clear c80b0
                                  try clear c80b1
                                  try clear hx372_0
                                  try clear hx412_0
                                  try clear p2
                                  try clear p3
                                  try clear p37
                                  try clear p372
                                  try clear p412
                                  try clear p6
                                  try clear p64
                                  try clear q3
                                  try clear q37
                                  try clear q372
                                  try clear q412
                                  obtain ⟨kq, x198_77, rfl, HA, HJ77, HO_23, HO_27, HB⟩ := hcut
                                  cases kq with
                                  | zero => exact absurd HA.out (by simp [laws_FnWordsSay.j7])
                                  | succ kj77 =>
                                    have H := HA.out
                                    clear HA
                                    simp only [laws_FnWordsSay.j7] at H
                                    by_cases c83 : x198_77 = true
                                    · subst c83
                                      have H1 : (some false) = some r := by rw [if_pos rfl] at H; exact H
                                      clear H
                                      have H := H1
                                      clear H1
                                      exact absurd (Option.some.inj H) (by rw [HR_.out]; decide)
                                    · replace c83 := Bool.eq_false_iff.mpr c83
                                      subst c83
                                      have H1 : (laws_FnWordsSay.l1 kj77 t394 t402 t394 (t394.length : Int) 0) = some r := by rw [if_neg (show ¬ (false = true) by decide)] at H; exact H
                                      clear H
                                      have H := H1
                                      clear H1
                                      have H' := Aside0.mk H
                                      clear H
                                      obtain ⟨Ao84, co84, eo84⟩ := Kd.N_slice HO_23.out
                                      subst eo84
                                      go_wp2
                                      go_loopg [201] kj77 (fun kq v201 w' => ∃ (x201_7 : Int), v201 = .int .i64 x201_7 ∧ Aside0 (laws_FnWordsSay.l1 kq t394 t402 t394 (t394.length : Int) x201_7 = some r) ∧ Aside0 (kq ≤ kj77) ∧ Aside0 (Kd.N (Kd.slice 3 (Kd.int .i64)) 29 w' w.heap.size (fun k_ => some k_ ≠ (v404 : Value).ownBlock) (.slice Ao84 t394.length co84) t394) ∧ Aside0 (Kd.R (Kd.int .i64) 3 w' w.heap.size (fun _ => True) v404 t402) ∧ Aside0 (Kd.N (Kd.slice 3 (Kd.int .i64)) 29 w' w.heap.size (fun k_ => some k_ ≠ (v404 : Value).ownBlock) (.slice Ao84 t394.length co84) t394) ∧ Aside0 (Below w.heap.size w w'))
                                      case atStart => exact ⟨(0), (by first | rfl | (simp; done) | (simp [*]; done)), H', ⟨Nat.le_refl _⟩, ⟨by (with_reducible repeat (first | apply Kd.N_alloc | apply Kd.N_drewN | apply Kd.N_drew)); exact HO_23.out⟩, ⟨by (with_reducible repeat (first | apply Kd.R_alloc | apply Kd.R_drewN | apply Kd.R_drew)); exact HO_27.out⟩, ⟨by (with_reducible repeat (first | apply Kd.N_alloc | apply Kd.N_drewN | apply Kd.N_drew)); exact HO_23.out⟩, ⟨by repeat (first | (with_reducible first | exact HB.out | apply below_alloc | apply pw_below_drewN | apply below_drew1) | exact HB.out)⟩⟩
                                      case round =>
                                        clear H'
                                        try clear c1
                                        try clear c2
                                        try clear p2
                                        try clear c3
                                        try clear p3
                                        try clear q3
                                        try clear hx3
                                        try clear c4
                                        try clear p4
                                        try clear q4
                                        try clear hx4
                                        try clear qi4
                                        try clear c5
                                        try clear c6
                                        try clear p6
                                        try clear c7
                                        try clear c8
                                        try clear c13
                                        try clear c13b0
                                        try clear c13b1
                                        try clear c13b2
                                        try clear c15
                                        try clear c17
                                        try clear c19
                                        try clear c24
                                        try clear c26
                                        try clear c28
                                        try clear c29
                                        try clear c29b0
                                        try clear c30
                                        try clear c30b0
                                        try clear c31
                                        try clear c31b0
                                        try clear c31b1
                                        try clear c36
                                        try clear c37
                                        try clear p37
                                        try clear q37
                                        try clear hx37
                                        try clear c38
                                        try clear c39
                                        try clear c40
                                        try clear c40b0
                                        try clear c40b1
                                        try clear c40b2
                                        try clear c41
                                        try clear p41
                                        try clear q41
                                        try clear hx41
                                        try clear qi41
                                        try clear c42
                                        try clear c43
                                        try clear c44
                                        try clear c45
                                        try clear c46
                                        try clear c48
                                        try clear c50
                                        try clear p64
                                        try clear c66
                                        try clear c66b0
                                        try clear c66b1
                                        try clear c66b2
                                        try clear c68
                                        try clear c69
                                        try clear c69b0
                                        try clear c69b1
                                        try clear c69b2
                                        try clear c71
                                        try clear c76
                                        try clear c77
                                        try clear c79
                                        try clear c79b0
                                        try clear c79b1
                                        try clear c80
                                        try clear c80b0
                                        try clear c80b1
                                        try clear c83
                                        try clear hx372_0
                                        try clear hx412_0
                                        try clear p2
                                        try clear p3
                                        try clear p37
                                        try clear p372
                                        try clear p4
                                        try clear p41
                                        try clear p412
                                        try clear p6
                                        try clear p64
                                        try clear q3
                                        try clear q37
                                        try clear q372
                                        try clear q4
                                        try clear q41
                                        try clear q412
                                        obtain ⟨x201_7, rfl, HA, HK7, HO_23, HO_27, HO_199, HB⟩ := hrel
                                        cases gk with
                                        | zero => exact absurd HA.out (by simp [laws_FnWordsSay.l1])
                                        | succ k7 =>
                                          have H := HA.out
                                          clear HA
                                          simp only [laws_FnWordsSay.l1] at H
                                          by_cases c85 : x201_7 < (t394.length : Int)
                                          · rw [if_pos c85] at H
                                            have c85b0 : decide (x201_7 < (t394.length : Int)) = true := decide_eq_true c85
                                            clear c85
                                            by_cases c86 : 0 ≤ x201_7
                                            · rw [if_pos c86] at H
                                              have c86b0 : decide (0 ≤ x201_7) = true := decide_eq_true c86
                                              clear c86
                                              by_cases c87 : x201_7 < (t394.length : Int)
                                              · rw [if_pos c87] at H
                                                have c87b0 : decide (x201_7 < (t394.length : Int)) = true := decide_eq_true c87
                                                clear c87
                                                by_cases c88 : x201_7 < (t402.length : Int)
                                                · rw [if_pos c88] at H
                                                  have c88b0 : decide (x201_7 < (t402.length : Int)) = true := decide_eq_true c88
                                                  clear c88
                                                  by_cases c89 : (rd t402 x201_7) = ((rd_L2 t394 x201_7).length : Int)
                                                  · rw [if_pos c89] at H
                                                    have c89b0 : ((rd t402 x201_7) == ((rd_L2 t394 x201_7).length : Int)) = true := beq_iff_eq.mpr c89
                                                    have c89b1 : ((rd t402 x201_7) != ((rd_L2 t394 x201_7).length : Int)) = false := bne_eq_false_iff_eq.mpr c89
                                                    clear c89
                                                    by_cases c90 : x201_7 > 0
                                                    · rw [if_pos c90] at H
                                                      have c90b0 : decide (0 < x201_7) = true := decide_eq_true c90
                                                      clear c90
                                                      obtain ⟨ji91, hji91⟩ : ∃ j_ : Int, (wrap64 (x201_7 - 1)) = j_ := ⟨_, rfl⟩
                                                      replace H : (if 0 ≤ (ji91) then (if (ji91) < (t394.length : Int) then ((impl_SayWord.f k7 (rd_L2 t394 (ji91))).bind fun bt417 => (if bt417.2 = true then ((laws_qSame.f k7 bt417.1 (rd_L2 t394 x201_7)).bind fun t421 => (if t421 = true then (laws_FnWordsSay.l1 k7 t394 t402 t394 (t394.length : Int) (wrap64 (x201_7 + 1))) else (some false))) else (some false))) else (none)) else (none)) = some r := by first | (rw [hji91] at H; exact H) | (simp only [hji91] at H ⊢; exact H)
                                                      have hji91w : (IntKind.i64.wrap (x201_7 - 1)) = ji91 := (i64_w _).trans hji91
                                                      by_cases c92 : 0 ≤ (ji91)
                                                      · rw [if_pos c92] at H
                                                        have c92b0 : decide (0 ≤ (ji91)) = true := decide_eq_true c92
                                                        clear c92
                                                        by_cases c93 : (ji91) < (t394.length : Int)
                                                        · rw [if_pos c93] at H
                                                          have c93b0 : decide ((ji91) < (t394.length : Int)) = true := decide_eq_true c93
                                                          clear c93
                                                          replace H := Option.bind_eq_some_iff.mp H
                                                          obtain ⟨⟨t417, t418⟩, A940, H⟩ := H
                                                          replace H : (if t418 = true then ((laws_qSame.f k7 t417 (rd_L2 t394 x201_7)).bind fun t421 => (if t421 = true then (laws_FnWordsSay.l1 k7 t394 t402 t394 (t394.length : Int) (wrap64 (x201_7 + 1))) else (some false))) else (some false)) = some r := H
                                                          have A94 := Aside0.mk A940
                                                          clear A940
                                                          by_cases c95 : t418 = true
                                                          · subst c95
                                                            have H1 : ((laws_qSame.f k7 t417 (rd_L2 t394 x201_7)).bind fun t421 => (if t421 = true then (laws_FnWordsSay.l1 k7 t394 t402 t394 (t394.length : Int) (wrap64 (x201_7 + 1))) else (some false))) = some r := by rw [if_pos rfl] at H; exact H
                                                            clear H
                                                            have H := H1
                                                            clear H1
                                                            replace H := Option.bind_eq_some_iff.mp H
                                                            obtain ⟨t421, A960, H⟩ := H
                                                            replace H : (if t421 = true then (laws_FnWordsSay.l1 k7 t394 t402 t394 (t394.length : Int) (wrap64 (x201_7 + 1))) else (some false)) = some r := H
                                                            have A96 := Aside0.mk A960
                                                            clear A960
                                                            by_cases c97 : t421 = true
                                                            · subst c97
                                                              have H1 : (laws_FnWordsSay.l1 k7 t394 t402 t394 (t394.length : Int) (wrap64 (x201_7 + 1))) = some r := by rw [if_pos rfl] at H; exact H
                                                              clear H
                                                              have H := H1
                                                              clear H1
                                                              as_aux_lemma =>
                                                                have H' := Aside0.mk H
                                                                clear H
                                                                have p414 : 0 ≤ (x201_7 : Int) := of_decide_eq_true (by first | (with_reducible assumption) | assumption)
                                                                have q414 : x201_7 < (t394.length : Int) := of_decide_eq_true (by first | (with_reducible assumption) | assumption)
                                                                obtain ⟨ad414, A414_0, c414_0, e414, hx414_0, hl414_0, hi414_0⟩ := at_L2 (Kd.N_reads' HO_199.out).2.2 x201_7 p414 q414
                                                                cases e414
                                                                obtain ⟨ce414, hce414, hMe414, hcc414⟩ := Kd.N_get HO_199.out [] x201_7 p414 (by first | exact q414 | exact of_decide_eq_true (by first | (with_reducible assumption) | assumption) | (have e_ := (Kd.N_reads' HO_199.out).1; omega))
                                                                obtain ⟨ua414_0, uc414_0, rfl, ul414_0, ge414_0⟩ := Kd.FK_slice_open hMe414
                                                                have hv414_0 := hcc414 0 _ rfl
                                                                rw [Nat.add_zero, show ((Kd.slice 3 (Kd.int .i64))).sz = 1 from rfl, Nat.mul_one] at hv414_0
                                                                replace hv414_0 := Option.some.inj (hv414_0.symm.trans hx414_0)
                                                                injection hv414_0 with hva_ hvn_ hvc_
                                                                rw [hva_] at ge414_0
                                                                rw [hvc_] at ul414_0
                                                                have HL414_0 := Aside0.mk (show Kd.V (Kd.int .i64) 3 _ w.heap.size _ _ (rd_L2 t394 x201_7) from Kd.V_mk ul414_0 ge414_0)
                                                                clear hva_ hvn_ hvc_ ge414_0 ul414_0
                                                                clear hcc414 hce414
                                                                have HR414_0 := Aside0.mk hi414_0
                                                                have HC414_0 := Aside0.mk hl414_0
                                                                clear hi414_0 hl414_0
                                                                replace p414 := eq_true p414
                                                                replace q414 := eq_true q414
                                                                obtain ⟨Ao98, co98, eo98⟩ := Kd.R_slice HO_27.out
                                                                subst eo98
                                                                have p415 : 0 ≤ (x201_7 : Int) := of_decide_eq_true (by first | (with_reducible assumption) | assumption)
                                                                have q415 : x201_7 < (t402.length : Int) := of_decide_eq_true (by first | (with_reducible assumption) | assumption)
                                                                obtain ⟨ad415, e415, hx415_0⟩ := Kd.at_int (Kd.R_reads' HO_27.out).2.2 x201_7 p415 q415
                                                                cases e415
                                                                replace p415 := eq_true p415
                                                                replace q415 := eq_true q415
                                                                have p416 : 0 ≤ ((ji91) : Int) := of_decide_eq_true (by first | (with_reducible assumption) | assumption)
                                                                have q416 : (ji91) < (t394.length : Int) := of_decide_eq_true (by first | (with_reducible assumption) | assumption)
                                                                obtain ⟨ad416, A416_0, c416_0, e416, hx416_0, hl416_0, hi416_0⟩ := at_L2 (Kd.N_reads' HO_23.out).2.2 (ji91) p416 q416
                                                                obtain rfl : ad414 = ad416 := (by injection e416)
                                                                obtain ⟨ce416, hce416, hMe416, hcc416⟩ := Kd.N_get HO_23.out [] (ji91) p416 (by first | exact q416 | exact of_decide_eq_true (by first | (with_reducible assumption) | assumption) | (have e_ := (Kd.N_reads' HO_23.out).1; omega))
                                                                obtain ⟨ua416_0, uc416_0, rfl, ul416_0, ge416_0⟩ := Kd.FK_slice_open hMe416
                                                                have hv416_0 := hcc416 0 _ rfl
                                                                rw [Nat.add_zero, show ((Kd.slice 3 (Kd.int .i64))).sz = 1 from rfl, Nat.mul_one] at hv416_0
                                                                replace hv416_0 := Option.some.inj (hv416_0.symm.trans hx416_0)
                                                                injection hv416_0 with hva_ hvn_ hvc_
                                                                rw [hva_] at ge416_0
                                                                rw [hvc_] at ul416_0
                                                                have HL416_0 := Aside0.mk (show Kd.V (Kd.int .i64) 3 _ w.heap.size _ _ (rd_L2 t394 (ji91)) from Kd.V_mk ul416_0 ge416_0)
                                                                clear hva_ hvn_ hvc_ ge416_0 ul416_0
                                                                clear hcc416 hce416
                                                                have HR416_0 := Aside0.mk hi416_0
                                                                have HC416_0 := Aside0.mk hl416_0
                                                                clear hi416_0 hl416_0
                                                                replace p416 := eq_true p416
                                                                replace q416 := eq_true q416
                                                                go_wp2_with (first | ((with_reducible refine gate_callee (f := 37) rfl ?_); refine goesL_ (some 221) rfl rfl Try.func37 (by kernel_rfl) rfl #[.slice A416_0 (rd_L2 t394 (ji91)).length c416_0] rfl (by (try simp only [List.map_toArray, List.map_cons, List.map_nil]); first | done | (simp only [hji91]; rfl) | rfl | (simp only [List.length_drop, List.length_take]; rfl)) ?_; (with_reducible refine (impl_SayWord.calls k7 _ _ (rd_L2 t394 (ji91)) t417 true _ ?side1 ?side2 A94.out).mono ?_); (case side1 => repeat (first | exact (by repeat (first | (with_reducible exact HR416_0.out) | (with_reducible refine Kd.C_alloc ?_ _) | (with_reducible refine Kd.C_drewN ?_ _) | (with_reducible refine Kd.C_drew ?_) | exact HR416_0.out)) | (with_reducible refine Kd.C_alloc ?_ _) | (with_reducible refine Kd.C_drewN ?_ _) | (with_reducible refine Kd.C_drew ?_))); (case side2 => exact HC416_0.out); rintro e w99 ⟨v419, rfl, ho0, hb⟩; refine ⟨_, rfl, ?_⟩; have n0_ := Aside0.mk (Kd.N_elder' (by (with_reducible repeat (first | apply Kd.N_alloc | apply Kd.N_drewN | apply Kd.N_drew)); exact HO_23.out) (Kd.R_base ho0) hb); have n1_ := Aside0.mk (Kd.R_elder' (by (with_reducible repeat (first | apply Kd.R_alloc | apply Kd.R_drewN | apply Kd.R_drew)); exact HO_27.out) (Kd.R_base ho0) hb); have n2_ := Aside0.mk (Kd.N_elder' (by (with_reducible repeat (first | apply Kd.N_alloc | apply Kd.N_drewN | apply Kd.N_drew)); exact HO_199.out) (Kd.R_base ho0) hb); have n3_ := Aside0.mk (Kd.V_elder' (by (with_reducible repeat (first | apply Kd.V_alloc | apply Kd.V_drewN | apply Kd.V_drew)); exact HL414_0.out) (Kd.R_base ho0) hb); have n4_ := Aside0.mk (Kd.V_elder' (by (with_reducible repeat (first | apply Kd.V_alloc | apply Kd.V_drewN | apply Kd.V_drew)); exact HL416_0.out) (Kd.R_base ho0) hb); have n5_ := Aside0.mk (Kd.R_lower (Kd.R_new' ho0 (Kd.R_lt (by (with_reducible repeat (first | apply Kd.R_alloc | apply Kd.R_drewN | apply Kd.R_drew)); exact HO_27.out))) (below_size (by repeat (first | (with_reducible first | exact HB.out | apply below_alloc | apply pw_below_drewN | apply below_drew1) | exact HB.out)))); have n6_ := Aside0.mk (Kd.C_below (by repeat (first | (with_reducible exact HR414_0.out) | (with_reducible refine Kd.C_alloc ?_ _) | (with_reducible refine Kd.C_drewN ?_ _) | (with_reducible refine Kd.C_drew ?_) | exact HR414_0.out)) hb); have n7_ := Aside0.mk (Kd.C_below (by repeat (first | (with_reducible exact HR416_0.out) | (with_reducible refine Kd.C_alloc ?_ _) | (with_reducible refine Kd.C_drewN ?_ _) | (with_reducible refine Kd.C_drew ?_) | exact HR416_0.out)) hb); have n8_ := Aside0.mk (below_step (by repeat (first | (with_reducible first | exact HB.out | apply below_alloc | apply pw_below_drewN | apply below_drew1) | exact HB.out)) hb); clear HO_23; clear HO_27; clear HO_199; clear HL414_0; clear HL416_0; clear HR414_0; clear HR416_0; clear HB; have HO_23 := n0_; have HO_27 := n1_; have HO_199 := n2_; have HL414_0 := n3_; have HL416_0 := n4_; have HO420 := n5_; have HR414_0 := n6_; have HR416_0 := n7_; have HB := n8_; clear n0_ n1_ n2_ n3_ n4_ n5_ n6_ n7_ n8_; (try clear hb); (try clear hb2); (try clear hk); (try clear hi); (try clear ho0); obtain ⟨Ao100, co100, eo100⟩ := Kd.R_slice HO420.out; subst eo100) | (go_at_call 34; (with_reducible refine (laws_qSame.calls k7 _ _ t417 _ _ (rd_L2 t394 x201_7) true _ ?side1 ?side2 ?side3 ?side4 A96.out).mono ?_); (case side1 => repeat (first | exact (Kd.R_reads' HO420.out).2.2 | (with_reducible refine Kd.C_alloc ?_ _) | (with_reducible refine Kd.C_drewN ?_ _) | (with_reducible refine Kd.C_drew ?_))); (case side2 => exact (Kd.R_reads' HO420.out).2.1); (case side3 => repeat (first | exact (by repeat (first | (with_reducible exact HR414_0.out) | (with_reducible refine Kd.C_alloc ?_ _) | (with_reducible refine Kd.C_drewN ?_ _) | (with_reducible refine Kd.C_drew ?_) | exact HR414_0.out)) | (with_reducible refine Kd.C_alloc ?_ _) | (with_reducible refine Kd.C_drewN ?_ _) | (with_reducible refine Kd.C_drew ?_))); (case side4 => exact HC414_0.out); rintro e w' ⟨rfl, ⟨nd, rfl⟩⟩))
                                                                go_roundg k7
                                                                case measure => have := HJ7.out; have := HJ17.out; have := HJ34.out; have := HJ44.out; have := HJ58.out; have := HJ77.out; have := HK7.out; omega
                                                                case rel => exact ⟨(wrap64 (x201_7 + 1)), (by first | rfl | (simp; done) | (simp [*]; done)), H', ⟨by have := HJ7.out; have := HJ17.out; have := HJ34.out; have := HJ44.out; have := HJ58.out; have := HJ77.out; have := HK7.out; omega⟩, ⟨by (with_reducible repeat (first | apply Kd.N_alloc | apply Kd.N_drewN | apply Kd.N_drew)); exact Kd.N_mono HO_23.out (fun _ hk => hk.1)⟩, ⟨by (with_reducible repeat (first | apply Kd.R_alloc | apply Kd.R_drewN | apply Kd.R_drew)); exact Kd.R_mono HO_27.out (fun _ hk => trivial)⟩, ⟨by (with_reducible repeat (first | apply Kd.N_alloc | apply Kd.N_drewN | apply Kd.N_drew)); exact Kd.N_mono HO_199.out (fun _ hk => hk.1)⟩, ⟨by repeat (first | (with_reducible first | exact HB.out | apply below_alloc | apply pw_below_drewN | apply below_drew1) | exact HB.out)⟩⟩
                                                            · replace c97 := Bool.eq_false_iff.mpr c97
                                                              subst c97
                                                              have H1 : (some false) = some r := by rw [if_neg (show ¬ (false = true) by decide)] at H; exact H
                                                              clear H
                                                              have H := H1
                                                              clear H1
                                                              exact absurd (Option.some.inj H) (by rw [HR_.out]; decide)
                                                          · replace c95 := Bool.eq_false_iff.mpr c95
                                                            subst c95
                                                            have H1 : (some false) = some r := by rw [if_neg (show ¬ (false = true) by decide)] at H; exact H
                                                            clear H
                                                            have H := H1
                                                            clear H1
                                                            exact absurd (Option.some.inj H) (by rw [HR_.out]; decide)
                                                        · rw [if_neg c93] at H
                                                          exact absurd H (by simp)
                                                      · rw [if_neg c92] at H
                                                        exact absurd H (by simp)
                                                    · rw [if_neg c90] at H
                                                      have c90b0 : decide (0 < x201_7) = false := decide_eq_false c90
                                                      clear c90
                                                      as_aux_lemma =>
                                                        have H' := Aside0.mk H
                                                        clear H
                                                        have p414 : 0 ≤ (x201_7 : Int) := of_decide_eq_true (by first | (with_reducible assumption) | assumption)
                                                        have q414 : x201_7 < (t394.length : Int) := of_decide_eq_true (by first | (with_reducible assumption) | assumption)
                                                        obtain ⟨ad414, A414_0, c414_0, e414, hx414_0, hl414_0, hi414_0⟩ := at_L2 (Kd.N_reads' HO_199.out).2.2 x201_7 p414 q414
                                                        cases e414
                                                        obtain ⟨ce414, hce414, hMe414, hcc414⟩ := Kd.N_get HO_199.out [] x201_7 p414 (by first | exact q414 | exact of_decide_eq_true (by first | (with_reducible assumption) | assumption) | (have e_ := (Kd.N_reads' HO_199.out).1; omega))
                                                        obtain ⟨ua414_0, uc414_0, rfl, ul414_0, ge414_0⟩ := Kd.FK_slice_open hMe414
                                                        have hv414_0 := hcc414 0 _ rfl
                                                        rw [Nat.add_zero, show ((Kd.slice 3 (Kd.int .i64))).sz = 1 from rfl, Nat.mul_one] at hv414_0
                                                        replace hv414_0 := Option.some.inj (hv414_0.symm.trans hx414_0)
                                                        injection hv414_0 with hva_ hvn_ hvc_
                                                        rw [hva_] at ge414_0
                                                        rw [hvc_] at ul414_0
                                                        have HL414_0 := Aside0.mk (show Kd.V (Kd.int .i64) 3 _ w.heap.size _ _ (rd_L2 t394 x201_7) from Kd.V_mk ul414_0 ge414_0)
                                                        clear hva_ hvn_ hvc_ ge414_0 ul414_0
                                                        clear hcc414 hce414
                                                        have HR414_0 := Aside0.mk hi414_0
                                                        have HC414_0 := Aside0.mk hl414_0
                                                        clear hi414_0 hl414_0
                                                        replace p414 := eq_true p414
                                                        replace q414 := eq_true q414
                                                        obtain ⟨Ao101, co101, eo101⟩ := Kd.R_slice HO_27.out
                                                        subst eo101
                                                        have p415 : 0 ≤ (x201_7 : Int) := of_decide_eq_true (by first | (with_reducible assumption) | assumption)
                                                        have q415 : x201_7 < (t402.length : Int) := of_decide_eq_true (by first | (with_reducible assumption) | assumption)
                                                        obtain ⟨ad415, e415, hx415_0⟩ := Kd.at_int (Kd.R_reads' HO_27.out).2.2 x201_7 p415 q415
                                                        cases e415
                                                        replace p415 := eq_true p415
                                                        replace q415 := eq_true q415
                                                        go_wp2
                                                        go_roundg k7
                                                        case measure => have := HJ7.out; have := HJ17.out; have := HJ34.out; have := HJ44.out; have := HJ58.out; have := HJ77.out; have := HK7.out; omega
                                                        case rel => exact ⟨(wrap64 (x201_7 + 1)), (by first | rfl | (simp; done) | (simp [*]; done)), H', ⟨by have := HJ7.out; have := HJ17.out; have := HJ34.out; have := HJ44.out; have := HJ58.out; have := HJ77.out; have := HK7.out; omega⟩, ⟨by (with_reducible repeat (first | apply Kd.N_alloc | apply Kd.N_drewN | apply Kd.N_drew)); exact HO_23.out⟩, ⟨by (with_reducible repeat (first | apply Kd.R_alloc | apply Kd.R_drewN | apply Kd.R_drew)); exact HO_27.out⟩, ⟨by (with_reducible repeat (first | apply Kd.N_alloc | apply Kd.N_drewN | apply Kd.N_drew)); exact HO_199.out⟩, ⟨by repeat (first | (with_reducible first | exact HB.out | apply below_alloc | apply pw_below_drewN | apply below_drew1) | exact HB.out)⟩⟩
                                                  · rw [if_neg c89] at H
                                                    have c89b0 : ((rd t402 x201_7) == ((rd_L2 t394 x201_7).length : Int)) = false := beq_eq_false_iff_ne.mpr c89
                                                    have c89b1 : ((rd t402 x201_7) != ((rd_L2 t394 x201_7).length : Int)) = true := bne_iff_ne.mpr c89
                                                    exact absurd (Option.some.inj H) (by rw [HR_.out]; decide)
                                                · rw [if_neg c88] at H
                                                  exact absurd H (by simp)
                                              · rw [if_neg c87] at H
                                                exact absurd H (by simp)
                                            · rw [if_neg c86] at H
                                              exact absurd H (by simp)
                                          · rw [if_neg c85] at H
                                            have c85b0 : decide (x201_7 < (t394.length : Int)) = false := decide_eq_false c85
                                            clear c85
                                            as_aux_lemma =>
                                              obtain rfl := Option.some.inj H
                                              go_wp2
                                              go_ret
                                              exact ⟨by first | rfl | (simp [errW_none, errW_some] <;> rfl) | (simp [*, errW_none, errW_some] <;> rfl), by repeat (first | (with_reducible first | exact HB.out | apply below_alloc | apply pw_below_drewN | apply below_drew1) | exact HB.out)⟩
                              · replace c77 := Bool.eq_false_iff.mpr c77
                                subst c77
                                have H1 : (some true) = some r := by rw [if_neg (show ¬ (false = true) by decide)] at H; exact H
                                clear H
                                have H := H1
                                clear H1
                                as_aux_lemma =>
                                  obtain rfl := Option.some.inj H
                                  go_wp2
                                  go_ret
                                  exact ⟨by first | rfl | (simp [errW_none, errW_some] <;> rfl) | (simp [*, errW_none, errW_some] <;> rfl), by repeat (first | (with_reducible first | exact HB.out | apply below_alloc | apply pw_below_drewN | apply below_drew1) | exact HB.out)⟩

/-- THE ONE PURE STATEMENT of laws_FnWordsSay: yours. -/
def laws_FnWordsSay.Pure : Prop := ∀ (l0 : List Int) (l1 : List Int), l0.length ≤ maxLen → l0.length * 1 ≤ 140737488351232 → (∀ x ∈ l0, (Lit.int .u8 x).wf = true) → l1.length ≤ maxLen → l1.length * 1 ≤ 140737488351232 → (∀ x ∈ l1, (Lit.int .u8 x).wf = true) → ∃ k, laws_FnWordsSay.f k l0 l1 = some true
theorem laws_FnWordsSay.walk (P : laws_FnWordsSay.Pure) (a0 : Option Addr) (len0 cap0 : Nat) (z0 : List Int) (a1 : Option Addr) (len1 cap1 : Nat) (z1 : List Int) (w : World) (w0 : (a0 = none ∧ len0 = 0 ∧ cap0 = 0 ∧ z0 = []) ∨ ∃ x, a0 = some x ∧ len0 ≤ cap0 ∧ cap0 ≤ maxLen ∧ z0.length = cap0 ∧ (∀ i, i < z0.length → w.cell? (x.add i) = some (.int .u8 (z0.getD i 0))) ∧ ∀ n ∈ z0, (Lit.int .u8 n).wf = true) (y0 : len0 * 1 ≤ 140737488351232) (w1 : (a1 = none ∧ len1 = 0 ∧ cap1 = 0 ∧ z1 = []) ∨ ∃ x, a1 = some x ∧ len1 ≤ cap1 ∧ cap1 ≤ maxLen ∧ z1.length = cap1 ∧ (∀ i, i < z1.length → w.cell? (x.add i) = some (.int .u8 (z1.getD i 0))) ∧ ∀ n ∈ z1, (Lit.int .u8 n).wf = true) (y1 : len1 * 1 ≤ 140737488351232) :
    Calls Try.prog 4 #[.slice a0 len0 cap0, .slice a1 len1 cap1] w fun e w' => e = .returned (.bool true) ∧ Below w.heap.size w w' := by
  obtain ⟨l0, rfl, hr0, hm0, hw0, hc0⟩ := ReadsInt.ofRowC w0
  obtain ⟨l1, rfl, hr1, hm1, hw1, hc1⟩ := ReadsInt.ofRowC w1
  obtain ⟨k, h⟩ := P l0 l1 hm0 y0 hw0 hm1 y1 hw1
  refine (laws_FnWordsSay.calls k _ _ l0 _ _ l1 true w (Kd.C_of_reads (d := (0 : Int)) (h1 := fun _ => rfl) hr0) hc0 (Kd.C_of_reads (d := (0 : Int)) (h1 := fun _ => rfl) hr1) hc1 h rfl).mono ?_
  rintro e w' ⟨rfl, hd⟩
  exact ⟨rfl, hd⟩

end Go.Proofs.Ytiheocddlopfcaa.PFnWordsSay
