-- out of the kit's print, turned by wip/own_print.py
import Derived.Test.YtikkpehjleoplaaPFnPalindromesx0
import Derived.Test.YtikkpehjleoplaaPFnPalindromesx1
import Derived.Test.YtikkpehjleoplaaPFnPalindromesx3
import Derived.Test.YtikkpehjleoplaaPFnPalindromesx4
import Derived.Test.YtikkpehjleoplaaPFnPalindromesx5
namespace Go.Proofs.Ytikkpehjleoplaa.PFnPalindromes
open Go.RowKit Go.Proofs.YtikkpehjleoplaaW.PrintWords Go.Proofs.YtikkpehjleoplaaW.PrintLast Go.Proofs.YtikkpehjleoplaaW.PrintMore
attribute [local go_sem] max2_int min2_int max_two min_two max_three min_three max_four min_four   -- for this text's walks alone
set_option linter.unusedVariables false
set_option linter.unusedSimpArgs false

/-! ### laws_FnPalindromes: function 13 -/
mutual
def laws_FnPalindromes.j0 : Nat → List Int → Int → Int → Int → Bool → Bool → Option (Bool)
  | 0, _, _, _, _, _, _ => none
  | k + 1, x1, x5, x6, x7, x8, x90 => if x90 = true then (some false) else (if x8 = true then ((impl_IsPalindrome.f k x7 x6).bind fun bt370 => (if x7 ≤ x5 then (laws_FnPalindromes.j1 k x1 x5 x6 x7 true) else (if bt370.2 = true then (laws_FnPalindromes.j1 k x1 x5 x6 x7 (!bt370.1)) else (laws_FnPalindromes.j1 k x1 x5 x6 x7 true)))) else (laws_FnPalindromes.j4 k x1))
def laws_FnPalindromes.j4 : Nat → List Int → Option (Bool)
  | 0, _ => none
  | k + 1, x1 => (spec_DrawReverseNumber.f k x1).bind fun bt374 => ((impl_ReverseNumber.f k bt374.1 bt374.2).bind fun bt376 => ((spec_ReverseNumber.f k bt374.1 bt374.2).bind fun bt378 => (if (bt376.2 != bt378.2) = true then (laws_FnPalindromes.j5 k bt374.1 bt374.2 bt376.1 bt376.2 true) else (laws_FnPalindromes.j5 k bt374.1 bt374.2 bt376.1 bt376.2 (bt376.1 != bt378.1)))))
def laws_FnPalindromes.j5 : Nat → Int → Int → Int → Bool → Bool → Option (Bool)
  | 0, _, _, _, _, _ => none
  | k + 1, x20, x21, x22, x23, x157 => if x157 = true then (some false) else (if x23 = true then (if x21 = 0 then (none) else (laws_FnPalindromes.j6 k x20 x21 x22 ((Int.tmod x20 x21) != 0))) else (laws_FnPalindromes.j6 k x20 x21 x22 false))
def laws_FnPalindromes.j6 : Nat → Int → Int → Int → Bool → Option (Bool)
  | 0, _, _, _, _ => none
  | k + 1, x20, x21, x22, x164 => if x164 = true then ((impl_ReverseNumber.f k x22 x21).bind fun bt380 => ((impl_DigitSum.f k x22 x21).bind fun bt382 => ((impl_DigitSum.f k x20 x21).bind fun bt384 => ((impl_IsPalindrome.f k x20 x21).bind fun bt386 => (if bt380.2 = true then (if bt380.1 = x20 then (if bt382.2 = true then (if bt384.2 = true then (if bt382.1 = bt384.1 then (if bt386.2 = true then (some (bt386.1 == (x22 == x20))) else (some false)) else (some false)) else (some false)) else (some false)) else (some false)) else (some false)))))) else (some true)
def laws_FnPalindromes.j1 : Nat → List Int → Int → Int → Int → Bool → Option (Bool)
  | 0, _, _, _, _, _ => none
  | k + 1, x1, x5, x6, x7, x108 => if x108 = true then (some false) else (laws_FnPalindromes.l0 k x1 x5 x6 x7 (wrap64 (x5 + 1)))
def laws_FnPalindromes.l0 : Nat → List Int → Int → Int → Int → Int → Option (Bool)
  | 0, _, _, _, _, _ => none
  | k + 1, x1, x5, x6, x7, x17 => if x17 < x7 then (laws_FnPalindromes.j3 k x1 x5 x6 x7 x17 (decide (x17 < (wrap64 (x5 + 40))))) else (laws_FnPalindromes.j3 k x1 x5 x6 x7 x17 false)
def laws_FnPalindromes.j3 : Nat → List Int → Int → Int → Int → Int → Bool → Option (Bool)
  | 0, _, _, _, _, _, _ => none
  | k + 1, x1, x5, x6, x7, x17, x119 => if x119 = true then ((impl_IsPalindrome.f k x17 x6).bind fun bt372 => (if bt372.2 = true then (if bt372.1 = true then (some false) else (laws_FnPalindromes.l0 k x1 x5 x6 x7 (wrap64 (x17 + 1)))) else (some false))) else (laws_FnPalindromes.j4 k x1)
end
def laws_FnPalindromes.f (k : Nat) (l0 : List Int) (l1 : List Int) : Option (Bool) := (laws_big.f l0 l1).bind fun t359 => (if t359 = true then (some true) else ((spec_DrawNextPalindrome.f k l0).bind fun bt360 => ((impl_NextPalindrome.f k bt360.1 bt360.2).bind fun bt362 => ((spec_NextPalindrome.f k bt360.1 bt360.2).bind fun bt364 => ((impl_IsPalindrome.f k bt360.1 bt360.2).bind fun bt366 => ((spec_IsPalindrome.f k bt360.1 bt360.2).bind fun bt368 => (if (bt362.2 != bt364.2) = true then (laws_FnPalindromes.j0 k l1 bt360.1 bt360.2 bt362.1 bt362.2 true) else (if bt362.1 = bt364.1 then (if (bt366.2 != bt368.2) = true then (laws_FnPalindromes.j0 k l1 bt360.1 bt360.2 bt362.1 bt362.2 true) else (if (bt366.1 != bt368.1) = true then (laws_FnPalindromes.j0 k l1 bt360.1 bt360.2 bt362.1 bt362.2 true) else (if bt362.2 = true then (laws_FnPalindromes.j0 k l1 bt360.1 bt360.2 bt362.1 bt362.2 (!bt366.2)) else (laws_FnPalindromes.j0 k l1 bt360.1 bt360.2 bt362.1 bt362.2 false)))) else (laws_FnPalindromes.j0 k l1 bt360.1 bt360.2 bt362.1 bt362.2 true)))))))))
theorem laws_FnPalindromes.mono_l : ∀ k, (∀ y0 y1 y2 y3 y4 y5, LeO (laws_FnPalindromes.j0 k y0 y1 y2 y3 y4 y5) (laws_FnPalindromes.j0 (k + 1) y0 y1 y2 y3 y4 y5)) ∧ (∀ y0, LeO (laws_FnPalindromes.j4 k y0) (laws_FnPalindromes.j4 (k + 1) y0)) ∧ (∀ y0 y1 y2 y3 y4, LeO (laws_FnPalindromes.j5 k y0 y1 y2 y3 y4) (laws_FnPalindromes.j5 (k + 1) y0 y1 y2 y3 y4)) ∧ (∀ y0 y1 y2 y3, LeO (laws_FnPalindromes.j6 k y0 y1 y2 y3) (laws_FnPalindromes.j6 (k + 1) y0 y1 y2 y3)) ∧ (∀ y0 y1 y2 y3 y4, LeO (laws_FnPalindromes.j1 k y0 y1 y2 y3 y4) (laws_FnPalindromes.j1 (k + 1) y0 y1 y2 y3 y4)) ∧ (∀ y0 y1 y2 y3 y4, LeO (laws_FnPalindromes.l0 k y0 y1 y2 y3 y4) (laws_FnPalindromes.l0 (k + 1) y0 y1 y2 y3 y4)) ∧ (∀ y0 y1 y2 y3 y4 y5, LeO (laws_FnPalindromes.j3 k y0 y1 y2 y3 y4 y5) (laws_FnPalindromes.j3 (k + 1) y0 y1 y2 y3 y4 y5))
  | 0 => ⟨fun _ _ _ _ _ _ r h => by simp [laws_FnPalindromes.j0] at h, fun _ r h => by simp [laws_FnPalindromes.j4] at h, fun _ _ _ _ _ r h => by simp [laws_FnPalindromes.j5] at h, fun _ _ _ _ r h => by simp [laws_FnPalindromes.j6] at h, fun _ _ _ _ _ r h => by simp [laws_FnPalindromes.j1] at h, fun _ _ _ _ _ r h => by simp [laws_FnPalindromes.l0] at h, fun _ _ _ _ _ _ r h => by simp [laws_FnPalindromes.j3] at h⟩
  | k + 1 => by
    obtain ⟨ih0, ih1, ih2, ih3, ih4, ih5, ih6⟩ := laws_FnPalindromes.mono_l k
    refine ⟨?_, ?_, ?_, ?_, ?_, ?_, ?_⟩
    · intro y0 y1 y2 y3 y4 y5
      unfold laws_FnPalindromes.j0
      repeat' first
      | (with_reducible exact ih0 _ _ _ _ _ _)
      | (with_reducible exact ih1 _)
      | (with_reducible exact ih2 _ _ _ _ _)
      | (with_reducible exact ih3 _ _ _ _)
      | (with_reducible exact ih4 _ _ _ _ _)
      | (with_reducible exact ih5 _ _ _ _ _)
      | (with_reducible exact ih6 _ _ _ _ _ _)
      | (with_reducible exact impl_DigitSum.mono _ _ _)
      | (with_reducible exact impl_IsPalindrome.mono _ _ _)
      | (with_reducible exact impl_NextPalindrome.mono _ _ _)
      | (with_reducible exact impl_ReverseNumber.mono _ _ _)
      | (with_reducible exact spec_DrawNextPalindrome.mono _ _)
      | (with_reducible exact spec_DrawReverseNumber.mono _ _)
      | (with_reducible exact spec_IsPalindrome.mono _ _ _)
      | (with_reducible exact spec_NextPalindrome.mono _ _ _)
      | (with_reducible exact spec_ReverseNumber.mono _ _ _)
      | (with_reducible exact LeO.refl _)
      | (with_reducible exact LeO.none _)
      | (with_reducible refine LeO.ite ?_ ?_)
      | (with_reducible refine LeO.bind ?_ (fun _ => ?_))
      | exact ih0 _ _ _ _ _ _
      | exact ih1 _
      | exact ih2 _ _ _ _ _
      | exact ih3 _ _ _ _
      | exact ih4 _ _ _ _ _
      | exact ih5 _ _ _ _ _
      | exact ih6 _ _ _ _ _ _
      | exact impl_DigitSum.mono _ _ _
      | exact impl_IsPalindrome.mono _ _ _
      | exact impl_NextPalindrome.mono _ _ _
      | exact impl_ReverseNumber.mono _ _ _
      | exact spec_DrawNextPalindrome.mono _ _
      | exact spec_DrawReverseNumber.mono _ _
      | exact spec_IsPalindrome.mono _ _ _
      | exact spec_NextPalindrome.mono _ _ _
      | exact spec_ReverseNumber.mono _ _ _
      | exact LeO.none _
      | refine LeO.ite ?_ ?_
      | refine LeO.bind ?_ (fun _ => ?_)
    · intro y0
      unfold laws_FnPalindromes.j4
      repeat' first
      | (with_reducible exact ih0 _ _ _ _ _ _)
      | (with_reducible exact ih1 _)
      | (with_reducible exact ih2 _ _ _ _ _)
      | (with_reducible exact ih3 _ _ _ _)
      | (with_reducible exact ih4 _ _ _ _ _)
      | (with_reducible exact ih5 _ _ _ _ _)
      | (with_reducible exact ih6 _ _ _ _ _ _)
      | (with_reducible exact impl_DigitSum.mono _ _ _)
      | (with_reducible exact impl_IsPalindrome.mono _ _ _)
      | (with_reducible exact impl_NextPalindrome.mono _ _ _)
      | (with_reducible exact impl_ReverseNumber.mono _ _ _)
      | (with_reducible exact spec_DrawNextPalindrome.mono _ _)
      | (with_reducible exact spec_DrawReverseNumber.mono _ _)
      | (with_reducible exact spec_IsPalindrome.mono _ _ _)
      | (with_reducible exact spec_NextPalindrome.mono _ _ _)
      | (with_reducible exact spec_ReverseNumber.mono _ _ _)
      | (with_reducible exact LeO.refl _)
      | (with_reducible exact LeO.none _)
      | (with_reducible refine LeO.ite ?_ ?_)
      | (with_reducible refine LeO.bind ?_ (fun _ => ?_))
      | exact ih0 _ _ _ _ _ _
      | exact ih1 _
      | exact ih2 _ _ _ _ _
      | exact ih3 _ _ _ _
      | exact ih4 _ _ _ _ _
      | exact ih5 _ _ _ _ _
      | exact ih6 _ _ _ _ _ _
      | exact impl_DigitSum.mono _ _ _
      | exact impl_IsPalindrome.mono _ _ _
      | exact impl_NextPalindrome.mono _ _ _
      | exact impl_ReverseNumber.mono _ _ _
      | exact spec_DrawNextPalindrome.mono _ _
      | exact spec_DrawReverseNumber.mono _ _
      | exact spec_IsPalindrome.mono _ _ _
      | exact spec_NextPalindrome.mono _ _ _
      | exact spec_ReverseNumber.mono _ _ _
      | exact LeO.none _
      | refine LeO.ite ?_ ?_
      | refine LeO.bind ?_ (fun _ => ?_)
    · intro y0 y1 y2 y3 y4
      unfold laws_FnPalindromes.j5
      repeat' first
      | (with_reducible exact ih0 _ _ _ _ _ _)
      | (with_reducible exact ih1 _)
      | (with_reducible exact ih2 _ _ _ _ _)
      | (with_reducible exact ih3 _ _ _ _)
      | (with_reducible exact ih4 _ _ _ _ _)
      | (with_reducible exact ih5 _ _ _ _ _)
      | (with_reducible exact ih6 _ _ _ _ _ _)
      | (with_reducible exact impl_DigitSum.mono _ _ _)
      | (with_reducible exact impl_IsPalindrome.mono _ _ _)
      | (with_reducible exact impl_NextPalindrome.mono _ _ _)
      | (with_reducible exact impl_ReverseNumber.mono _ _ _)
      | (with_reducible exact spec_DrawNextPalindrome.mono _ _)
      | (with_reducible exact spec_DrawReverseNumber.mono _ _)
      | (with_reducible exact spec_IsPalindrome.mono _ _ _)
      | (with_reducible exact spec_NextPalindrome.mono _ _ _)
      | (with_reducible exact spec_ReverseNumber.mono _ _ _)
      | (with_reducible exact LeO.refl _)
      | (with_reducible exact LeO.none _)
      | (with_reducible refine LeO.ite ?_ ?_)
      | (with_reducible refine LeO.bind ?_ (fun _ => ?_))
      | exact ih0 _ _ _ _ _ _
      | exact ih1 _
      | exact ih2 _ _ _ _ _
      | exact ih3 _ _ _ _
      | exact ih4 _ _ _ _ _
      | exact ih5 _ _ _ _ _
      | exact ih6 _ _ _ _ _ _
      | exact impl_DigitSum.mono _ _ _
      | exact impl_IsPalindrome.mono _ _ _
      | exact impl_NextPalindrome.mono _ _ _
      | exact impl_ReverseNumber.mono _ _ _
      | exact spec_DrawNextPalindrome.mono _ _
      | exact spec_DrawReverseNumber.mono _ _
      | exact spec_IsPalindrome.mono _ _ _
      | exact spec_NextPalindrome.mono _ _ _
      | exact spec_ReverseNumber.mono _ _ _
      | exact LeO.none _
      | refine LeO.ite ?_ ?_
      | refine LeO.bind ?_ (fun _ => ?_)
    · intro y0 y1 y2 y3
      unfold laws_FnPalindromes.j6
      repeat' first
      | (with_reducible exact ih0 _ _ _ _ _ _)
      | (with_reducible exact ih1 _)
      | (with_reducible exact ih2 _ _ _ _ _)
      | (with_reducible exact ih3 _ _ _ _)
      | (with_reducible exact ih4 _ _ _ _ _)
      | (with_reducible exact ih5 _ _ _ _ _)
      | (with_reducible exact ih6 _ _ _ _ _ _)
      | (with_reducible exact impl_DigitSum.mono _ _ _)
      | (with_reducible exact impl_IsPalindrome.mono _ _ _)
      | (with_reducible exact impl_NextPalindrome.mono _ _ _)
      | (with_reducible exact impl_ReverseNumber.mono _ _ _)
      | (with_reducible exact spec_DrawNextPalindrome.mono _ _)
      | (with_reducible exact spec_DrawReverseNumber.mono _ _)
      | (with_reducible exact spec_IsPalindrome.mono _ _ _)
      | (with_reducible exact spec_NextPalindrome.mono _ _ _)
      | (with_reducible exact spec_ReverseNumber.mono _ _ _)
      | (with_reducible exact LeO.refl _)
      | (with_reducible exact LeO.none _)
      | (with_reducible refine LeO.ite ?_ ?_)
      | (with_reducible refine LeO.bind ?_ (fun _ => ?_))
      | exact ih0 _ _ _ _ _ _
      | exact ih1 _
      | exact ih2 _ _ _ _ _
      | exact ih3 _ _ _ _
      | exact ih4 _ _ _ _ _
      | exact ih5 _ _ _ _ _
      | exact ih6 _ _ _ _ _ _
      | exact impl_DigitSum.mono _ _ _
      | exact impl_IsPalindrome.mono _ _ _
      | exact impl_NextPalindrome.mono _ _ _
      | exact impl_ReverseNumber.mono _ _ _
      | exact spec_DrawNextPalindrome.mono _ _
      | exact spec_DrawReverseNumber.mono _ _
      | exact spec_IsPalindrome.mono _ _ _
      | exact spec_NextPalindrome.mono _ _ _
      | exact spec_ReverseNumber.mono _ _ _
      | exact LeO.none _
      | refine LeO.ite ?_ ?_
      | refine LeO.bind ?_ (fun _ => ?_)
    · intro y0 y1 y2 y3 y4
      unfold laws_FnPalindromes.j1
      repeat' first
      | (with_reducible exact ih0 _ _ _ _ _ _)
      | (with_reducible exact ih1 _)
      | (with_reducible exact ih2 _ _ _ _ _)
      | (with_reducible exact ih3 _ _ _ _)
      | (with_reducible exact ih4 _ _ _ _ _)
      | (with_reducible exact ih5 _ _ _ _ _)
      | (with_reducible exact ih6 _ _ _ _ _ _)
      | (with_reducible exact impl_DigitSum.mono _ _ _)
      | (with_reducible exact impl_IsPalindrome.mono _ _ _)
      | (with_reducible exact impl_NextPalindrome.mono _ _ _)
      | (with_reducible exact impl_ReverseNumber.mono _ _ _)
      | (with_reducible exact spec_DrawNextPalindrome.mono _ _)
      | (with_reducible exact spec_DrawReverseNumber.mono _ _)
      | (with_reducible exact spec_IsPalindrome.mono _ _ _)
      | (with_reducible exact spec_NextPalindrome.mono _ _ _)
      | (with_reducible exact spec_ReverseNumber.mono _ _ _)
      | (with_reducible exact LeO.refl _)
      | (with_reducible exact LeO.none _)
      | (with_reducible refine LeO.ite ?_ ?_)
      | (with_reducible refine LeO.bind ?_ (fun _ => ?_))
      | exact ih0 _ _ _ _ _ _
      | exact ih1 _
      | exact ih2 _ _ _ _ _
      | exact ih3 _ _ _ _
      | exact ih4 _ _ _ _ _
      | exact ih5 _ _ _ _ _
      | exact ih6 _ _ _ _ _ _
      | exact impl_DigitSum.mono _ _ _
      | exact impl_IsPalindrome.mono _ _ _
      | exact impl_NextPalindrome.mono _ _ _
      | exact impl_ReverseNumber.mono _ _ _
      | exact spec_DrawNextPalindrome.mono _ _
      | exact spec_DrawReverseNumber.mono _ _
      | exact spec_IsPalindrome.mono _ _ _
      | exact spec_NextPalindrome.mono _ _ _
      | exact spec_ReverseNumber.mono _ _ _
      | exact LeO.none _
      | refine LeO.ite ?_ ?_
      | refine LeO.bind ?_ (fun _ => ?_)
    · intro y0 y1 y2 y3 y4
      unfold laws_FnPalindromes.l0
      repeat' first
      | (with_reducible exact ih0 _ _ _ _ _ _)
      | (with_reducible exact ih1 _)
      | (with_reducible exact ih2 _ _ _ _ _)
      | (with_reducible exact ih3 _ _ _ _)
      | (with_reducible exact ih4 _ _ _ _ _)
      | (with_reducible exact ih5 _ _ _ _ _)
      | (with_reducible exact ih6 _ _ _ _ _ _)
      | (with_reducible exact impl_DigitSum.mono _ _ _)
      | (with_reducible exact impl_IsPalindrome.mono _ _ _)
      | (with_reducible exact impl_NextPalindrome.mono _ _ _)
      | (with_reducible exact impl_ReverseNumber.mono _ _ _)
      | (with_reducible exact spec_DrawNextPalindrome.mono _ _)
      | (with_reducible exact spec_DrawReverseNumber.mono _ _)
      | (with_reducible exact spec_IsPalindrome.mono _ _ _)
      | (with_reducible exact spec_NextPalindrome.mono _ _ _)
      | (with_reducible exact spec_ReverseNumber.mono _ _ _)
      | (with_reducible exact LeO.refl _)
      | (with_reducible exact LeO.none _)
      | (with_reducible refine LeO.ite ?_ ?_)
      | (with_reducible refine LeO.bind ?_ (fun _ => ?_))
      | exact ih0 _ _ _ _ _ _
      | exact ih1 _
      | exact ih2 _ _ _ _ _
      | exact ih3 _ _ _ _
      | exact ih4 _ _ _ _ _
      | exact ih5 _ _ _ _ _
      | exact ih6 _ _ _ _ _ _
      | exact impl_DigitSum.mono _ _ _
      | exact impl_IsPalindrome.mono _ _ _
      | exact impl_NextPalindrome.mono _ _ _
      | exact impl_ReverseNumber.mono _ _ _
      | exact spec_DrawNextPalindrome.mono _ _
      | exact spec_DrawReverseNumber.mono _ _
      | exact spec_IsPalindrome.mono _ _ _
      | exact spec_NextPalindrome.mono _ _ _
      | exact spec_ReverseNumber.mono _ _ _
      | exact LeO.none _
      | refine LeO.ite ?_ ?_
      | refine LeO.bind ?_ (fun _ => ?_)
    · intro y0 y1 y2 y3 y4 y5
      unfold laws_FnPalindromes.j3
      repeat' first
      | (with_reducible exact ih0 _ _ _ _ _ _)
      | (with_reducible exact ih1 _)
      | (with_reducible exact ih2 _ _ _ _ _)
      | (with_reducible exact ih3 _ _ _ _)
      | (with_reducible exact ih4 _ _ _ _ _)
      | (with_reducible exact ih5 _ _ _ _ _)
      | (with_reducible exact ih6 _ _ _ _ _ _)
      | (with_reducible exact impl_DigitSum.mono _ _ _)
      | (with_reducible exact impl_IsPalindrome.mono _ _ _)
      | (with_reducible exact impl_NextPalindrome.mono _ _ _)
      | (with_reducible exact impl_ReverseNumber.mono _ _ _)
      | (with_reducible exact spec_DrawNextPalindrome.mono _ _)
      | (with_reducible exact spec_DrawReverseNumber.mono _ _)
      | (with_reducible exact spec_IsPalindrome.mono _ _ _)
      | (with_reducible exact spec_NextPalindrome.mono _ _ _)
      | (with_reducible exact spec_ReverseNumber.mono _ _ _)
      | (with_reducible exact LeO.refl _)
      | (with_reducible exact LeO.none _)
      | (with_reducible refine LeO.ite ?_ ?_)
      | (with_reducible refine LeO.bind ?_ (fun _ => ?_))
      | exact ih0 _ _ _ _ _ _
      | exact ih1 _
      | exact ih2 _ _ _ _ _
      | exact ih3 _ _ _ _
      | exact ih4 _ _ _ _ _
      | exact ih5 _ _ _ _ _
      | exact ih6 _ _ _ _ _ _
      | exact impl_DigitSum.mono _ _ _
      | exact impl_IsPalindrome.mono _ _ _
      | exact impl_NextPalindrome.mono _ _ _
      | exact impl_ReverseNumber.mono _ _ _
      | exact spec_DrawNextPalindrome.mono _ _
      | exact spec_DrawReverseNumber.mono _ _
      | exact spec_IsPalindrome.mono _ _ _
      | exact spec_NextPalindrome.mono _ _ _
      | exact spec_ReverseNumber.mono _ _ _
      | exact LeO.none _
      | refine LeO.ite ?_ ?_
      | refine LeO.bind ?_ (fun _ => ?_)
theorem laws_FnPalindromes.mono : ∀ a0 a1 k, LeO (laws_FnPalindromes.f k a0 a1) (laws_FnPalindromes.f (k + 1) a0 a1) := by
  intro a0 a1 k
  obtain ⟨ih0, ih1, ih2, ih3, ih4, ih5, ih6⟩ := laws_FnPalindromes.mono_l k
  unfold laws_FnPalindromes.f
  repeat' first
      | (with_reducible exact ih0 _ _ _ _ _ _)
      | (with_reducible exact ih1 _)
      | (with_reducible exact ih2 _ _ _ _ _)
      | (with_reducible exact ih3 _ _ _ _)
      | (with_reducible exact ih4 _ _ _ _ _)
      | (with_reducible exact ih5 _ _ _ _ _)
      | (with_reducible exact ih6 _ _ _ _ _ _)
      | (with_reducible exact impl_DigitSum.mono _ _ _)
      | (with_reducible exact impl_IsPalindrome.mono _ _ _)
      | (with_reducible exact impl_NextPalindrome.mono _ _ _)
      | (with_reducible exact impl_ReverseNumber.mono _ _ _)
      | (with_reducible exact spec_DrawNextPalindrome.mono _ _)
      | (with_reducible exact spec_DrawReverseNumber.mono _ _)
      | (with_reducible exact spec_IsPalindrome.mono _ _ _)
      | (with_reducible exact spec_NextPalindrome.mono _ _ _)
      | (with_reducible exact spec_ReverseNumber.mono _ _ _)
      | (with_reducible exact LeO.refl _)
      | (with_reducible exact LeO.none _)
      | (with_reducible refine LeO.ite ?_ ?_)
      | (with_reducible refine LeO.bind ?_ (fun _ => ?_))
      | exact ih0 _ _ _ _ _ _
      | exact ih1 _
      | exact ih2 _ _ _ _ _
      | exact ih3 _ _ _ _
      | exact ih4 _ _ _ _ _
      | exact ih5 _ _ _ _ _
      | exact ih6 _ _ _ _ _ _
      | exact impl_DigitSum.mono _ _ _
      | exact impl_IsPalindrome.mono _ _ _
      | exact impl_NextPalindrome.mono _ _ _
      | exact impl_ReverseNumber.mono _ _ _
      | exact spec_DrawNextPalindrome.mono _ _
      | exact spec_DrawReverseNumber.mono _ _
      | exact spec_IsPalindrome.mono _ _ _
      | exact spec_NextPalindrome.mono _ _ _
      | exact spec_ReverseNumber.mono _ _ _
      | exact LeO.none _
      | refine LeO.ite ?_ ?_
      | refine LeO.bind ?_ (fun _ => ?_)
theorem laws_FnPalindromes.j0_no {r : Bool} (hr : r = true) (k : Nat) (x1 : List Int) (x5 : Int) (x6 : Int) (x7 : Int) (x8 : Bool) (h : laws_FnPalindromes.j0 k x1 x5 x6 x7 x8 true = some r) : False := by
  subst hr
  cases k with
  | zero => simp [laws_FnPalindromes.j0] at h
  | succ k => simp [laws_FnPalindromes.j0] at h
theorem laws_FnPalindromes.j5_no {r : Bool} (hr : r = true) (k : Nat) (x20 : Int) (x21 : Int) (x22 : Int) (x23 : Bool) (h : laws_FnPalindromes.j5 k x20 x21 x22 x23 true = some r) : False := by
  subst hr
  cases k with
  | zero => simp [laws_FnPalindromes.j5] at h
  | succ k => simp [laws_FnPalindromes.j5] at h
theorem laws_FnPalindromes.j1_no {r : Bool} (hr : r = true) (k : Nat) (x1 : List Int) (x5 : Int) (x6 : Int) (x7 : Int) (h : laws_FnPalindromes.j1 k x1 x5 x6 x7 true = some r) : False := by
  subst hr
  cases k with
  | zero => simp [laws_FnPalindromes.j1] at h
  | succ k => simp [laws_FnPalindromes.j1] at h
set_option maxHeartbeats 8000000 in
set_option maxRecDepth 100000 in
theorem laws_FnPalindromes.calls (k : Nat) (A0 : Option Addr) (c0 : Nat) (l0 : List Int) (A1 : Option Addr) (c1 : Nat) (l1 : List Int) (r : Bool) (w : World) (hr0 : Kd.C (Kd.int .u8) w A0 l0.length l0) (hc0 : l0.length ≤ c0) (hr1 : Kd.C (Kd.int .u8) w A1 l1.length l1) (hc1 : l1.length ≤ c1) (h : laws_FnPalindromes.f k l0 l1 = some r) (hr_ : r = true) :
    Calls Try.prog 13 #[.slice A0 l0.length c0, .slice A1 l1.length c1] w fun e w' => e = .returned (.bool r) ∧ Below w.heap.size w w' := by
  have HR0 := Aside0.mk hr0
  have HC0 := Aside0.mk hc0
  clear hr0 hc0
  have HR1 := Aside0.mk hr1
  have HC1 := Aside0.mk hc1
  clear hr1 hc1
  have HB := Aside0.mk (Below.refl w.heap.size w)
  have H : ((laws_big.f l0 l1).bind fun t359 => (if t359 = true then (some true) else ((spec_DrawNextPalindrome.f k l0).bind fun bt360 => ((impl_NextPalindrome.f k bt360.1 bt360.2).bind fun bt362 => ((spec_NextPalindrome.f k bt360.1 bt360.2).bind fun bt364 => ((impl_IsPalindrome.f k bt360.1 bt360.2).bind fun bt366 => ((spec_IsPalindrome.f k bt360.1 bt360.2).bind fun bt368 => (if (bt362.2 != bt364.2) = true then (laws_FnPalindromes.j0 k l1 bt360.1 bt360.2 bt362.1 bt362.2 true) else (if bt362.1 = bt364.1 then (if (bt366.2 != bt368.2) = true then (laws_FnPalindromes.j0 k l1 bt360.1 bt360.2 bt362.1 bt362.2 true) else (if (bt366.1 != bt368.1) = true then (laws_FnPalindromes.j0 k l1 bt360.1 bt360.2 bt362.1 bt362.2 true) else (if bt362.2 = true then (laws_FnPalindromes.j0 k l1 bt360.1 bt360.2 bt362.1 bt362.2 (!bt366.2)) else (laws_FnPalindromes.j0 k l1 bt360.1 bt360.2 bt362.1 bt362.2 false)))) else (laws_FnPalindromes.j0 k l1 bt360.1 bt360.2 bt362.1 bt362.2 true)))))))))) = some r := h
  clear h
  have HR_ := Aside0.mk hr_
  clear hr_
  replace H := Option.bind_eq_some_iff.mp H
  obtain ⟨t359, A30, H⟩ := H
  replace H : (if t359 = true then (some true) else ((spec_DrawNextPalindrome.f k l0).bind fun bt360 => ((impl_NextPalindrome.f k bt360.1 bt360.2).bind fun bt362 => ((spec_NextPalindrome.f k bt360.1 bt360.2).bind fun bt364 => ((impl_IsPalindrome.f k bt360.1 bt360.2).bind fun bt366 => ((spec_IsPalindrome.f k bt360.1 bt360.2).bind fun bt368 => (if (bt362.2 != bt364.2) = true then (laws_FnPalindromes.j0 k l1 bt360.1 bt360.2 bt362.1 bt362.2 true) else (if bt362.1 = bt364.1 then (if (bt366.2 != bt368.2) = true then (laws_FnPalindromes.j0 k l1 bt360.1 bt360.2 bt362.1 bt362.2 true) else (if (bt366.1 != bt368.1) = true then (laws_FnPalindromes.j0 k l1 bt360.1 bt360.2 bt362.1 bt362.2 true) else (if bt362.2 = true then (laws_FnPalindromes.j0 k l1 bt360.1 bt360.2 bt362.1 bt362.2 (!bt366.2)) else (laws_FnPalindromes.j0 k l1 bt360.1 bt360.2 bt362.1 bt362.2 false)))) else (laws_FnPalindromes.j0 k l1 bt360.1 bt360.2 bt362.1 bt362.2 true))))))))) = some r := H
  have A3 := Aside0.mk A30
  clear A30
  by_cases c4 : t359 = true
  · subst c4
    have H1 : (some true) = some r := by rw [if_pos rfl] at H; exact H
    clear H
    have H := H1
    clear H1
    as_aux_lemma =>
      obtain rfl := Option.some.inj H
      go_enter Try.func13, Try.ntmps13
      go_wp2_with (first | ((with_reducible refine gate_callee (f := 25) rfl ?_); refine goesL_ (some 36) rfl rfl Try.func25 (by kernel_rfl) rfl #[.slice A0 l0.length c0, .slice A1 l1.length c1] rfl (by (try simp only [List.map_toArray, List.map_cons, List.map_nil]); first | done | rfl | (simp only [List.length_drop, List.length_take]; rfl)) ?_; (with_reducible refine (laws_big.calls _ _ l0 _ _ l1 true _ ?side1 ?side2 ?side3 ?side4 A3.out).mono ?_); (case side1 => repeat (first | exact HR0.out | (with_reducible refine Kd.C_alloc ?_ _) | (with_reducible refine Kd.C_drewN ?_ _) | (with_reducible refine Kd.C_drew ?_))); (case side2 => exact HC0.out); (case side3 => repeat (first | exact HR1.out | (with_reducible refine Kd.C_alloc ?_ _) | (with_reducible refine Kd.C_drewN ?_ _) | (with_reducible refine Kd.C_drew ?_))); (case side4 => exact HC1.out); rintro e w' ⟨rfl, ⟨nd, rfl⟩⟩; refine ⟨_, rfl, ?_⟩))
      go_ret
      exact ⟨by first | rfl | (simp [errW_none, errW_some] <;> rfl) | (simp [*, errW_none, errW_some] <;> rfl), by repeat (first | (with_reducible first | exact HB.out | apply below_alloc | apply pw_below_drewN | apply below_drew1) | exact HB.out)⟩
  · replace c4 := Bool.eq_false_iff.mpr c4
    subst c4
    have H1 : ((spec_DrawNextPalindrome.f k l0).bind fun bt360 => ((impl_NextPalindrome.f k bt360.1 bt360.2).bind fun bt362 => ((spec_NextPalindrome.f k bt360.1 bt360.2).bind fun bt364 => ((impl_IsPalindrome.f k bt360.1 bt360.2).bind fun bt366 => ((spec_IsPalindrome.f k bt360.1 bt360.2).bind fun bt368 => (if (bt362.2 != bt364.2) = true then (laws_FnPalindromes.j0 k l1 bt360.1 bt360.2 bt362.1 bt362.2 true) else (if bt362.1 = bt364.1 then (if (bt366.2 != bt368.2) = true then (laws_FnPalindromes.j0 k l1 bt360.1 bt360.2 bt362.1 bt362.2 true) else (if (bt366.1 != bt368.1) = true then (laws_FnPalindromes.j0 k l1 bt360.1 bt360.2 bt362.1 bt362.2 true) else (if bt362.2 = true then (laws_FnPalindromes.j0 k l1 bt360.1 bt360.2 bt362.1 bt362.2 (!bt366.2)) else (laws_FnPalindromes.j0 k l1 bt360.1 bt360.2 bt362.1 bt362.2 false)))) else (laws_FnPalindromes.j0 k l1 bt360.1 bt360.2 bt362.1 bt362.2 true)))))))) = some r := by rw [if_neg (show ¬ (false = true) by decide)] at H; exact H
    clear H
    have H := H1
    clear H1
    replace H := Option.bind_eq_some_iff.mp H
    obtain ⟨⟨t360, t361⟩, A50, H⟩ := H
    replace H : ((impl_NextPalindrome.f k t360 t361).bind fun bt362 => ((spec_NextPalindrome.f k t360 t361).bind fun bt364 => ((impl_IsPalindrome.f k t360 t361).bind fun bt366 => ((spec_IsPalindrome.f k t360 t361).bind fun bt368 => (if (bt362.2 != bt364.2) = true then (laws_FnPalindromes.j0 k l1 t360 t361 bt362.1 bt362.2 true) else (if bt362.1 = bt364.1 then (if (bt366.2 != bt368.2) = true then (laws_FnPalindromes.j0 k l1 t360 t361 bt362.1 bt362.2 true) else (if (bt366.1 != bt368.1) = true then (laws_FnPalindromes.j0 k l1 t360 t361 bt362.1 bt362.2 true) else (if bt362.2 = true then (laws_FnPalindromes.j0 k l1 t360 t361 bt362.1 bt362.2 (!bt366.2)) else (laws_FnPalindromes.j0 k l1 t360 t361 bt362.1 bt362.2 false)))) else (laws_FnPalindromes.j0 k l1 t360 t361 bt362.1 bt362.2 true))))))) = some r := H
    have A5 := Aside0.mk A50
    clear A50
    replace H := Option.bind_eq_some_iff.mp H
    obtain ⟨⟨t362, t363⟩, A60, H⟩ := H
    replace H : ((spec_NextPalindrome.f k t360 t361).bind fun bt364 => ((impl_IsPalindrome.f k t360 t361).bind fun bt366 => ((spec_IsPalindrome.f k t360 t361).bind fun bt368 => (if (t363 != bt364.2) = true then (laws_FnPalindromes.j0 k l1 t360 t361 t362 t363 true) else (if t362 = bt364.1 then (if (bt366.2 != bt368.2) = true then (laws_FnPalindromes.j0 k l1 t360 t361 t362 t363 true) else (if (bt366.1 != bt368.1) = true then (laws_FnPalindromes.j0 k l1 t360 t361 t362 t363 true) else (if t363 = true then (laws_FnPalindromes.j0 k l1 t360 t361 t362 t363 (!bt366.2)) else (laws_FnPalindromes.j0 k l1 t360 t361 t362 t363 false)))) else (laws_FnPalindromes.j0 k l1 t360 t361 t362 t363 true)))))) = some r := H
    have A6 := Aside0.mk A60
    clear A60
    replace H := Option.bind_eq_some_iff.mp H
    obtain ⟨⟨t364, t365⟩, A70, H⟩ := H
    replace H : ((impl_IsPalindrome.f k t360 t361).bind fun bt366 => ((spec_IsPalindrome.f k t360 t361).bind fun bt368 => (if (t363 != t365) = true then (laws_FnPalindromes.j0 k l1 t360 t361 t362 t363 true) else (if t362 = t364 then (if (bt366.2 != bt368.2) = true then (laws_FnPalindromes.j0 k l1 t360 t361 t362 t363 true) else (if (bt366.1 != bt368.1) = true then (laws_FnPalindromes.j0 k l1 t360 t361 t362 t363 true) else (if t363 = true then (laws_FnPalindromes.j0 k l1 t360 t361 t362 t363 (!bt366.2)) else (laws_FnPalindromes.j0 k l1 t360 t361 t362 t363 false)))) else (laws_FnPalindromes.j0 k l1 t360 t361 t362 t363 true))))) = some r := H
    have A7 := Aside0.mk A70
    clear A70
    replace H := Option.bind_eq_some_iff.mp H
    obtain ⟨⟨t366, t367⟩, A80, H⟩ := H
    replace H : ((spec_IsPalindrome.f k t360 t361).bind fun bt368 => (if (t363 != t365) = true then (laws_FnPalindromes.j0 k l1 t360 t361 t362 t363 true) else (if t362 = t364 then (if (t367 != bt368.2) = true then (laws_FnPalindromes.j0 k l1 t360 t361 t362 t363 true) else (if (t366 != bt368.1) = true then (laws_FnPalindromes.j0 k l1 t360 t361 t362 t363 true) else (if t363 = true then (laws_FnPalindromes.j0 k l1 t360 t361 t362 t363 (!t367)) else (laws_FnPalindromes.j0 k l1 t360 t361 t362 t363 false)))) else (laws_FnPalindromes.j0 k l1 t360 t361 t362 t363 true)))) = some r := H
    have A8 := Aside0.mk A80
    clear A80
    replace H := Option.bind_eq_some_iff.mp H
    obtain ⟨⟨t368, t369⟩, A90, H⟩ := H
    replace H : (if (t363 != t365) = true then (laws_FnPalindromes.j0 k l1 t360 t361 t362 t363 true) else (if t362 = t364 then (if (t367 != t369) = true then (laws_FnPalindromes.j0 k l1 t360 t361 t362 t363 true) else (if (t366 != t368) = true then (laws_FnPalindromes.j0 k l1 t360 t361 t362 t363 true) else (if t363 = true then (laws_FnPalindromes.j0 k l1 t360 t361 t362 t363 (!t367)) else (laws_FnPalindromes.j0 k l1 t360 t361 t362 t363 false)))) else (laws_FnPalindromes.j0 k l1 t360 t361 t362 t363 true))) = some r := H
    have A9 := Aside0.mk A90
    clear A90
    have HC10 := Aside0.mk H
    clear H
    go_enter Try.func13, Try.ntmps13
    go_upto_region 8 with (first | ((with_reducible refine gate_callee (f := 25) rfl ?_); refine goesL_ (some 36) rfl rfl Try.func25 (by kernel_rfl) rfl #[.slice A0 l0.length c0, .slice A1 l1.length c1] rfl (by (try simp only [List.map_toArray, List.map_cons, List.map_nil]); first | done | rfl | (simp only [List.length_drop, List.length_take]; rfl)) ?_; (with_reducible refine (laws_big.calls _ _ l0 _ _ l1 false _ ?side1 ?side2 ?side3 ?side4 A3.out).mono ?_); (case side1 => repeat (first | exact HR0.out | (with_reducible refine Kd.C_alloc ?_ _) | (with_reducible refine Kd.C_drewN ?_ _) | (with_reducible refine Kd.C_drew ?_))); (case side2 => exact HC0.out); (case side3 => repeat (first | exact HR1.out | (with_reducible refine Kd.C_alloc ?_ _) | (with_reducible refine Kd.C_drewN ?_ _) | (with_reducible refine Kd.C_drew ?_))); (case side4 => exact HC1.out); rintro e w' ⟨rfl, ⟨nd, rfl⟩⟩; refine ⟨_, rfl, ?_⟩) | ((with_reducible refine gate_callee (f := 110) rfl ?_); refine goesL_ (some 39) rfl rfl Try.func110 (by kernel_rfl) rfl #[.slice A0 l0.length c0] rfl (by (try simp only [List.map_toArray, List.map_cons, List.map_nil]); first | done | rfl | (simp only [List.length_drop, List.length_take]; rfl)) ?_; (with_reducible refine (spec_DrawNextPalindrome.calls k _ _ l0 t360 t361 _ ?side1 ?side2 A5.out).mono ?_); (case side1 => repeat (first | exact HR0.out | (with_reducible refine Kd.C_alloc ?_ _) | (with_reducible refine Kd.C_drewN ?_ _) | (with_reducible refine Kd.C_drew ?_))); (case side2 => exact HC0.out); rintro e w11 ⟨rfl, hb⟩; refine ⟨_, rfl, ?_⟩; have n0_ := Aside0.mk (below_step (by repeat (first | (with_reducible first | exact HB.out | apply below_alloc | apply pw_below_drewN | apply below_drew1) | exact HB.out)) hb); clear HB; have HB := n0_; clear n0_; (try clear hb); (try clear hb2); (try clear hk); (try clear hi)) | ((with_reducible refine gate_callee (f := 111) rfl ?_); refine goesL_ (some 45) rfl rfl Try.func111 (by kernel_rfl) rfl #[.int .i64 t360, .int .i64 t361] rfl (by (try simp only [List.map_toArray, List.map_cons, List.map_nil]); first | done | rfl | (simp only [List.length_drop, List.length_take]; rfl)) ?_; (with_reducible refine (impl_NextPalindrome.calls k t360 t361 t362 t363 _ A6.out).mono ?_); rintro e w12 ⟨rfl, hb⟩; refine ⟨_, rfl, ?_⟩; have n0_ := Aside0.mk (below_step (by repeat (first | (with_reducible first | exact HB.out | apply below_alloc | apply pw_below_drewN | apply below_drew1) | exact HB.out)) hb); clear HB; have HB := n0_; clear n0_; (try clear hb); (try clear hb2); (try clear hk); (try clear hi)) | ((with_reducible refine gate_callee (f := 112) rfl ?_); refine goesL_ (some 51) rfl rfl Try.func112 (by kernel_rfl) rfl #[.int .i64 t360, .int .i64 t361] rfl (by (try simp only [List.map_toArray, List.map_cons, List.map_nil]); first | done | rfl | (simp only [List.length_drop, List.length_take]; rfl)) ?_; (with_reducible refine (spec_NextPalindrome.calls k t360 t361 t364 t365 _ A7.out).mono ?_); rintro e w13 ⟨rfl, hb⟩; refine ⟨_, rfl, ?_⟩; have n0_ := Aside0.mk (below_step (by repeat (first | (with_reducible first | exact HB.out | apply below_alloc | apply pw_below_drewN | apply below_drew1) | exact HB.out)) hb); clear HB; have HB := n0_; clear n0_; (try clear hb); (try clear hb2); (try clear hk); (try clear hi)) | ((with_reducible refine gate_callee (f := 113) rfl ?_); refine goesL_ (some 57) rfl rfl Try.func113 (by kernel_rfl) rfl #[.int .i64 t360, .int .i64 t361] rfl (by (try simp only [List.map_toArray, List.map_cons, List.map_nil]); first | done | rfl | (simp only [List.length_drop, List.length_take]; rfl)) ?_; (with_reducible refine (impl_IsPalindrome.calls k t360 t361 t366 t367 _ A8.out).mono ?_); rintro e w14 ⟨rfl, hb⟩; refine ⟨_, rfl, ?_⟩; have n0_ := Aside0.mk (below_step (by repeat (first | (with_reducible first | exact HB.out | apply below_alloc | apply pw_below_drewN | apply below_drew1) | exact HB.out)) hb); clear HB; have HB := n0_; clear n0_; (try clear hb); (try clear hb2); (try clear hk); (try clear hi)) | ((with_reducible refine gate_callee (f := 114) rfl ?_); refine goesL_ (some 63) rfl rfl Try.func114 (by kernel_rfl) rfl #[.int .i64 t360, .int .i64 t361] rfl (by (try simp only [List.map_toArray, List.map_cons, List.map_nil]); first | done | rfl | (simp only [List.length_drop, List.length_take]; rfl)) ?_; (with_reducible refine (spec_IsPalindrome.calls k t360 t361 t368 t369 _ A9.out).mono ?_); rintro e w15 ⟨rfl, hb⟩; refine ⟨_, rfl, ?_⟩; have n0_ := Aside0.mk (below_step (by repeat (first | (with_reducible first | exact HB.out | apply below_alloc | apply pw_below_drewN | apply below_drew1) | exact HB.out)) hb); clear HB; have HB := n0_; clear n0_; (try clear hb); (try clear hb2); (try clear hk); (try clear hi)))
    (try simp only [Act.put, List.setIfInBounds_toArray, List.set_cons_zero, List.set_cons_succ])
    go_cut [90] (fun v90 wc => ∃ (kq : Nat) (x90_9 : Bool), v90 = .bool x90_9 ∧ Aside0 (laws_FnPalindromes.j0 kq l1 t360 t361 t362 t363 x90_9 = some r) ∧ Aside0 (kq ≤ k) ∧ Aside0 (Below w.heap.size w wc))
    case first =>
      have H := HC10.out
      clear HC10
      by_cases c16 : (t363 != t365) = true
      · rw [if_pos c16] at H
        have c16b0 : (t363 != t365) = true := c16
        (try (have c16b1 : decide (t363 = t365) = false := by simpa using c16))
        (try (have c16b2 : (t363 == t365) = false := by simpa using c16))
        (try (have c16b3 : ¬ (t363 = t365) := by simpa using c16))
        clear c16
        (first | rw [c16b0] | (simp only [i64_w, i32_w]; rw [c16b0]) | skip)
        exact (laws_FnPalindromes.j0_no HR_.out _ _ _ _ _ _ H).elim
      · rw [if_neg c16] at H
        have c16b0 : (t363 != t365) = false := by simpa using c16
        (try (have c16b1 : decide (t363 = t365) = true := by simpa using c16))
        (try (have c16b2 : (t363 == t365) = true := by simpa using c16))
        clear c16
        (first | rw [c16b0] | (simp only [i64_w, i32_w]; rw [c16b0]) | skip)
        by_cases c17 : t362 = t364
        · rw [if_pos c17] at H
          have c17b0 : (t362 == t364) = true := beq_iff_eq.mpr c17
          have c17b1 : (t362 != t364) = false := bne_eq_false_iff_eq.mpr c17
          clear c17
          by_cases c18 : (t367 != t369) = true
          · rw [if_pos c18] at H
            have c18b0 : (t367 != t369) = true := c18
            (try (have c18b1 : decide (t367 = t369) = false := by simpa using c18))
            (try (have c18b2 : (t367 == t369) = false := by simpa using c18))
            (try (have c18b3 : ¬ (t367 = t369) := by simpa using c18))
            clear c18
            exact (laws_FnPalindromes.j0_no HR_.out _ _ _ _ _ _ H).elim
          · rw [if_neg c18] at H
            have c18b0 : (t367 != t369) = false := by simpa using c18
            (try (have c18b1 : decide (t367 = t369) = true := by simpa using c18))
            (try (have c18b2 : (t367 == t369) = true := by simpa using c18))
            clear c18
            by_cases c19 : (t366 != t368) = true
            · rw [if_pos c19] at H
              have c19b0 : (t366 != t368) = true := c19
              (try (have c19b1 : decide (t366 = t368) = false := by simpa using c19))
              (try (have c19b2 : (t366 == t368) = false := by simpa using c19))
              (try (have c19b3 : ¬ (t366 = t368) := by simpa using c19))
              clear c19
              exact (laws_FnPalindromes.j0_no HR_.out _ _ _ _ _ _ H).elim
            · rw [if_neg c19] at H
              have c19b0 : (t366 != t368) = false := by simpa using c19
              (try (have c19b1 : decide (t366 = t368) = true := by simpa using c19))
              (try (have c19b2 : (t366 == t368) = true := by simpa using c19))
              clear c19
              by_cases c20 : t363 = true
              · subst c20
                have H1 : (laws_FnPalindromes.j0 k l1 t360 t361 t362 true (!t367)) = some r := by rw [if_pos rfl] at H; exact H
                clear H
                have H := H1
                clear H1
                as_aux_lemma =>
                  have H' := Aside0.mk H
                  clear H
                  go_wp2
                  go_meet
                  case rel => exact ⟨_, (!t367), (by first | rfl | (simp; done) | (simp [*]; done)), H', ⟨by first | omega | exact Nat.le_refl _⟩, ⟨by repeat (first | (with_reducible first | exact HB.out | apply below_alloc | apply pw_below_drewN | apply below_drew1) | exact HB.out)⟩⟩
              · replace c20 := Bool.eq_false_iff.mpr c20
                subst c20
                have H1 : (laws_FnPalindromes.j0 k l1 t360 t361 t362 false false) = some r := by rw [if_neg (show ¬ (false = true) by decide)] at H; exact H
                clear H
                have H := H1
                clear H1
                as_aux_lemma =>
                  have H' := Aside0.mk H
                  clear H
                  go_wp2
                  go_meet
                  case rel => exact ⟨_, (false), (by first | rfl | (simp; done) | (simp [*]; done)), H', ⟨by first | omega | exact Nat.le_refl _⟩, ⟨by repeat (first | (with_reducible first | exact HB.out | apply below_alloc | apply pw_below_drewN | apply below_drew1) | exact HB.out)⟩⟩
        · rw [if_neg c17] at H
          have c17b0 : (t362 == t364) = false := beq_eq_false_iff_ne.mpr c17
          have c17b1 : (t362 != t364) = true := bne_iff_ne.mpr c17
          exact (laws_FnPalindromes.j0_no HR_.out _ _ _ _ _ _ H).elim
    case rest =>
      clear HC10
      try clear c1
      try clear c2
      try clear p2
      try clear c4
      try clear c11
      try clear c13
      try clear c16
      try clear c16b0
      try clear c16b1
      try clear c16b2
      try clear c17
      try clear c17b0
      try clear c17b1
      try clear c18
      try clear c18b0
      try clear c18b1
      try clear c18b2
      try clear c19
      try clear c19b0
      try clear c19b1
      try clear c19b2
      try clear c20
      obtain ⟨kq, x90_9, rfl, HA, HJ9, HB⟩ := hcut
      cases kq with
      | zero => exact absurd HA.out (by simp [laws_FnPalindromes.j0])
      | succ kj9 =>
        have H := HA.out
        clear HA
        simp only [laws_FnPalindromes.j0] at H
        by_cases c21 : x90_9 = true
        · subst c21
          have H1 : (some false) = some r := by rw [if_pos rfl] at H; exact H
          clear H
          have H := H1
          clear H1
          exact absurd (Option.some.inj H) (by rw [HR_.out]; decide)
        · replace c21 := Bool.eq_false_iff.mpr c21
          subst c21
          have H1 : (if t363 = true then ((impl_IsPalindrome.f kj9 t362 t361).bind fun bt370 => (if t362 ≤ t360 then (laws_FnPalindromes.j1 kj9 l1 t360 t361 t362 true) else (if bt370.2 = true then (laws_FnPalindromes.j1 kj9 l1 t360 t361 t362 (!bt370.1)) else (laws_FnPalindromes.j1 kj9 l1 t360 t361 t362 true)))) else (laws_FnPalindromes.j4 kj9 l1)) = some r := by rw [if_neg (show ¬ (false = true) by decide)] at H; exact H
          clear H
          have H := H1
          clear H1
          have HC22 := Aside0.mk H
          clear H
          go_upto_if 91 with (fail)
          go_cut [] (fun wc => ∃ (kq : Nat), Aside0 (laws_FnPalindromes.j4 kq l1 = some r) ∧ Aside0 (kq ≤ kj9) ∧ Aside0 (Below w.heap.size w wc))
          case first =>
            have H := HC22.out
            clear HC22
            by_cases c23 : t363 = true
            · subst c23
              have H1 : ((impl_IsPalindrome.f kj9 t362 t361).bind fun bt370 => (if t362 ≤ t360 then (laws_FnPalindromes.j1 kj9 l1 t360 t361 t362 true) else (if bt370.2 = true then (laws_FnPalindromes.j1 kj9 l1 t360 t361 t362 (!bt370.1)) else (laws_FnPalindromes.j1 kj9 l1 t360 t361 t362 true)))) = some r := by rw [if_pos rfl] at H; exact H
              clear H
              have H := H1
              clear H1
              replace H := Option.bind_eq_some_iff.mp H
              obtain ⟨⟨t370, t371⟩, A240, H⟩ := H
              replace H : (if t362 ≤ t360 then (laws_FnPalindromes.j1 kj9 l1 t360 t361 t362 true) else (if t371 = true then (laws_FnPalindromes.j1 kj9 l1 t360 t361 t362 (!t370)) else (laws_FnPalindromes.j1 kj9 l1 t360 t361 t362 true))) = some r := H
              have A24 := Aside0.mk A240
              clear A240
              have HC25 := Aside0.mk H
              clear H
              go_upto_region 12 with (first | ((with_reducible refine gate_callee (f := 113) rfl ?_); refine goesL_ (some 95) rfl rfl Try.func113 (by kernel_rfl) rfl #[.int .i64 t362, .int .i64 t361] rfl (by (try simp only [List.map_toArray, List.map_cons, List.map_nil]); first | done | rfl | (simp only [List.length_drop, List.length_take]; rfl)) ?_; (with_reducible refine (impl_IsPalindrome.calls kj9 t362 t361 t370 t371 _ A24.out).mono ?_); rintro e w26 ⟨rfl, hb⟩; refine ⟨_, rfl, ?_⟩; have n0_ := Aside0.mk (below_step (by repeat (first | (with_reducible first | exact HB.out | apply below_alloc | apply pw_below_drewN | apply below_drew1) | exact HB.out)) hb); clear HB; have HB := n0_; clear n0_; (try clear hb); (try clear hb2); (try clear hk); (try clear hi)))
              (try simp only [Act.put, List.setIfInBounds_toArray, List.set_cons_zero, List.set_cons_succ])
              go_cut [108] (fun v108 wc => ∃ (kq : Nat) (x108_24 : Bool), v108 = .bool x108_24 ∧ Aside0 (laws_FnPalindromes.j1 kq l1 t360 t361 t362 x108_24 = some r) ∧ Aside0 (kq ≤ kj9) ∧ Aside0 (Below w.heap.size w wc))
              case first =>
                have H := HC25.out
                clear HC25
                by_cases c27 : t362 ≤ t360
                · rw [if_pos c27] at H
                  have c27b0 : decide (t362 ≤ t360) = true := decide_eq_true c27
                  clear c27
                  (first | rw [c27b0] | (simp only [i64_w, i32_w]; rw [c27b0]) | skip)
                  exact (laws_FnPalindromes.j1_no HR_.out _ _ _ _ _ H).elim
                · rw [if_neg c27] at H
                  have c27b0 : decide (t362 ≤ t360) = false := decide_eq_false c27
                  clear c27
                  (first | rw [c27b0] | (simp only [i64_w, i32_w]; rw [c27b0]) | skip)
                  by_cases c28 : t371 = true
                  · subst c28
                    have H1 : (laws_FnPalindromes.j1 kj9 l1 t360 t361 t362 (!t370)) = some r := by rw [if_pos rfl] at H; exact H
                    clear H
                    have H := H1
                    clear H1
                    as_aux_lemma =>
                      have H' := Aside0.mk H
                      clear H
                      go_wp2
                      go_meet
                      case rel => exact ⟨_, (!t370), (by first | rfl | (simp; done) | (simp [*]; done)), H', ⟨by have := HJ9.out; first | omega | exact Nat.le_refl _⟩, ⟨by repeat (first | (with_reducible first | exact HB.out | apply below_alloc | apply pw_below_drewN | apply below_drew1) | exact HB.out)⟩⟩
                  · replace c28 := Bool.eq_false_iff.mpr c28
                    subst c28
                    have H1 : (laws_FnPalindromes.j1 kj9 l1 t360 t361 t362 true) = some r := by rw [if_neg (show ¬ (false = true) by decide)] at H; exact H
                    clear H
                    have H := H1
                    clear H1
                    exact (laws_FnPalindromes.j1_no HR_.out _ _ _ _ _ H).elim
              case rest =>
                clear HC25
                try clear c1
                try clear c2
                try clear p2
                try clear c4
                try clear c11
                try clear c13
                try clear c16
                try clear c16b0
                try clear c16b1
                try clear c16b2
                try clear c17
                try clear c17b0
                try clear c17b1
                try clear c18
                try clear c18b0
                try clear c18b1
                try clear c18b2
                try clear c19
                try clear c19b0
                try clear c19b1
                try clear c19b2
                try clear c20
                try clear c21
                try clear c23
                try clear c25
                try clear c27
                try clear c27b0
                try clear c28
                try clear p2
                obtain ⟨kq, x108_24, rfl, HA, HJ24, HB⟩ := hcut
                cases kq with
                | zero => exact absurd HA.out (by simp [laws_FnPalindromes.j1])
                | succ kj24 =>
                  have H := HA.out
                  clear HA
                  simp only [laws_FnPalindromes.j1] at H
                  by_cases c29 : x108_24 = true
                  · subst c29
                    have H1 : (some false) = some r := by rw [if_pos rfl] at H; exact H
                    clear H
                    have H := H1
                    clear H1
                    exact absurd (Option.some.inj H) (by rw [HR_.out]; decide)
                  · replace c29 := Bool.eq_false_iff.mpr c29
                    subst c29
                    have H1 : (laws_FnPalindromes.l0 kj24 l1 t360 t361 t362 (wrap64 (t360 + 1))) = some r := by rw [if_neg (show ¬ (false = true) by decide)] at H; exact H
                    clear H
                    have H := H1
                    clear H1
                    have H' := Aside0.mk H
                    clear H
                    go_wp2
                    go_loopg [17] kj24 (fun kq v17 w' => ∃ (x17_3 : Int), v17 = .int .i64 x17_3 ∧ Aside0 (laws_FnPalindromes.l0 kq l1 t360 t361 t362 x17_3 = some r) ∧ Aside0 (kq ≤ kj24) ∧ Aside0 (Below w.heap.size w w'))
                    case atStart => exact ⟨(wrap64 (t360 + 1)), (by first | rfl | (simp; done) | (simp [*]; done)), H', ⟨Nat.le_refl _⟩, ⟨by repeat (first | (with_reducible first | exact HB.out | apply below_alloc | apply pw_below_drewN | apply below_drew1) | exact HB.out)⟩⟩
                    case round =>
                      clear H'
                      try clear c1
                      try clear c2
                      try clear p2
                      try clear c4
                      try clear p6
                      try clear c11
                      try clear c13
                      try clear c16
                      try clear c16b0
                      try clear c16b1
                      try clear c16b2
                      try clear c17
                      try clear c17b0
                      try clear c17b1
                      try clear c18
                      try clear c18b0
                      try clear c18b1
                      try clear c18b2
                      try clear c19
                      try clear c19b0
                      try clear c19b1
                      try clear c19b2
                      try clear c20
                      try clear c21
                      try clear c23
                      try clear c25
                      try clear c27
                      try clear c27b0
                      try clear c28
                      try clear c29
                      try clear p2
                      obtain ⟨x17_3, rfl, HA, HK3, HB⟩ := hrel
                      cases gk with
                      | zero => exact absurd HA.out (by simp [laws_FnPalindromes.l0])
                      | succ k3 =>
                        have H := HA.out
                        clear HA
                        simp only [laws_FnPalindromes.l0] at H
                        have HC30 := Aside0.mk H
                        clear H
                        go_upto_region 15 with (fail)
                        go_cut [119] (fun v119 wc => ∃ (kq : Nat) (x119_29 : Bool), v119 = .bool x119_29 ∧ Aside0 (laws_FnPalindromes.j3 kq l1 t360 t361 t362 x17_3 x119_29 = some r) ∧ Aside0 (kq ≤ k3) ∧ Aside0 (Below w.heap.size w wc))
                        case first =>
                          have H := HC30.out
                          clear HC30
                          by_cases c31 : x17_3 < t362
                          · rw [if_pos c31] at H
                            have c31b0 : decide (x17_3 < t362) = true := decide_eq_true c31
                            clear c31
                            (first | rw [c31b0] | (simp only [i64_w, i32_w]; rw [c31b0]) | skip)
                            as_aux_lemma =>
                              have H' := Aside0.mk H
                              clear H
                              go_wp2
                              go_meet
                              case rel => exact ⟨_, (decide (x17_3 < (wrap64 (t360 + 40)))), (by first | rfl | (simp; done) | (simp [*]; done)), H', ⟨by have := HJ9.out; have := HJ24.out; have := HK3.out; first | omega | exact Nat.le_refl _⟩, ⟨by repeat (first | (with_reducible first | exact HB.out | apply below_alloc | apply pw_below_drewN | apply below_drew1) | exact HB.out)⟩⟩
                          · rw [if_neg c31] at H
                            have c31b0 : decide (x17_3 < t362) = false := decide_eq_false c31
                            clear c31
                            (first | rw [c31b0] | (simp only [i64_w, i32_w]; rw [c31b0]) | skip)
                            as_aux_lemma =>
                              have H' := Aside0.mk H
                              clear H
                              go_wp2
                              go_meet
                              case rel => exact ⟨_, (false), (by first | rfl | (simp; done) | (simp [*]; done)), H', ⟨by have := HJ9.out; have := HJ24.out; have := HK3.out; first | omega | exact Nat.le_refl _⟩, ⟨by repeat (first | (with_reducible first | exact HB.out | apply below_alloc | apply pw_below_drewN | apply below_drew1) | exact HB.out)⟩⟩
                        case rest =>
                          clear HC30
                          try clear c1
                          try clear c2
                          try clear p2
                          try clear c3
                          try clear c4
                          try clear p6
                          try clear c11
                          try clear c13
                          try clear c16
                          try clear c16b0
                          try clear c16b1
                          try clear c16b2
                          try clear c17
                          try clear c17b0
                          try clear c17b1
                          try clear c18
                          try clear c18b0
                          try clear c18b1
                          try clear c18b2
                          try clear c19
                          try clear c19b0
                          try clear c19b1
                          try clear c19b2
                          try clear c20
                          try clear c21
                          try clear c23
                          try clear c25
                          try clear c27
                          try clear c27b0
                          try clear c28
                          try clear c29
                          try clear c31
                          try clear c31b0
                          try clear p2
                          try clear p6
                          obtain ⟨kq, x119_29, rfl, HA, HJ29, HB⟩ := hcut
                          cases kq with
                          | zero => exact absurd HA.out (by simp [laws_FnPalindromes.j3])
                          | succ kj29 =>
                            have H := HA.out
                            clear HA
                            simp only [laws_FnPalindromes.j3] at H
                            by_cases c32 : x119_29 = true
                            · subst c32
                              have H1 : ((impl_IsPalindrome.f kj29 x17_3 t361).bind fun bt372 => (if bt372.2 = true then (if bt372.1 = true then (some false) else (laws_FnPalindromes.l0 kj29 l1 t360 t361 t362 (wrap64 (x17_3 + 1)))) else (some false))) = some r := by rw [if_pos rfl] at H; exact H
                              clear H
                              have H := H1
                              clear H1
                              replace H := Option.bind_eq_some_iff.mp H
                              obtain ⟨⟨t372, t373⟩, A330, H⟩ := H
                              replace H : (if t373 = true then (if t372 = true then (some false) else (laws_FnPalindromes.l0 kj29 l1 t360 t361 t362 (wrap64 (x17_3 + 1)))) else (some false)) = some r := H
                              have A33 := Aside0.mk A330
                              clear A330
                              by_cases c34 : t373 = true
                              · subst c34
                                have H1 : (if t372 = true then (some false) else (laws_FnPalindromes.l0 kj29 l1 t360 t361 t362 (wrap64 (x17_3 + 1)))) = some r := by rw [if_pos rfl] at H; exact H
                                clear H
                                have H := H1
                                clear H1
                                by_cases c35 : t372 = true
                                · subst c35
                                  have H1 : (some false) = some r := by rw [if_pos rfl] at H; exact H
                                  clear H
                                  have H := H1
                                  clear H1
                                  exact absurd (Option.some.inj H) (by rw [HR_.out]; decide)
                                · replace c35 := Bool.eq_false_iff.mpr c35
                                  subst c35
                                  have H1 : (laws_FnPalindromes.l0 kj29 l1 t360 t361 t362 (wrap64 (x17_3 + 1))) = some r := by rw [if_neg (show ¬ (false = true) by decide)] at H; exact H
                                  clear H
                                  have H := H1
                                  clear H1
                                  as_aux_lemma =>
                                    have H' := Aside0.mk H
                                    clear H
                                    go_wp2_with (first | ((with_reducible refine gate_callee (f := 113) rfl ?_); refine goesL_ (some 125) rfl rfl Try.func113 (by kernel_rfl) rfl #[.int .i64 x17_3, .int .i64 t361] rfl (by (try simp only [List.map_toArray, List.map_cons, List.map_nil]); first | done | rfl | (simp only [List.length_drop, List.length_take]; rfl)) ?_; (with_reducible refine (impl_IsPalindrome.calls kj29 x17_3 t361 false true _ A33.out).mono ?_); rintro e w36 ⟨rfl, hb⟩; refine ⟨_, rfl, ?_⟩; have n0_ := Aside0.mk (below_step (by repeat (first | (with_reducible first | exact HB.out | apply below_alloc | apply pw_below_drewN | apply below_drew1) | exact HB.out)) hb); clear HB; have HB := n0_; clear n0_; (try clear hb); (try clear hb2); (try clear hk); (try clear hi)))
                                    go_roundg kj29
                                    case measure => have := HJ9.out; have := HJ24.out; have := HK3.out; have := HJ29.out; omega
                                    case rel => exact ⟨(wrap64 (x17_3 + 1)), (by first | rfl | (simp; done) | (simp [*]; done)), H', ⟨by have := HJ9.out; have := HJ24.out; have := HK3.out; have := HJ29.out; omega⟩, ⟨by repeat (first | (with_reducible first | exact HB.out | apply below_alloc | apply pw_below_drewN | apply below_drew1) | exact HB.out)⟩⟩
                              · replace c34 := Bool.eq_false_iff.mpr c34
                                subst c34
                                have H1 : (some false) = some r := by rw [if_neg (show ¬ (false = true) by decide)] at H; exact H
                                clear H
                                have H := H1
                                clear H1
                                exact absurd (Option.some.inj H) (by rw [HR_.out]; decide)
                            · replace c32 := Bool.eq_false_iff.mpr c32
                              subst c32
                              have H1 : (laws_FnPalindromes.j4 kj29 l1) = some r := by rw [if_neg (show ¬ (false = true) by decide)] at H; exact H
                              clear H
                              have H := H1
                              clear H1
                              as_aux_lemma =>
                                have H' := Aside0.mk H
                                clear H
                                go_wp2
                                go_meet
                                case rel => exact ⟨_, H', ⟨by have := HJ9.out; have := HJ24.out; have := HK3.out; have := HJ29.out; first | omega | exact Nat.le_refl _⟩, ⟨by repeat (first | (with_reducible first | exact HB.out | apply below_alloc | apply pw_below_drewN | apply below_drew1) | exact HB.out)⟩⟩
            · replace c23 := Bool.eq_false_iff.mpr c23
              subst c23
              have H1 : (laws_FnPalindromes.j4 kj9 l1) = some r := by rw [if_neg (show ¬ (false = true) by decide)] at H; exact H
              clear H
              have H := H1
              clear H1
              as_aux_lemma =>
                have H' := Aside0.mk H
                clear H
                go_wp2
                go_meet
                case rel => exact ⟨_, H', ⟨by have := HJ9.out; first | omega | exact Nat.le_refl _⟩, ⟨by repeat (first | (with_reducible first | exact HB.out | apply below_alloc | apply pw_below_drewN | apply below_drew1) | exact HB.out)⟩⟩
          case rest =>
            clear HC22
            try clear c1
            try clear c2
            try clear p2
            try clear c3
            try clear c4
            try clear p6
            try clear c11
            try clear c13
            try clear c16
            try clear c16b0
            try clear c16b1
            try clear c16b2
            try clear c17
            try clear c17b0
            try clear c17b1
            try clear c18
            try clear c18b0
            try clear c18b1
            try clear c18b2
            try clear c19
            try clear c19b0
            try clear c19b1
            try clear c19b2
            try clear c20
            try clear c21
            try clear c23
            try clear c25
            try clear c27
            try clear c27b0
            try clear c28
            try clear c29
            try clear c31
            try clear c31b0
            try clear c32
            try clear c34
            try clear c35
            try clear p2
            try clear p6
            obtain ⟨kq, HA, HJ21, HB⟩ := hcut
            cases kq with
            | zero => exact absurd HA.out (by simp [laws_FnPalindromes.j4])
            | succ kj21 =>
              have H := HA.out
              clear HA
              simp only [laws_FnPalindromes.j4] at H
              replace H := Option.bind_eq_some_iff.mp H
              obtain ⟨⟨t374, t375⟩, A370, H⟩ := H
              replace H : ((impl_ReverseNumber.f kj21 t374 t375).bind fun bt376 => ((spec_ReverseNumber.f kj21 t374 t375).bind fun bt378 => (if (bt376.2 != bt378.2) = true then (laws_FnPalindromes.j5 kj21 t374 t375 bt376.1 bt376.2 true) else (laws_FnPalindromes.j5 kj21 t374 t375 bt376.1 bt376.2 (bt376.1 != bt378.1))))) = some r := H
              have A37 := Aside0.mk A370
              clear A370
              replace H := Option.bind_eq_some_iff.mp H
              obtain ⟨⟨t376, t377⟩, A380, H⟩ := H
              replace H : ((spec_ReverseNumber.f kj21 t374 t375).bind fun bt378 => (if (t377 != bt378.2) = true then (laws_FnPalindromes.j5 kj21 t374 t375 t376 t377 true) else (laws_FnPalindromes.j5 kj21 t374 t375 t376 t377 (t376 != bt378.1)))) = some r := H
              have A38 := Aside0.mk A380
              clear A380
              replace H := Option.bind_eq_some_iff.mp H
              obtain ⟨⟨t378, t379⟩, A390, H⟩ := H
              replace H : (if (t377 != t379) = true then (laws_FnPalindromes.j5 kj21 t374 t375 t376 t377 true) else (laws_FnPalindromes.j5 kj21 t374 t375 t376 t377 (t376 != t378))) = some r := H
              have A39 := Aside0.mk A390
              clear A390
              have HC40 := Aside0.mk H
              clear H
              go_upto_region 23 with (first | ((with_reducible refine gate_callee (f := 115) rfl ?_); refine goesL_ (some 135) rfl rfl Try.func115 (by kernel_rfl) rfl #[.slice A1 l1.length c1] rfl (by (try simp only [List.map_toArray, List.map_cons, List.map_nil]); first | done | rfl | (simp only [List.length_drop, List.length_take]; rfl)) ?_; (with_reducible refine (spec_DrawReverseNumber.calls kj21 _ _ l1 t374 t375 _ ?side1 ?side2 A37.out).mono ?_); (case side1 => repeat (first | exact (Kd.C_below HR1.out HB.out) | (with_reducible refine Kd.C_alloc ?_ _) | (with_reducible refine Kd.C_drewN ?_ _) | (with_reducible refine Kd.C_drew ?_))); (case side2 => exact HC1.out); rintro e w41 ⟨rfl, hb⟩; refine ⟨_, rfl, ?_⟩; have n0_ := Aside0.mk (below_step (by repeat (first | (with_reducible first | exact HB.out | apply below_alloc | apply pw_below_drewN | apply below_drew1) | exact HB.out)) hb); clear HB; have HB := n0_; clear n0_; (try clear hb); (try clear hb2); (try clear hk); (try clear hi)) | ((with_reducible refine gate_callee (f := 116) rfl ?_); refine goesL_ (some 141) rfl rfl Try.func116 (by kernel_rfl) rfl #[.int .i64 t374, .int .i64 t375] rfl (by (try simp only [List.map_toArray, List.map_cons, List.map_nil]); first | done | rfl | (simp only [List.length_drop, List.length_take]; rfl)) ?_; (with_reducible refine (impl_ReverseNumber.calls kj21 t374 t375 t376 t377 _ A38.out).mono ?_); rintro e w42 ⟨rfl, hb⟩; refine ⟨_, rfl, ?_⟩; have n0_ := Aside0.mk (below_step (by repeat (first | (with_reducible first | exact HB.out | apply below_alloc | apply pw_below_drewN | apply below_drew1) | exact HB.out)) hb); clear HB; have HB := n0_; clear n0_; (try clear hb); (try clear hb2); (try clear hk); (try clear hi)) | ((with_reducible refine gate_callee (f := 117) rfl ?_); refine goesL_ (some 147) rfl rfl Try.func117 (by kernel_rfl) rfl #[.int .i64 t374, .int .i64 t375] rfl (by (try simp only [List.map_toArray, List.map_cons, List.map_nil]); first | done | rfl | (simp only [List.length_drop, List.length_take]; rfl)) ?_; (with_reducible refine (spec_ReverseNumber.calls kj21 t374 t375 t378 t379 _ A39.out).mono ?_); rintro e w43 ⟨rfl, hb⟩; refine ⟨_, rfl, ?_⟩; have n0_ := Aside0.mk (below_step (by repeat (first | (with_reducible first | exact HB.out | apply below_alloc | apply pw_below_drewN | apply below_drew1) | exact HB.out)) hb); clear HB; have HB := n0_; clear n0_; (try clear hb); (try clear hb2); (try clear hk); (try clear hi)))
              (try simp only [Act.put, List.setIfInBounds_toArray, List.set_cons_zero, List.set_cons_succ])
              go_cut [157] (fun v157 wc => ∃ (kq : Nat) (x157_39 : Bool), v157 = .bool x157_39 ∧ Aside0 (laws_FnPalindromes.j5 kq t374 t375 t376 t377 x157_39 = some r) ∧ Aside0 (kq ≤ kj21) ∧ Aside0 (Below w.heap.size w wc))
              case first =>
                have H := HC40.out
                clear HC40
                by_cases c44 : (t377 != t379) = true
                · rw [if_pos c44] at H
                  have c44b0 : (t377 != t379) = true := c44
                  (try (have c44b1 : decide (t377 = t379) = false := by simpa using c44))
                  (try (have c44b2 : (t377 == t379) = false := by simpa using c44))
                  (try (have c44b3 : ¬ (t377 = t379) := by simpa using c44))
                  clear c44
                  (first | rw [c44b0] | (simp only [i64_w, i32_w]; rw [c44b0]) | skip)
                  exact (laws_FnPalindromes.j5_no HR_.out _ _ _ _ _ H).elim
                · rw [if_neg c44] at H
                  have c44b0 : (t377 != t379) = false := by simpa using c44
                  (try (have c44b1 : decide (t377 = t379) = true := by simpa using c44))
                  (try (have c44b2 : (t377 == t379) = true := by simpa using c44))
                  clear c44
                  (first | rw [c44b0] | (simp only [i64_w, i32_w]; rw [c44b0]) | skip)
                  as_aux_lemma =>
                    have H' := Aside0.mk H
                    clear H
                    go_wp2
                    go_meet
                    case rel => exact ⟨_, ((t376 != t378)), (by first | rfl | (simp; done) | (simp [*]; done)), H', ⟨by have := HJ9.out; have := HJ21.out; first | omega | exact Nat.le_refl _⟩, ⟨by repeat (first | (with_reducible first | exact HB.out | apply below_alloc | apply pw_below_drewN | apply below_drew1) | exact HB.out)⟩⟩
              case rest =>
                clear HC40
                try clear c1
                try clear c2
                try clear p2
                try clear c3
                try clear c4
                try clear p6
                try clear c11
                try clear c13
                try clear c16
                try clear c16b0
                try clear c16b1
                try clear c16b2
                try clear c17
                try clear c17b0
                try clear c17b1
                try clear c18
                try clear c18b0
                try clear c18b1
                try clear c18b2
                try clear c19
                try clear c19b0
                try clear c19b1
                try clear c19b2
                try clear c20
                try clear c21
                try clear c23
                try clear c25
                try clear c27
                try clear c27b0
                try clear c28
                try clear c29
                try clear c31
                try clear c31b0
                try clear c32
                try clear c34
                try clear c35
                try clear c44
                try clear c44b0
                try clear c44b1
                try clear c44b2
                try clear p2
                try clear p6
                obtain ⟨kq, x157_39, rfl, HA, HJ39, HB⟩ := hcut
                cases kq with
                | zero => exact absurd HA.out (by simp [laws_FnPalindromes.j5])
                | succ kj39 =>
                  have H := HA.out
                  clear HA
                  simp only [laws_FnPalindromes.j5] at H
                  by_cases c45 : x157_39 = true
                  · subst c45
                    have H1 : (some false) = some r := by rw [if_pos rfl] at H; exact H
                    clear H
                    have H := H1
                    clear H1
                    exact absurd (Option.some.inj H) (by rw [HR_.out]; decide)
                  · replace c45 := Bool.eq_false_iff.mpr c45
                    subst c45
                    have H1 : (if t377 = true then (if t375 = 0 then (none) else (laws_FnPalindromes.j6 kj39 t374 t375 t376 ((Int.tmod t374 t375) != 0))) else (laws_FnPalindromes.j6 kj39 t374 t375 t376 false)) = some r := by rw [if_neg (show ¬ (false = true) by decide)] at H; exact H
                    clear H
                    have H := H1
                    clear H1
                    have HC46 := Aside0.mk H
                    clear H
                    go_upto_region 25 with (fail)
                    go_cut [164] (fun v164 wc => ∃ (kq : Nat) (x164_45 : Bool), v164 = .bool x164_45 ∧ Aside0 (laws_FnPalindromes.j6 kq t374 t375 t376 x164_45 = some r) ∧ Aside0 (kq ≤ kj39) ∧ Aside0 (Below w.heap.size w wc))
                    case first =>
                      have H := HC46.out
                      clear HC46
                      by_cases c47 : t377 = true
                      · subst c47
                        have H1 : (if t375 = 0 then (none) else (laws_FnPalindromes.j6 kj39 t374 t375 t376 ((Int.tmod t374 t375) != 0))) = some r := by rw [if_pos rfl] at H; exact H
                        clear H
                        have H := H1
                        clear H1
                        by_cases c48 : t375 = 0
                        · rw [if_pos c48] at H
                          exact absurd H (by simp)
                        · rw [if_neg c48] at H
                          have c48b0 : (t375 == 0) = false := beq_eq_false_iff_ne.mpr c48
                          have c48b1 : (t375 != 0) = true := bne_iff_ne.mpr c48
                          (first | rw [c48b0] | (simp only [i64_w, i32_w]; rw [c48b0]) | skip)
                          as_aux_lemma =>
                            have H' := Aside0.mk H
                            clear H
                            go_wp2
                            go_meet
                            case rel => exact ⟨_, (((Int.tmod t374 t375) != 0)), (by first | rfl | (simp; done) | (simp [*]; done)), H', ⟨by have := HJ9.out; have := HJ21.out; have := HJ39.out; first | omega | exact Nat.le_refl _⟩, ⟨by repeat (first | (with_reducible first | exact HB.out | apply below_alloc | apply pw_below_drewN | apply below_drew1) | exact HB.out)⟩⟩
                      · replace c47 := Bool.eq_false_iff.mpr c47
                        subst c47
                        have H1 : (laws_FnPalindromes.j6 kj39 t374 t375 t376 false) = some r := by rw [if_neg (show ¬ (false = true) by decide)] at H; exact H
                        clear H
                        have H := H1
                        clear H1
                        as_aux_lemma =>
                          have H' := Aside0.mk H
                          clear H
                          go_wp2
                          go_meet
                          case rel => exact ⟨_, (false), (by first | rfl | (simp; done) | (simp [*]; done)), H', ⟨by have := HJ9.out; have := HJ21.out; have := HJ39.out; first | omega | exact Nat.le_refl _⟩, ⟨by repeat (first | (with_reducible first | exact HB.out | apply below_alloc | apply pw_below_drewN | apply below_drew1) | exact HB.out)⟩⟩
                    case rest =>
                      clear HC46
                      try clear c1
                      try clear c2
                      try clear p2
                      try clear c3
                      try clear c4
                      try clear p6
                      try clear c11
                      try clear c13
                      try clear c16
                      try clear c16b0
                      try clear c16b1
                      try clear c16b2
                      try clear c17
                      try clear c17b0
                      try clear c17b1
                      try clear c18
                      try clear c18b0
                      try clear c18b1
                      try clear c18b2
                      try clear c19
                      try clear c19b0
                      try clear c19b1
                      try clear c19b2
                      try clear c20
                      try clear c21
                      try clear c23
                      try clear c25
                      try clear c27
                      try clear c27b0
                      try clear c28
                      try clear c29
                      try clear c31
                      try clear c31b0
                      try clear c32
                      try clear c34
                      try clear c35
                      try clear c44
                      try clear c44b0
                      try clear c44b1
                      try clear c44b2
                      try clear c45
                      try clear c47
                      try clear c48
                      try clear c48b0
                      try clear c48b1
                      try clear p2
                      try clear p6
                      obtain ⟨kq, x164_45, rfl, HA, HJ45, HB⟩ := hcut
                      cases kq with
                      | zero => exact absurd HA.out (by simp [laws_FnPalindromes.j6])
                      | succ kj45 =>
                        have H := HA.out
                        clear HA
                        simp only [laws_FnPalindromes.j6] at H
                        by_cases c49 : x164_45 = true
                        · subst c49
                          have H1 : ((impl_ReverseNumber.f kj45 t376 t375).bind fun bt380 => ((impl_DigitSum.f kj45 t376 t375).bind fun bt382 => ((impl_DigitSum.f kj45 t374 t375).bind fun bt384 => ((impl_IsPalindrome.f kj45 t374 t375).bind fun bt386 => (if bt380.2 = true then (if bt380.1 = t374 then (if bt382.2 = true then (if bt384.2 = true then (if bt382.1 = bt384.1 then (if bt386.2 = true then (some (bt386.1 == (t376 == t374))) else (some false)) else (some false)) else (some false)) else (some false)) else (some false)) else (some false)))))) = some r := by rw [if_pos rfl] at H; exact H
                          clear H
                          have H := H1
                          clear H1
                          replace H := Option.bind_eq_some_iff.mp H
                          obtain ⟨⟨t380, t381⟩, A500, H⟩ := H
                          replace H : ((impl_DigitSum.f kj45 t376 t375).bind fun bt382 => ((impl_DigitSum.f kj45 t374 t375).bind fun bt384 => ((impl_IsPalindrome.f kj45 t374 t375).bind fun bt386 => (if t381 = true then (if t380 = t374 then (if bt382.2 = true then (if bt384.2 = true then (if bt382.1 = bt384.1 then (if bt386.2 = true then (some (bt386.1 == (t376 == t374))) else (some false)) else (some false)) else (some false)) else (some false)) else (some false)) else (some false))))) = some r := H
                          have A50 := Aside0.mk A500
                          clear A500
                          replace H := Option.bind_eq_some_iff.mp H
                          obtain ⟨⟨t382, t383⟩, A510, H⟩ := H
                          replace H : ((impl_DigitSum.f kj45 t374 t375).bind fun bt384 => ((impl_IsPalindrome.f kj45 t374 t375).bind fun bt386 => (if t381 = true then (if t380 = t374 then (if t383 = true then (if bt384.2 = true then (if t382 = bt384.1 then (if bt386.2 = true then (some (bt386.1 == (t376 == t374))) else (some false)) else (some false)) else (some false)) else (some false)) else (some false)) else (some false)))) = some r := H
                          have A51 := Aside0.mk A510
                          clear A510
                          replace H := Option.bind_eq_some_iff.mp H
                          obtain ⟨⟨t384, t385⟩, A520, H⟩ := H
                          replace H : ((impl_IsPalindrome.f kj45 t374 t375).bind fun bt386 => (if t381 = true then (if t380 = t374 then (if t383 = true then (if t385 = true then (if t382 = t384 then (if bt386.2 = true then (some (bt386.1 == (t376 == t374))) else (some false)) else (some false)) else (some false)) else (some false)) else (some false)) else (some false))) = some r := H
                          have A52 := Aside0.mk A520
                          clear A520
                          replace H := Option.bind_eq_some_iff.mp H
                          obtain ⟨⟨t386, t387⟩, A530, H⟩ := H
                          replace H : (if t381 = true then (if t380 = t374 then (if t383 = true then (if t385 = true then (if t382 = t384 then (if t387 = true then (some (t386 == (t376 == t374))) else (some false)) else (some false)) else (some false)) else (some false)) else (some false)) else (some false)) = some r := H
                          have A53 := Aside0.mk A530
                          clear A530
                          by_cases c54 : t381 = true
                          · subst c54
                            have H1 : (if t380 = t374 then (if t383 = true then (if t385 = true then (if t382 = t384 then (if t387 = true then (some (t386 == (t376 == t374))) else (some false)) else (some false)) else (some false)) else (some false)) else (some false)) = some r := by rw [if_pos rfl] at H; exact H
                            clear H
                            have H := H1
                            clear H1
                            by_cases c55 : t380 = t374
                            · rw [if_pos c55] at H
                              have c55b0 : (t380 == t374) = true := beq_iff_eq.mpr c55
                              have c55b1 : (t380 != t374) = false := bne_eq_false_iff_eq.mpr c55
                              clear c55
                              by_cases c56 : t383 = true
                              · subst c56
                                have H1 : (if t385 = true then (if t382 = t384 then (if t387 = true then (some (t386 == (t376 == t374))) else (some false)) else (some false)) else (some false)) = some r := by rw [if_pos rfl] at H; exact H
                                clear H
                                have H := H1
                                clear H1
                                by_cases c57 : t385 = true
                                · subst c57
                                  have H1 : (if t382 = t384 then (if t387 = true then (some (t386 == (t376 == t374))) else (some false)) else (some false)) = some r := by rw [if_pos rfl] at H; exact H
                                  clear H
                                  have H := H1
                                  clear H1
                                  by_cases c58 : t382 = t384
                                  · rw [if_pos c58] at H
                                    have c58b0 : (t382 == t384) = true := beq_iff_eq.mpr c58
                                    have c58b1 : (t382 != t384) = false := bne_eq_false_iff_eq.mpr c58
                                    clear c58
                                    by_cases c59 : t387 = true
                                    · subst c59
                                      have H1 : (some (t386 == (t376 == t374))) = some r := by rw [if_pos rfl] at H; exact H
                                      clear H
                                      have H := H1
                                      clear H1
                                      as_aux_lemma =>
                                        obtain rfl := Option.some.inj H
                                        go_wp2_with (first | ((with_reducible refine gate_callee (f := 116) rfl ?_); refine goesL_ (some 168) rfl rfl Try.func116 (by kernel_rfl) rfl #[.int .i64 t376, .int .i64 t375] rfl (by (try simp only [List.map_toArray, List.map_cons, List.map_nil]); first | done | rfl | (simp only [List.length_drop, List.length_take]; rfl)) ?_; (with_reducible refine (impl_ReverseNumber.calls kj45 t376 t375 t380 true _ A50.out).mono ?_); rintro e w60 ⟨rfl, hb⟩; refine ⟨_, rfl, ?_⟩; have n0_ := Aside0.mk (below_step (by repeat (first | (with_reducible first | exact HB.out | apply below_alloc | apply pw_below_drewN | apply below_drew1) | exact HB.out)) hb); clear HB; have HB := n0_; clear n0_; (try clear hb); (try clear hb2); (try clear hk); (try clear hi)) | ((with_reducible refine gate_callee (f := 58) rfl ?_); refine goesL_ (some 174) rfl rfl Try.func58 (by kernel_rfl) rfl #[.int .i64 t376, .int .i64 t375] rfl (by (try simp only [List.map_toArray, List.map_cons, List.map_nil]); first | done | rfl | (simp only [List.length_drop, List.length_take]; rfl)) ?_; (with_reducible refine (impl_DigitSum.calls kj45 t376 t375 t382 true _ A51.out).mono ?_); rintro e w61 ⟨rfl, hb⟩; refine ⟨_, rfl, ?_⟩; have n0_ := Aside0.mk (below_step (by repeat (first | (with_reducible first | exact HB.out | apply below_alloc | apply pw_below_drewN | apply below_drew1) | exact HB.out)) hb); clear HB; have HB := n0_; clear n0_; (try clear hb); (try clear hb2); (try clear hk); (try clear hi)) | ((with_reducible refine gate_callee (f := 58) rfl ?_); refine goesL_ (some 180) rfl rfl Try.func58 (by kernel_rfl) rfl #[.int .i64 t374, .int .i64 t375] rfl (by (try simp only [List.map_toArray, List.map_cons, List.map_nil]); first | done | rfl | (simp only [List.length_drop, List.length_take]; rfl)) ?_; (with_reducible refine (impl_DigitSum.calls kj45 t374 t375 t384 true _ A52.out).mono ?_); rintro e w62 ⟨rfl, hb⟩; refine ⟨_, rfl, ?_⟩; have n0_ := Aside0.mk (below_step (by repeat (first | (with_reducible first | exact HB.out | apply below_alloc | apply pw_below_drewN | apply below_drew1) | exact HB.out)) hb); clear HB; have HB := n0_; clear n0_; (try clear hb); (try clear hb2); (try clear hk); (try clear hi)) | ((with_reducible refine gate_callee (f := 113) rfl ?_); refine goesL_ (some 186) rfl rfl Try.func113 (by kernel_rfl) rfl #[.int .i64 t374, .int .i64 t375] rfl (by (try simp only [List.map_toArray, List.map_cons, List.map_nil]); first | done | rfl | (simp only [List.length_drop, List.length_take]; rfl)) ?_; (with_reducible refine (impl_IsPalindrome.calls kj45 t374 t375 t386 true _ A53.out).mono ?_); rintro e w63 ⟨rfl, hb⟩; refine ⟨_, rfl, ?_⟩; have n0_ := Aside0.mk (below_step (by repeat (first | (with_reducible first | exact HB.out | apply below_alloc | apply pw_below_drewN | apply below_drew1) | exact HB.out)) hb); clear HB; have HB := n0_; clear n0_; (try clear hb); (try clear hb2); (try clear hk); (try clear hi)))
                                        go_ret
                                        exact ⟨by first | rfl | (simp [errW_none, errW_some] <;> rfl) | (simp [*, errW_none, errW_some] <;> rfl), by repeat (first | (with_reducible first | exact HB.out | apply below_alloc | apply pw_below_drewN | apply below_drew1) | exact HB.out)⟩
                                    · replace c59 := Bool.eq_false_iff.mpr c59
                                      subst c59
                                      have H1 : (some false) = some r := by rw [if_neg (show ¬ (false = true) by decide)] at H; exact H
                                      clear H
                                      have H := H1
                                      clear H1
                                      exact absurd (Option.some.inj H) (by rw [HR_.out]; decide)
                                  · rw [if_neg c58] at H
                                    have c58b0 : (t382 == t384) = false := beq_eq_false_iff_ne.mpr c58
                                    have c58b1 : (t382 != t384) = true := bne_iff_ne.mpr c58
                                    exact absurd (Option.some.inj H) (by rw [HR_.out]; decide)
                                · replace c57 := Bool.eq_false_iff.mpr c57
                                  subst c57
                                  have H1 : (some false) = some r := by rw [if_neg (show ¬ (false = true) by decide)] at H; exact H
                                  clear H
                                  have H := H1
                                  clear H1
                                  exact absurd (Option.some.inj H) (by rw [HR_.out]; decide)
                              · replace c56 := Bool.eq_false_iff.mpr c56
                                subst c56
                                have H1 : (some false) = some r := by rw [if_neg (show ¬ (false = true) by decide)] at H; exact H
                                clear H
                                have H := H1
                                clear H1
                                exact absurd (Option.some.inj H) (by rw [HR_.out]; decide)
                            · rw [if_neg c55] at H
                              have c55b0 : (t380 == t374) = false := beq_eq_false_iff_ne.mpr c55
                              have c55b1 : (t380 != t374) = true := bne_iff_ne.mpr c55
                              exact absurd (Option.some.inj H) (by rw [HR_.out]; decide)
                          · replace c54 := Bool.eq_false_iff.mpr c54
                            subst c54
                            have H1 : (some false) = some r := by rw [if_neg (show ¬ (false = true) by decide)] at H; exact H
                            clear H
                            have H := H1
                            clear H1
                            exact absurd (Option.some.inj H) (by rw [HR_.out]; decide)
                        · replace c49 := Bool.eq_false_iff.mpr c49
                          subst c49
                          have H1 : (some true) = some r := by rw [if_neg (show ¬ (false = true) by decide)] at H; exact H
                          clear H
                          have H := H1
                          clear H1
                          as_aux_lemma =>
                            obtain rfl := Option.some.inj H
                            go_wp2
                            go_ret
                            exact ⟨by first | rfl | (simp [errW_none, errW_some] <;> rfl) | (simp [*, errW_none, errW_some] <;> rfl), by repeat (first | (with_reducible first | exact HB.out | apply below_alloc | apply pw_below_drewN | apply below_drew1) | exact HB.out)⟩

/-- THE ONE PURE STATEMENT of laws_FnPalindromes: yours. -/
def laws_FnPalindromes.Pure : Prop := ∀ (l0 : List Int) (l1 : List Int), l0.length ≤ maxLen → l0.length * 1 ≤ 140737488351232 → (∀ x ∈ l0, (Lit.int .u8 x).wf = true) → l1.length ≤ maxLen → l1.length * 1 ≤ 140737488351232 → (∀ x ∈ l1, (Lit.int .u8 x).wf = true) → ∃ k, laws_FnPalindromes.f k l0 l1 = some true
theorem laws_FnPalindromes.walk (P : laws_FnPalindromes.Pure) (a0 : Option Addr) (len0 cap0 : Nat) (z0 : List Int) (a1 : Option Addr) (len1 cap1 : Nat) (z1 : List Int) (w : World) (w0 : (a0 = none ∧ len0 = 0 ∧ cap0 = 0 ∧ z0 = []) ∨ ∃ x, a0 = some x ∧ len0 ≤ cap0 ∧ cap0 ≤ maxLen ∧ z0.length = cap0 ∧ (∀ i, i < z0.length → w.cell? (x.add i) = some (.int .u8 (z0.getD i 0))) ∧ ∀ n ∈ z0, (Lit.int .u8 n).wf = true) (y0 : len0 * 1 ≤ 140737488351232) (w1 : (a1 = none ∧ len1 = 0 ∧ cap1 = 0 ∧ z1 = []) ∨ ∃ x, a1 = some x ∧ len1 ≤ cap1 ∧ cap1 ≤ maxLen ∧ z1.length = cap1 ∧ (∀ i, i < z1.length → w.cell? (x.add i) = some (.int .u8 (z1.getD i 0))) ∧ ∀ n ∈ z1, (Lit.int .u8 n).wf = true) (y1 : len1 * 1 ≤ 140737488351232) :
    Calls Try.prog 13 #[.slice a0 len0 cap0, .slice a1 len1 cap1] w fun e w' => e = .returned (.bool true) ∧ Below w.heap.size w w' := by
  obtain ⟨l0, rfl, hr0, hm0, hw0, hc0⟩ := ReadsInt.ofRowC w0
  obtain ⟨l1, rfl, hr1, hm1, hw1, hc1⟩ := ReadsInt.ofRowC w1
  obtain ⟨k, h⟩ := P l0 l1 hm0 y0 hw0 hm1 y1 hw1
  refine (laws_FnPalindromes.calls k _ _ l0 _ _ l1 true w (Kd.C_of_reads (d := (0 : Int)) (h1 := fun _ => rfl) hr0) hc0 (Kd.C_of_reads (d := (0 : Int)) (h1 := fun _ => rfl) hr1) hc1 h rfl).mono ?_
  rintro e w' ⟨rfl, hd⟩
  exact ⟨rfl, hd⟩

end Go.Proofs.Ytikkpehjleoplaa.PFnPalindromes
