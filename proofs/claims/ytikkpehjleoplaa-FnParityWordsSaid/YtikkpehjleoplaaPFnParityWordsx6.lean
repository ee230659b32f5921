-- out of the kit's print, turned by wip/own_print.py
import Derived.Test.YtikkpehjleoplaaPFnParityWordsx0
import Derived.Test.YtikkpehjleoplaaPFnParityWordsx1
import Derived.Test.YtikkpehjleoplaaPFnParityWordsx2
import Derived.Test.YtikkpehjleoplaaPFnParityWordsx3
import Derived.Test.YtikkpehjleoplaaPFnParityWordsx4
import Derived.Test.YtikkpehjleoplaaPFnParityWordsx5
namespace Go.Proofs.Ytikkpehjleoplaa.PFnParityWords
open Go.RowKit Go.Proofs.YtikkpehjleoplaaW.PrintWords Go.Proofs.YtikkpehjleoplaaW.PrintLast Go.Proofs.YtikkpehjleoplaaW.PrintMore
attribute [local go_sem] max2_int min2_int max_two min_two max_three min_three max_four min_four   -- for this text's walks alone
set_option linter.unusedVariables false
set_option linter.unusedSimpArgs false

/-! ### laws_FnParityWords: function 11 -/
mutual
def laws_FnParityWords.j0 : Nat → List Int → ByteArray → Int → Bool → Bool → Option (Bool)
  | 0, _, _, _, _, _ => none
  | k + 1, x1, x5, x6, x7, x68 => if x68 = true then (some false) else (if x7 = true then ((impl_ParityWord.f k x6 (x5.size : Int)).bind fun bt287 => ((impl_OddCount.f k x6 (x5.size : Int)).bind fun bt289 => ((impl_AfterShort.f k x6 (x5.size : Int)).bind fun bt291 => ((impl_ParityWord.f k (wrap64 (x6 + (shl .i64 (1 + ((x1.length : Int) % 7)) (x5.size : Int)))) (x5.size : Int)).bind fun bt293 => ((impl_AfterShort.f k (wrap64 (x6 + (shl .i64 (1 + ((x1.length : Int) % 7)) (x5.size : Int)))) (x5.size : Int)).bind fun bt295 => (laws_FnParityWords.l0 k x1 x5 x6 (x5.size : Int) bt287.1 bt287.2 bt289.1 bt289.2 bt291.1 bt291.2 (1 + ((x1.length : Int) % 7)) bt293.1 bt293.2 bt295.1 bt295.2 1 0 0)))))) else (laws_FnParityWords.j2 k x1))
def laws_FnParityWords.j2 : Nat → List Int → Option (Bool)
  | 0, _ => none
  | k + 1, x1 => (spec_DrawParityWord.f k x1).bind fun bt297 => ((impl_ParityWord.f k bt297.1 bt297.2).bind fun bt299 => ((spec_ParityWord.f k bt297.1 bt297.2).bind fun bt301 => ((impl_OddCount.f k bt297.1 bt297.2).bind fun bt303 => ((spec_OddCount.f k bt297.1 bt297.2).bind fun bt305 => ((impl_AfterShort.f k bt297.1 bt297.2).bind fun bt307 => ((spec_AfterShort.f k bt297.1 bt297.2).bind fun bt309 => (if (bt299.2 != bt301.2) = true then (laws_FnParityWords.j3 k bt297.1 bt297.2 bt299.1 bt299.2 bt307.1 bt307.2 true) else (if bt299.1.toList = bt301.1.toList then (if (bt303.2 != bt305.2) = true then (laws_FnParityWords.j3 k bt297.1 bt297.2 bt299.1 bt299.2 bt307.1 bt307.2 true) else (if bt303.1 = bt305.1 then (if (bt307.2 != bt309.2) = true then (laws_FnParityWords.j3 k bt297.1 bt297.2 bt299.1 bt299.2 bt307.1 bt307.2 true) else (if bt307.1 = bt309.1 then (laws_FnParityWords.j3 k bt297.1 bt297.2 bt299.1 bt299.2 bt307.1 bt307.2 (bt303.2 != bt299.2)) else (laws_FnParityWords.j3 k bt297.1 bt297.2 bt299.1 bt299.2 bt307.1 bt307.2 true))) else (laws_FnParityWords.j3 k bt297.1 bt297.2 bt299.1 bt299.2 bt307.1 bt307.2 true))) else (laws_FnParityWords.j3 k bt297.1 bt297.2 bt299.1 bt299.2 bt307.1 bt307.2 true)))))))))
def laws_FnParityWords.j3 : Nat → Int → Int → ByteArray → Bool → Int → Bool → Bool → Option (Bool)
  | 0, _, _, _, _, _, _, _ => none
  | k + 1, x26, x27, x28, x29, x36, x37, x249 => if x249 = true then (some false) else (if x29 = true then ((impl_NumberOfWord.f k x28).bind fun bt311 => (if bt311.2 = true then (if 0 ≤ x27 then (if (shl .i64 1 x27) = 0 then (none) else (laws_FnParityWords.j4 k x26 x27 x28 x36 x37 ((Int.tmod (wrap64 (x26 - bt311.1)) (shl .i64 1 x27)) != 0))) else (none)) else (laws_FnParityWords.j4 k x26 x27 x28 x36 x37 true))) else (some true))
def laws_FnParityWords.j4 : Nat → Int → Int → ByteArray → Int → Bool → Bool → Option (Bool)
  | 0, _, _, _, _, _, _ => none
  | k + 1, x26, x27, x28, x36, x37, x266 => if x266 = true then (some false) else (laws_FnParityWords.l1 k x27 x28 x36 x37 x26 0)
def laws_FnParityWords.l1 : Nat → Int → ByteArray → Int → Bool → Int → Int → Option (Bool)
  | 0, _, _, _, _, _, _ => none
  | k + 1, x27, x28, x36, x37, x42, x43 => if x43 < x27 then (if 0 ≤ x43 then (if x43 < (x28.size : Int) then (if (((bt x28 x43) == 49) != ((Int.tmod x42 2) == 1)) = true then (some false) else ((impl_ShortStep.f x42).bind fun bt313 => (if bt313.2 = true then (laws_FnParityWords.l1 k x27 x28 x36 x37 bt313.1 (wrap64 (x43 + 1))) else (if x43 = (wrap64 (x27 - 1)) then (some (!x37)) else (some false))))) else (none)) else (none)) else (if x37 = true then (some (x42 == x36)) else (some true))
def laws_FnParityWords.l0 : Nat → List Int → ByteArray → Int → Int → ByteArray → Bool → Int → Bool → Int → Bool → Int → ByteArray → Bool → Int → Bool → Int → Int → Int → Option (Bool)
  | 0, _, _, _, _, _, _, _, _, _, _, _, _, _, _, _, _, _, _ => none
  | k + 1, x1, x5, x6, x10, x11, x12, x13, x14, x15, x16, x17, x19, x20, x21, x22, x23, x24, x25 => if x25 < x10 then (if 0 ≤ x25 then (if x25 < (x5.size : Int) then (if (bt x5 x25) = 49 then (laws_FnParityWords.l0 k x1 x5 x6 x10 x11 x12 x13 x14 x15 x16 x17 x19 x20 x21 x22 (wrap64 (x23 * 3)) (wrap64 (x24 + 1)) (wrap64 (x25 + 1))) else (laws_FnParityWords.l0 k x1 x5 x6 x10 x11 x12 x13 x14 x15 x16 x17 x19 x20 x21 x22 x23 x24 (wrap64 (x25 + 1)))) else (none)) else (none)) else (if x6 < 1 then (some false) else (if 0 ≤ x10 then (if x6 > (shl .i64 1 x10) then (some false) else (if x12 = true then (if x11.toList = x5.toList then (if x14 = true then (if x13 = x24 then (if x16 = true then (if x20 = true then (if x19.toList = x5.toList then (if x22 = true then (if x21 = (wrap64 (x15 + (wrap64 (x17 * x23)))) then (laws_FnParityWords.j2 k x1) else (some false)) else (some false)) else (some false)) else (some false)) else (some false)) else (some false)) else (some false)) else (some false)) else (some false))) else (none)))
end
def laws_FnParityWords.f (k : Nat) (l0 : List Int) (l1 : List Int) : Option (Bool) := (laws_big.f l0 l1).bind fun t281 => (if t281 = true then (some true) else ((spec_DrawNumberOfWord.f k l0).bind fun t282 => ((impl_NumberOfWord.f k t282).bind fun bt283 => ((spec_NumberOfWord.f k t282).bind fun bt285 => (if (bt283.2 != bt285.2) = true then (laws_FnParityWords.j0 k l1 t282 bt283.1 bt283.2 true) else (laws_FnParityWords.j0 k l1 t282 bt283.1 bt283.2 (bt283.1 != bt285.1)))))))
theorem laws_FnParityWords.mono_l : ∀ k, (∀ y0 y1 y2 y3 y4, LeO (laws_FnParityWords.j0 k y0 y1 y2 y3 y4) (laws_FnParityWords.j0 (k + 1) y0 y1 y2 y3 y4)) ∧ (∀ y0, LeO (laws_FnParityWords.j2 k y0) (laws_FnParityWords.j2 (k + 1) y0)) ∧ (∀ y0 y1 y2 y3 y4 y5 y6, LeO (laws_FnParityWords.j3 k y0 y1 y2 y3 y4 y5 y6) (laws_FnParityWords.j3 (k + 1) y0 y1 y2 y3 y4 y5 y6)) ∧ (∀ y0 y1 y2 y3 y4 y5, LeO (laws_FnParityWords.j4 k y0 y1 y2 y3 y4 y5) (laws_FnParityWords.j4 (k + 1) y0 y1 y2 y3 y4 y5)) ∧ (∀ y0 y1 y2 y3 y4 y5, LeO (laws_FnParityWords.l1 k y0 y1 y2 y3 y4 y5) (laws_FnParityWords.l1 (k + 1) y0 y1 y2 y3 y4 y5)) ∧ (∀ y0 y1 y2 y3 y4 y5 y6 y7 y8 y9 y10 y11 y12 y13 y14 y15 y16 y17, LeO (laws_FnParityWords.l0 k y0 y1 y2 y3 y4 y5 y6 y7 y8 y9 y10 y11 y12 y13 y14 y15 y16 y17) (laws_FnParityWords.l0 (k + 1) y0 y1 y2 y3 y4 y5 y6 y7 y8 y9 y10 y11 y12 y13 y14 y15 y16 y17))
  | 0 => ⟨fun _ _ _ _ _ r h => by simp [laws_FnParityWords.j0] at h, fun _ r h => by simp [laws_FnParityWords.j2] at h, fun _ _ _ _ _ _ _ r h => by simp [laws_FnParityWords.j3] at h, fun _ _ _ _ _ _ r h => by simp [laws_FnParityWords.j4] at h, fun _ _ _ _ _ _ r h => by simp [laws_FnParityWords.l1] at h, fun _ _ _ _ _ _ _ _ _ _ _ _ _ _ _ _ _ _ r h => by simp [laws_FnParityWords.l0] at h⟩
  | k + 1 => by
    obtain ⟨ih0, ih1, ih2, ih3, ih4, ih5⟩ := laws_FnParityWords.mono_l k
    refine ⟨?_, ?_, ?_, ?_, ?_, ?_⟩
    · intro y0 y1 y2 y3 y4
      unfold laws_FnParityWords.j0
      repeat' first
      | (with_reducible exact ih0 _ _ _ _ _)
      | (with_reducible exact ih1 _)
      | (with_reducible exact ih2 _ _ _ _ _ _ _)
      | (with_reducible exact ih3 _ _ _ _ _ _)
      | (with_reducible exact ih4 _ _ _ _ _ _)
      | (with_reducible exact ih5 _ _ _ _ _ _ _ _ _ _ _ _ _ _ _ _ _ _)
      | (with_reducible exact impl_AfterShort.mono _ _ _)
      | (with_reducible exact impl_NumberOfWord.mono _ _)
      | (with_reducible exact impl_OddCount.mono _ _ _)
      | (with_reducible exact impl_ParityWord.mono _ _ _)
      | (with_reducible exact spec_AfterShort.mono _ _ _)
      | (with_reducible exact spec_DrawNumberOfWord.mono _ _)
      | (with_reducible exact spec_DrawParityWord.mono _ _)
      | (with_reducible exact spec_NumberOfWord.mono _ _)
      | (with_reducible exact spec_OddCount.mono _ _ _)
      | (with_reducible exact spec_ParityWord.mono _ _ _)
      | (with_reducible exact LeO.refl _)
      | (with_reducible exact LeO.none _)
      | (with_reducible refine LeO.ite ?_ ?_)
      | (with_reducible refine LeO.bind ?_ (fun _ => ?_))
      | exact ih0 _ _ _ _ _
      | exact ih1 _
      | exact ih2 _ _ _ _ _ _ _
      | exact ih3 _ _ _ _ _ _
      | exact ih4 _ _ _ _ _ _
      | exact ih5 _ _ _ _ _ _ _ _ _ _ _ _ _ _ _ _ _ _
      | exact impl_AfterShort.mono _ _ _
      | exact impl_NumberOfWord.mono _ _
      | exact impl_OddCount.mono _ _ _
      | exact impl_ParityWord.mono _ _ _
      | exact spec_AfterShort.mono _ _ _
      | exact spec_DrawNumberOfWord.mono _ _
      | exact spec_DrawParityWord.mono _ _
      | exact spec_NumberOfWord.mono _ _
      | exact spec_OddCount.mono _ _ _
      | exact spec_ParityWord.mono _ _ _
      | exact LeO.none _
      | refine LeO.ite ?_ ?_
      | refine LeO.bind ?_ (fun _ => ?_)
    · intro y0
      unfold laws_FnParityWords.j2
      repeat' first
      | (with_reducible exact ih0 _ _ _ _ _)
      | (with_reducible exact ih1 _)
      | (with_reducible exact ih2 _ _ _ _ _ _ _)
      | (with_reducible exact ih3 _ _ _ _ _ _)
      | (with_reducible exact ih4 _ _ _ _ _ _)
      | (with_reducible exact ih5 _ _ _ _ _ _ _ _ _ _ _ _ _ _ _ _ _ _)
      | (with_reducible exact impl_AfterShort.mono _ _ _)
      | (with_reducible exact impl_NumberOfWord.mono _ _)
      | (with_reducible exact impl_OddCount.mono _ _ _)
      | (with_reducible exact impl_ParityWord.mono _ _ _)
      | (with_reducible exact spec_AfterShort.mono _ _ _)
      | (with_reducible exact spec_DrawNumberOfWord.mono _ _)
      | (with_reducible exact spec_DrawParityWord.mono _ _)
      | (with_reducible exact spec_NumberOfWord.mono _ _)
      | (with_reducible exact spec_OddCount.mono _ _ _)
      | (with_reducible exact spec_ParityWord.mono _ _ _)
      | (with_reducible exact LeO.refl _)
      | (with_reducible exact LeO.none _)
      | (with_reducible refine LeO.ite ?_ ?_)
      | (with_reducible refine LeO.bind ?_ (fun _ => ?_))
      | exact ih0 _ _ _ _ _
      | exact ih1 _
      | exact ih2 _ _ _ _ _ _ _
      | exact ih3 _ _ _ _ _ _
      | exact ih4 _ _ _ _ _ _
      | exact ih5 _ _ _ _ _ _ _ _ _ _ _ _ _ _ _ _ _ _
      | exact impl_AfterShort.mono _ _ _
      | exact impl_NumberOfWord.mono _ _
      | exact impl_OddCount.mono _ _ _
      | exact impl_ParityWord.mono _ _ _
      | exact spec_AfterShort.mono _ _ _
      | exact spec_DrawNumberOfWord.mono _ _
      | exact spec_DrawParityWord.mono _ _
      | exact spec_NumberOfWord.mono _ _
      | exact spec_OddCount.mono _ _ _
      | exact spec_ParityWord.mono _ _ _
      | exact LeO.none _
      | refine LeO.ite ?_ ?_
      | refine LeO.bind ?_ (fun _ => ?_)
    · intro y0 y1 y2 y3 y4 y5 y6
      unfold laws_FnParityWords.j3
      repeat' first
      | (with_reducible exact ih0 _ _ _ _ _)
      | (with_reducible exact ih1 _)
      | (with_reducible exact ih2 _ _ _ _ _ _ _)
      | (with_reducible exact ih3 _ _ _ _ _ _)
      | (with_reducible exact ih4 _ _ _ _ _ _)
      | (with_reducible exact ih5 _ _ _ _ _ _ _ _ _ _ _ _ _ _ _ _ _ _)
      | (with_reducible exact impl_AfterShort.mono _ _ _)
      | (with_reducible exact impl_NumberOfWord.mono _ _)
      | (with_reducible exact impl_OddCount.mono _ _ _)
      | (with_reducible exact impl_ParityWord.mono _ _ _)
      | (with_reducible exact spec_AfterShort.mono _ _ _)
      | (with_reducible exact spec_DrawNumberOfWord.mono _ _)
      | (with_reducible exact spec_DrawParityWord.mono _ _)
      | (with_reducible exact spec_NumberOfWord.mono _ _)
      | (with_reducible exact spec_OddCount.mono _ _ _)
      | (with_reducible exact spec_ParityWord.mono _ _ _)
      | (with_reducible exact LeO.refl _)
      | (with_reducible exact LeO.none _)
      | (with_reducible refine LeO.ite ?_ ?_)
      | (with_reducible refine LeO.bind ?_ (fun _ => ?_))
      | exact ih0 _ _ _ _ _
      | exact ih1 _
      | exact ih2 _ _ _ _ _ _ _
      | exact ih3 _ _ _ _ _ _
      | exact ih4 _ _ _ _ _ _
      | exact ih5 _ _ _ _ _ _ _ _ _ _ _ _ _ _ _ _ _ _
      | exact impl_AfterShort.mono _ _ _
      | exact impl_NumberOfWord.mono _ _
      | exact impl_OddCount.mono _ _ _
      | exact impl_ParityWord.mono _ _ _
      | exact spec_AfterShort.mono _ _ _
      | exact spec_DrawNumberOfWord.mono _ _
      | exact spec_DrawParityWord.mono _ _
      | exact spec_NumberOfWord.mono _ _
      | exact spec_OddCount.mono _ _ _
      | exact spec_ParityWord.mono _ _ _
      | exact LeO.none _
      | refine LeO.ite ?_ ?_
      | refine LeO.bind ?_ (fun _ => ?_)
    · intro y0 y1 y2 y3 y4 y5
      unfold laws_FnParityWords.j4
      repeat' first
      | (with_reducible exact ih0 _ _ _ _ _)
      | (with_reducible exact ih1 _)
      | (with_reducible exact ih2 _ _ _ _ _ _ _)
      | (with_reducible exact ih3 _ _ _ _ _ _)
      | (with_reducible exact ih4 _ _ _ _ _ _)
      | (with_reducible exact ih5 _ _ _ _ _ _ _ _ _ _ _ _ _ _ _ _ _ _)
      | (with_reducible exact impl_AfterShort.mono _ _ _)
      | (with_reducible exact impl_NumberOfWord.mono _ _)
      | (with_reducible exact impl_OddCount.mono _ _ _)
      | (with_reducible exact impl_ParityWord.mono _ _ _)
      | (with_reducible exact spec_AfterShort.mono _ _ _)
      | (with_reducible exact spec_DrawNumberOfWord.mono _ _)
      | (with_reducible exact spec_DrawParityWord.mono _ _)
      | (with_reducible exact spec_NumberOfWord.mono _ _)
      | (with_reducible exact spec_OddCount.mono _ _ _)
      | (with_reducible exact spec_ParityWord.mono _ _ _)
      | (with_reducible exact LeO.refl _)
      | (with_reducible exact LeO.none _)
      | (with_reducible refine LeO.ite ?_ ?_)
      | (with_reducible refine LeO.bind ?_ (fun _ => ?_))
      | exact ih0 _ _ _ _ _
      | exact ih1 _
      | exact ih2 _ _ _ _ _ _ _
      | exact ih3 _ _ _ _ _ _
      | exact ih4 _ _ _ _ _ _
      | exact ih5 _ _ _ _ _ _ _ _ _ _ _ _ _ _ _ _ _ _
      | exact impl_AfterShort.mono _ _ _
      | exact impl_NumberOfWord.mono _ _
      | exact impl_OddCount.mono _ _ _
      | exact impl_ParityWord.mono _ _ _
      | exact spec_AfterShort.mono _ _ _
      | exact spec_DrawNumberOfWord.mono _ _
      | exact spec_DrawParityWord.mono _ _
      | exact spec_NumberOfWord.mono _ _
      | exact spec_OddCount.mono _ _ _
      | exact spec_ParityWord.mono _ _ _
      | exact LeO.none _
      | refine LeO.ite ?_ ?_
      | refine LeO.bind ?_ (fun _ => ?_)
    · intro y0 y1 y2 y3 y4 y5
      unfold laws_FnParityWords.l1
      repeat' first
      | (with_reducible exact ih0 _ _ _ _ _)
      | (with_reducible exact ih1 _)
      | (with_reducible exact ih2 _ _ _ _ _ _ _)
      | (with_reducible exact ih3 _ _ _ _ _ _)
      | (with_reducible exact ih4 _ _ _ _ _ _)
      | (with_reducible exact ih5 _ _ _ _ _ _ _ _ _ _ _ _ _ _ _ _ _ _)
      | (with_reducible exact impl_AfterShort.mono _ _ _)
      | (with_reducible exact impl_NumberOfWord.mono _ _)
      | (with_reducible exact impl_OddCount.mono _ _ _)
      | (with_reducible exact impl_ParityWord.mono _ _ _)
      | (with_reducible exact spec_AfterShort.mono _ _ _)
      | (with_reducible exact spec_DrawNumberOfWord.mono _ _)
      | (with_reducible exact spec_DrawParityWord.mono _ _)
      | (with_reducible exact spec_NumberOfWord.mono _ _)
      | (with_reducible exact spec_OddCount.mono _ _ _)
      | (with_reducible exact spec_ParityWord.mono _ _ _)
      | (with_reducible exact LeO.refl _)
      | (with_reducible exact LeO.none _)
      | (with_reducible refine LeO.ite ?_ ?_)
      | (with_reducible refine LeO.bind ?_ (fun _ => ?_))
      | exact ih0 _ _ _ _ _
      | exact ih1 _
      | exact ih2 _ _ _ _ _ _ _
      | exact ih3 _ _ _ _ _ _
      | exact ih4 _ _ _ _ _ _
      | exact ih5 _ _ _ _ _ _ _ _ _ _ _ _ _ _ _ _ _ _
      | exact impl_AfterShort.mono _ _ _
      | exact impl_NumberOfWord.mono _ _
      | exact impl_OddCount.mono _ _ _
      | exact impl_ParityWord.mono _ _ _
      | exact spec_AfterShort.mono _ _ _
      | exact spec_DrawNumberOfWord.mono _ _
      | exact spec_DrawParityWord.mono _ _
      | exact spec_NumberOfWord.mono _ _
      | exact spec_OddCount.mono _ _ _
      | exact spec_ParityWord.mono _ _ _
      | exact LeO.none _
      | refine LeO.ite ?_ ?_
      | refine LeO.bind ?_ (fun _ => ?_)
    · intro y0 y1 y2 y3 y4 y5 y6 y7 y8 y9 y10 y11 y12 y13 y14 y15 y16 y17
      unfold laws_FnParityWords.l0
      repeat' first
      | (with_reducible exact ih0 _ _ _ _ _)
      | (with_reducible exact ih1 _)
      | (with_reducible exact ih2 _ _ _ _ _ _ _)
      | (with_reducible exact ih3 _ _ _ _ _ _)
      | (with_reducible exact ih4 _ _ _ _ _ _)
      | (with_reducible exact ih5 _ _ _ _ _ _ _ _ _ _ _ _ _ _ _ _ _ _)
      | (with_reducible exact impl_AfterShort.mono _ _ _)
      | (with_reducible exact impl_NumberOfWord.mono _ _)
      | (with_reducible exact impl_OddCount.mono _ _ _)
      | (with_reducible exact impl_ParityWord.mono _ _ _)
      | (with_reducible exact spec_AfterShort.mono _ _ _)
      | (with_reducible exact spec_DrawNumberOfWord.mono _ _)
      | (with_reducible exact spec_DrawParityWord.mono _ _)
      | (with_reducible exact spec_NumberOfWord.mono _ _)
      | (with_reducible exact spec_OddCount.mono _ _ _)
      | (with_reducible exact spec_ParityWord.mono _ _ _)
      | (with_reducible exact LeO.refl _)
      | (with_reducible exact LeO.none _)
      | (with_reducible refine LeO.ite ?_ ?_)
      | (with_reducible refine LeO.bind ?_ (fun _ => ?_))
      | exact ih0 _ _ _ _ _
      | exact ih1 _
      | exact ih2 _ _ _ _ _ _ _
      | exact ih3 _ _ _ _ _ _
      | exact ih4 _ _ _ _ _ _
      | exact ih5 _ _ _ _ _ _ _ _ _ _ _ _ _ _ _ _ _ _
      | exact impl_AfterShort.mono _ _ _
      | exact impl_NumberOfWord.mono _ _
      | exact impl_OddCount.mono _ _ _
      | exact impl_ParityWord.mono _ _ _
      | exact spec_AfterShort.mono _ _ _
      | exact spec_DrawNumberOfWord.mono _ _
      | exact spec_DrawParityWord.mono _ _
      | exact spec_NumberOfWord.mono _ _
      | exact spec_OddCount.mono _ _ _
      | exact spec_ParityWord.mono _ _ _
      | exact LeO.none _
      | refine LeO.ite ?_ ?_
      | refine LeO.bind ?_ (fun _ => ?_)
theorem laws_FnParityWords.mono : ∀ a0 a1 k, LeO (laws_FnParityWords.f k a0 a1) (laws_FnParityWords.f (k + 1) a0 a1) := by
  intro a0 a1 k
  obtain ⟨ih0, ih1, ih2, ih3, ih4, ih5⟩ := laws_FnParityWords.mono_l k
  unfold laws_FnParityWords.f
  repeat' first
      | (with_reducible exact ih0 _ _ _ _ _)
      | (with_reducible exact ih1 _)
      | (with_reducible exact ih2 _ _ _ _ _ _ _)
      | (with_reducible exact ih3 _ _ _ _ _ _)
      | (with_reducible exact ih4 _ _ _ _ _ _)
      | (with_reducible exact ih5 _ _ _ _ _ _ _ _ _ _ _ _ _ _ _ _ _ _)
      | (with_reducible exact impl_AfterShort.mono _ _ _)
      | (with_reducible exact impl_NumberOfWord.mono _ _)
      | (with_reducible exact impl_OddCount.mono _ _ _)
      | (with_reducible exact impl_ParityWord.mono _ _ _)
      | (with_reducible exact spec_AfterShort.mono _ _ _)
      | (with_reducible exact spec_DrawNumberOfWord.mono _ _)
      | (with_reducible exact spec_DrawParityWord.mono _ _)
      | (with_reducible exact spec_NumberOfWord.mono _ _)
      | (with_reducible exact spec_OddCount.mono _ _ _)
      | (with_reducible exact spec_ParityWord.mono _ _ _)
      | (with_reducible exact LeO.refl _)
      | (with_reducible exact LeO.none _)
      | (with_reducible refine LeO.ite ?_ ?_)
      | (with_reducible refine LeO.bind ?_ (fun _ => ?_))
      | exact ih0 _ _ _ _ _
      | exact ih1 _
      | exact ih2 _ _ _ _ _ _ _
      | exact ih3 _ _ _ _ _ _
      | exact ih4 _ _ _ _ _ _
      | exact ih5 _ _ _ _ _ _ _ _ _ _ _ _ _ _ _ _ _ _
      | exact impl_AfterShort.mono _ _ _
      | exact impl_NumberOfWord.mono _ _
      | exact impl_OddCount.mono _ _ _
      | exact impl_ParityWord.mono _ _ _
      | exact spec_AfterShort.mono _ _ _
      | exact spec_DrawNumberOfWord.mono _ _
      | exact spec_DrawParityWord.mono _ _
      | exact spec_NumberOfWord.mono _ _
      | exact spec_OddCount.mono _ _ _
      | exact spec_ParityWord.mono _ _ _
      | exact LeO.none _
      | refine LeO.ite ?_ ?_
      | refine LeO.bind ?_ (fun _ => ?_)
theorem laws_FnParityWords.j0_no {r : Bool} (hr : r = true) (k : Nat) (x1 : List Int) (x5 : ByteArray) (x6 : Int) (x7 : Bool) (h : laws_FnParityWords.j0 k x1 x5 x6 x7 true = some r) : False := by
  subst hr
  cases k with
  | zero => simp [laws_FnParityWords.j0] at h
  | succ k => simp [laws_FnParityWords.j0] at h
theorem laws_FnParityWords.j3_no {r : Bool} (hr : r = true) (k : Nat) (x26 : Int) (x27 : Int) (x28 : ByteArray) (x29 : Bool) (x36 : Int) (x37 : Bool) (h : laws_FnParityWords.j3 k x26 x27 x28 x29 x36 x37 true = some r) : False := by
  subst hr
  cases k with
  | zero => simp [laws_FnParityWords.j3] at h
  | succ k => simp [laws_FnParityWords.j3] at h
theorem laws_FnParityWords.j4_no {r : Bool} (hr : r = true) (k : Nat) (x26 : Int) (x27 : Int) (x28 : ByteArray) (x36 : Int) (x37 : Bool) (h : laws_FnParityWords.j4 k x26 x27 x28 x36 x37 true = some r) : False := by
  subst hr
  cases k with
  | zero => simp [laws_FnParityWords.j4] at h
  | succ k => simp [laws_FnParityWords.j4] at h
set_option maxHeartbeats 8000000 in
set_option maxRecDepth 100000 in
theorem laws_FnParityWords.calls (k : Nat) (A0 : Option Addr) (c0 : Nat) (l0 : List Int) (A1 : Option Addr) (c1 : Nat) (l1 : List Int) (r : Bool) (w : World) (hr0 : Kd.C (Kd.int .u8) w A0 l0.length l0) (hc0 : l0.length ≤ c0) (hr1 : Kd.C (Kd.int .u8) w A1 l1.length l1) (hc1 : l1.length ≤ c1) (h : laws_FnParityWords.f k l0 l1 = some r) (hr_ : r = true) :
    Calls Try.prog 11 #[.slice A0 l0.length c0, .slice A1 l1.length c1] w fun e w' => e = .returned (.bool r) ∧ Below w.heap.size w w' := by
  have HR0 := Aside0.mk hr0
  have HC0 := Aside0.mk hc0
  clear hr0 hc0
  have HR1 := Aside0.mk hr1
  have HC1 := Aside0.mk hc1
  clear hr1 hc1
  have HB := Aside0.mk (Below.refl w.heap.size w)
  have H : ((laws_big.f l0 l1).bind fun t281 => (if t281 = true then (some true) else ((spec_DrawNumberOfWord.f k l0).bind fun t282 => ((impl_NumberOfWord.f k t282).bind fun bt283 => ((spec_NumberOfWord.f k t282).bind fun bt285 => (if (bt283.2 != bt285.2) = true then (laws_FnParityWords.j0 k l1 t282 bt283.1 bt283.2 true) else (laws_FnParityWords.j0 k l1 t282 bt283.1 bt283.2 (bt283.1 != bt285.1)))))))) = some r := h
  clear h
  have HR_ := Aside0.mk hr_
  clear hr_
  replace H := Option.bind_eq_some_iff.mp H
  obtain ⟨t281, A30, H⟩ := H
  replace H : (if t281 = true then (some true) else ((spec_DrawNumberOfWord.f k l0).bind fun t282 => ((impl_NumberOfWord.f k t282).bind fun bt283 => ((spec_NumberOfWord.f k t282).bind fun bt285 => (if (bt283.2 != bt285.2) = true then (laws_FnParityWords.j0 k l1 t282 bt283.1 bt283.2 true) else (laws_FnParityWords.j0 k l1 t282 bt283.1 bt283.2 (bt283.1 != bt285.1))))))) = some r := H
  have A3 := Aside0.mk A30
  clear A30
  by_cases c4 : t281 = true
  · subst c4
    have H1 : (some true) = some r := by rw [if_pos rfl] at H; exact H
    clear H
    have H := H1
    clear H1
    as_aux_lemma =>
      obtain rfl := Option.some.inj H
      go_enter Try.func11, Try.ntmps11
      go_wp2_with (first | ((with_reducible refine gate_callee (f := 25) rfl ?_); refine goesL_ (some 48) rfl rfl Try.func25 (by kernel_rfl) rfl #[.slice A0 l0.length c0, .slice A1 l1.length c1] rfl (by (try simp only [List.map_toArray, List.map_cons, List.map_nil]); first | done | rfl | (simp only [List.length_drop, List.length_take]; rfl)) ?_; (with_reducible refine (laws_big.calls _ _ l0 _ _ l1 true _ ?side1 ?side2 ?side3 ?side4 A3.out).mono ?_); (case side1 => repeat (first | exact HR0.out | (with_reducible refine Kd.C_alloc ?_ _) | (with_reducible refine Kd.C_drewN ?_ _) | (with_reducible refine Kd.C_drew ?_))); (case side2 => exact HC0.out); (case side3 => repeat (first | exact HR1.out | (with_reducible refine Kd.C_alloc ?_ _) | (with_reducible refine Kd.C_drewN ?_ _) | (with_reducible refine Kd.C_drew ?_))); (case side4 => exact HC1.out); rintro e w' ⟨rfl, ⟨nd, rfl⟩⟩; refine ⟨_, rfl, ?_⟩))
      go_ret
      exact ⟨by first | rfl | (simp [errW_none, errW_some] <;> rfl) | (simp [*, errW_none, errW_some] <;> rfl), by repeat (first | (with_reducible first | exact HB.out | apply below_alloc | apply pw_below_drewN | apply below_drew1) | exact HB.out)⟩
  · replace c4 := Bool.eq_false_iff.mpr c4
    subst c4
    have H1 : ((spec_DrawNumberOfWord.f k l0).bind fun t282 => ((impl_NumberOfWord.f k t282).bind fun bt283 => ((spec_NumberOfWord.f k t282).bind fun bt285 => (if (bt283.2 != bt285.2) = true then (laws_FnParityWords.j0 k l1 t282 bt283.1 bt283.2 true) else (laws_FnParityWords.j0 k l1 t282 bt283.1 bt283.2 (bt283.1 != bt285.1)))))) = some r := by rw [if_neg (show ¬ (false = true) by decide)] at H; exact H
    clear H
    have H := H1
    clear H1
    replace H := Option.bind_eq_some_iff.mp H
    obtain ⟨t282, A50, H⟩ := H
    replace H : ((impl_NumberOfWord.f k t282).bind fun bt283 => ((spec_NumberOfWord.f k t282).bind fun bt285 => (if (bt283.2 != bt285.2) = true then (laws_FnParityWords.j0 k l1 t282 bt283.1 bt283.2 true) else (laws_FnParityWords.j0 k l1 t282 bt283.1 bt283.2 (bt283.1 != bt285.1))))) = some r := H
    have A5 := Aside0.mk A50
    clear A50
    replace H := Option.bind_eq_some_iff.mp H
    obtain ⟨⟨t283, t284⟩, A60, H⟩ := H
    replace H : ((spec_NumberOfWord.f k t282).bind fun bt285 => (if (t284 != bt285.2) = true then (laws_FnParityWords.j0 k l1 t282 t283 t284 true) else (laws_FnParityWords.j0 k l1 t282 t283 t284 (t283 != bt285.1)))) = some r := H
    have A6 := Aside0.mk A60
    clear A60
    replace H := Option.bind_eq_some_iff.mp H
    obtain ⟨⟨t285, t286⟩, A70, H⟩ := H
    replace H : (if (t284 != t286) = true then (laws_FnParityWords.j0 k l1 t282 t283 t284 true) else (laws_FnParityWords.j0 k l1 t282 t283 t284 (t283 != t285))) = some r := H
    have A7 := Aside0.mk A70
    clear A70
    have HC8 := Aside0.mk H
    clear H
    go_enter Try.func11, Try.ntmps11
    go_upto_region 6 with (first | ((with_reducible refine gate_callee (f := 25) rfl ?_); refine goesL_ (some 48) rfl rfl Try.func25 (by kernel_rfl) rfl #[.slice A0 l0.length c0, .slice A1 l1.length c1] rfl (by (try simp only [List.map_toArray, List.map_cons, List.map_nil]); first | done | rfl | (simp only [List.length_drop, List.length_take]; rfl)) ?_; (with_reducible refine (laws_big.calls _ _ l0 _ _ l1 false _ ?side1 ?side2 ?side3 ?side4 A3.out).mono ?_); (case side1 => repeat (first | exact HR0.out | (with_reducible refine Kd.C_alloc ?_ _) | (with_reducible refine Kd.C_drewN ?_ _) | (with_reducible refine Kd.C_drew ?_))); (case side2 => exact HC0.out); (case side3 => repeat (first | exact HR1.out | (with_reducible refine Kd.C_alloc ?_ _) | (with_reducible refine Kd.C_drewN ?_ _) | (with_reducible refine Kd.C_drew ?_))); (case side4 => exact HC1.out); rintro e w' ⟨rfl, ⟨nd, rfl⟩⟩; refine ⟨_, rfl, ?_⟩) | ((with_reducible refine gate_callee (f := 88) rfl ?_); refine goesL_ (some 50) rfl rfl Try.func88 (by kernel_rfl) rfl #[.slice A0 l0.length c0] rfl (by (try simp only [List.map_toArray, List.map_cons, List.map_nil]); first | done | rfl | (simp only [List.length_drop, List.length_take]; rfl)) ?_; (with_reducible refine (spec_DrawNumberOfWord.calls k _ _ l0 t282 _ ?side1 ?side2 A5.out).mono ?_); (case side1 => repeat (first | exact HR0.out | (with_reducible refine Kd.C_alloc ?_ _) | (with_reducible refine Kd.C_drewN ?_ _) | (with_reducible refine Kd.C_drew ?_))); (case side2 => exact HC0.out); rintro e w9 ⟨rfl, hb⟩; refine ⟨_, rfl, ?_⟩; have n0_ := Aside0.mk (below_step (by repeat (first | (with_reducible first | exact HB.out | apply below_alloc | apply pw_below_drewN | apply below_drew1) | exact HB.out)) hb); clear HB; have HB := n0_; clear n0_; (try clear hb); (try clear hb2); (try clear hk); (try clear hi)) | ((with_reducible refine gate_callee (f := 89) rfl ?_); refine goesL_ (some 53) rfl rfl Try.func89 (by kernel_rfl) rfl #[.string t282] rfl (by (try simp only [List.map_toArray, List.map_cons, List.map_nil]); first | done | rfl | (simp only [List.length_drop, List.length_take]; rfl)) ?_; (with_reducible refine (impl_NumberOfWord.calls k t282 t283 t284 _ A6.out).mono ?_); rintro e w10 ⟨rfl, hb⟩; refine ⟨_, rfl, ?_⟩; have n0_ := Aside0.mk (below_step (by repeat (first | (with_reducible first | exact HB.out | apply below_alloc | apply pw_below_drewN | apply below_drew1) | exact HB.out)) hb); clear HB; have HB := n0_; clear n0_; (try clear hb); (try clear hb2); (try clear hk); (try clear hi)) | ((with_reducible refine gate_callee (f := 90) rfl ?_); refine goesL_ (some 58) rfl rfl Try.func90 (by kernel_rfl) rfl #[.string t282] rfl (by (try simp only [List.map_toArray, List.map_cons, List.map_nil]); first | done | rfl | (simp only [List.length_drop, List.length_take]; rfl)) ?_; (with_reducible refine (spec_NumberOfWord.calls k t282 t285 t286 _ A7.out).mono ?_); rintro e w11 ⟨rfl, hb⟩; refine ⟨_, rfl, ?_⟩; have n0_ := Aside0.mk (below_step (by repeat (first | (with_reducible first | exact HB.out | apply below_alloc | apply pw_below_drewN | apply below_drew1) | exact HB.out)) hb); clear HB; have HB := n0_; clear n0_; (try clear hb); (try clear hb2); (try clear hk); (try clear hi)))
    (try simp only [Act.put, List.setIfInBounds_toArray, List.set_cons_zero, List.set_cons_succ])
    go_cut [68] (fun v68 wc => ∃ (kq : Nat) (x68_7 : Bool), v68 = .bool x68_7 ∧ Aside0 (laws_FnParityWords.j0 kq l1 t282 t283 t284 x68_7 = some r) ∧ Aside0 (kq ≤ k) ∧ Aside0 (Below w.heap.size w wc))
    case first =>
      as_aux_lemma =>
      have H := HC8.out
      clear HC8
      by_cases c12 : (t284 != t286) = true
      · rw [if_pos c12] at H
        have c12b0 : (t284 != t286) = true := c12
        (try (have c12b1 : decide (t284 = t286) = false := by simpa using c12))
        (try (have c12b2 : (t284 == t286) = false := by simpa using c12))
        (try (have c12b3 : ¬ (t284 = t286) := by simpa using c12))
        clear c12
        (first | rw [c12b0] | (simp only [i64_w, i32_w]; rw [c12b0]) | skip)
        exact (laws_FnParityWords.j0_no HR_.out _ _ _ _ _ H).elim
      · rw [if_neg c12] at H
        have c12b0 : (t284 != t286) = false := by simpa using c12
        (try (have c12b1 : decide (t284 = t286) = true := by simpa using c12))
        (try (have c12b2 : (t284 == t286) = true := by simpa using c12))
        clear c12
        (first | rw [c12b0] | (simp only [i64_w, i32_w]; rw [c12b0]) | skip)
        as_aux_lemma =>
          have H' := Aside0.mk H
          clear H
          go_wp2
          go_meet
          case rel => exact ⟨_, ((t283 != t285)), (by first | rfl | (simp; done) | (simp [*]; done)), H', ⟨by first | omega | exact Nat.le_refl _⟩, ⟨by repeat (first | (with_reducible first | exact HB.out | apply below_alloc | apply pw_below_drewN | apply below_drew1) | exact HB.out)⟩⟩
    case rest =>
      as_aux_lemma =>
      clear HC8
      try clear c1
      try clear c2
      try clear p2
      try clear c4
      try clear c8
      try clear c9
      try clear c11
      try clear c12
      try clear c12b0
      try clear c12b1
      try clear c12b2
      obtain ⟨kq, x68_7, rfl, HA, HJ7, HB⟩ := hcut
      cases kq with
      | zero => exact absurd HA.out (by simp [laws_FnParityWords.j0])
      | succ kj7 =>
        have H := HA.out
        clear HA
        simp only [laws_FnParityWords.j0] at H
        by_cases c13 : x68_7 = true
        · subst c13
          have H1 : (some false) = some r := by rw [if_pos rfl] at H; exact H
          clear H
          have H := H1
          clear H1
          exact absurd (Option.some.inj H) (by rw [HR_.out]; decide)
        · replace c13 := Bool.eq_false_iff.mpr c13
          subst c13
          have H1 : (if t284 = true then ((impl_ParityWord.f kj7 t283 (t282.size : Int)).bind fun bt287 => ((impl_OddCount.f kj7 t283 (t282.size : Int)).bind fun bt289 => ((impl_AfterShort.f kj7 t283 (t282.size : Int)).bind fun bt291 => ((impl_ParityWord.f kj7 (wrap64 (t283 + (shl .i64 (1 + ((l1.length : Int) % 7)) (t282.size : Int)))) (t282.size : Int)).bind fun bt293 => ((impl_AfterShort.f kj7 (wrap64 (t283 + (shl .i64 (1 + ((l1.length : Int) % 7)) (t282.size : Int)))) (t282.size : Int)).bind fun bt295 => (laws_FnParityWords.l0 kj7 l1 t282 t283 (t282.size : Int) bt287.1 bt287.2 bt289.1 bt289.2 bt291.1 bt291.2 (1 + ((l1.length : Int) % 7)) bt293.1 bt293.2 bt295.1 bt295.2 1 0 0)))))) else (laws_FnParityWords.j2 kj7 l1)) = some r := by rw [if_neg (show ¬ (false = true) by decide)] at H; exact H
          clear H
          have H := H1
          clear H1
          have HC14 := Aside0.mk H
          clear H
          go_upto_if 69 with (fail)
          go_cut [] (fun wc => ∃ (kq : Nat), Aside0 (laws_FnParityWords.j2 kq l1 = some r) ∧ Aside0 (kq ≤ kj7) ∧ Aside0 (Below w.heap.size w wc))
          case first =>
            as_aux_lemma =>
            have H := HC14.out
            clear HC14
            by_cases c15 : t284 = true
            · subst c15
              have H1 : ((impl_ParityWord.f kj7 t283 (t282.size : Int)).bind fun bt287 => ((impl_OddCount.f kj7 t283 (t282.size : Int)).bind fun bt289 => ((impl_AfterShort.f kj7 t283 (t282.size : Int)).bind fun bt291 => ((impl_ParityWord.f kj7 (wrap64 (t283 + (shl .i64 (1 + ((l1.length : Int) % 7)) (t282.size : Int)))) (t282.size : Int)).bind fun bt293 => ((impl_AfterShort.f kj7 (wrap64 (t283 + (shl .i64 (1 + ((l1.length : Int) % 7)) (t282.size : Int)))) (t282.size : Int)).bind fun bt295 => (laws_FnParityWords.l0 kj7 l1 t282 t283 (t282.size : Int) bt287.1 bt287.2 bt289.1 bt289.2 bt291.1 bt291.2 (1 + ((l1.length : Int) % 7)) bt293.1 bt293.2 bt295.1 bt295.2 1 0 0)))))) = some r := by rw [if_pos rfl] at H; exact H
              clear H
              have H := H1
              clear H1
              replace H := Option.bind_eq_some_iff.mp H
              obtain ⟨⟨t287, t288⟩, A160, H⟩ := H
              replace H : ((impl_OddCount.f kj7 t283 (t282.size : Int)).bind fun bt289 => ((impl_AfterShort.f kj7 t283 (t282.size : Int)).bind fun bt291 => ((impl_ParityWord.f kj7 (wrap64 (t283 + (shl .i64 (1 + ((l1.length : Int) % 7)) (t282.size : Int)))) (t282.size : Int)).bind fun bt293 => ((impl_AfterShort.f kj7 (wrap64 (t283 + (shl .i64 (1 + ((l1.length : Int) % 7)) (t282.size : Int)))) (t282.size : Int)).bind fun bt295 => (laws_FnParityWords.l0 kj7 l1 t282 t283 (t282.size : Int) t287 t288 bt289.1 bt289.2 bt291.1 bt291.2 (1 + ((l1.length : Int) % 7)) bt293.1 bt293.2 bt295.1 bt295.2 1 0 0))))) = some r := H
              have A16 := Aside0.mk A160
              clear A160
              replace H := Option.bind_eq_some_iff.mp H
              obtain ⟨⟨t289, t290⟩, A170, H⟩ := H
              replace H : ((impl_AfterShort.f kj7 t283 (t282.size : Int)).bind fun bt291 => ((impl_ParityWord.f kj7 (wrap64 (t283 + (shl .i64 (1 + ((l1.length : Int) % 7)) (t282.size : Int)))) (t282.size : Int)).bind fun bt293 => ((impl_AfterShort.f kj7 (wrap64 (t283 + (shl .i64 (1 + ((l1.length : Int) % 7)) (t282.size : Int)))) (t282.size : Int)).bind fun bt295 => (laws_FnParityWords.l0 kj7 l1 t282 t283 (t282.size : Int) t287 t288 t289 t290 bt291.1 bt291.2 (1 + ((l1.length : Int) % 7)) bt293.1 bt293.2 bt295.1 bt295.2 1 0 0)))) = some r := H
              have A17 := Aside0.mk A170
              clear A170
              replace H := Option.bind_eq_some_iff.mp H
              obtain ⟨⟨t291, t292⟩, A180, H⟩ := H
              replace H : ((impl_ParityWord.f kj7 (wrap64 (t283 + (shl .i64 (1 + ((l1.length : Int) % 7)) (t282.size : Int)))) (t282.size : Int)).bind fun bt293 => ((impl_AfterShort.f kj7 (wrap64 (t283 + (shl .i64 (1 + ((l1.length : Int) % 7)) (t282.size : Int)))) (t282.size : Int)).bind fun bt295 => (laws_FnParityWords.l0 kj7 l1 t282 t283 (t282.size : Int) t287 t288 t289 t290 t291 t292 (1 + ((l1.length : Int) % 7)) bt293.1 bt293.2 bt295.1 bt295.2 1 0 0))) = some r := H
              have A18 := Aside0.mk A180
              clear A180
              obtain ⟨ji19, hji19⟩ : ∃ j_ : Int, (shl .i64 (1 + ((l1.length : Int) % 7)) (t282.size : Int)) = j_ := ⟨_, rfl⟩
              replace H : ((impl_ParityWord.f kj7 (wrap64 (t283 + (ji19))) (t282.size : Int)).bind fun bt293 => ((impl_AfterShort.f kj7 (wrap64 (t283 + (ji19))) (t282.size : Int)).bind fun bt295 => (laws_FnParityWords.l0 kj7 l1 t282 t283 (t282.size : Int) t287 t288 t289 t290 t291 t292 (1 + ((l1.length : Int) % 7)) bt293.1 bt293.2 bt295.1 bt295.2 1 0 0))) = some r := by first | (rw [hji19] at H; exact H) | (simp only [hji19] at H ⊢; exact H)
              (try rw [hji19] at A16)
              (try rw [hji19] at A17)
              (try rw [hji19] at A18)
              have hji19_ : (IntKind.i64.wrap ((1 + ((l1.length : Int) % 7)) * 2 ^ min (t282.size : Int).toNat 64)) = ji19 := hji19
              have hji19z : (t282.size : Int) ≤ 64 → (IntKind.i64.wrap ((1 + ((l1.length : Int) % 7)) * 2 ^ (t282.size : Int).toNat)) = ji19 := shl_small hji19
              have hji19y : (wrap64 ((1 + ((l1.length : Int) % 7)) * 2 ^ min (t282.size : Int).toNat 64)) = ji19 := (i64_w _).symm.trans hji19_
              have hji19w : (wrap64 ((1 + ((l1.length : Int) % 7)) * 2 ^ min t282.size 64)) = ji19 := hji19y
              have hji19x : (t282.size : Int) ≤ 64 → (wrap64 ((1 + ((l1.length : Int) % 7)) * 2 ^ (t282.size : Int).toNat)) = ji19 := fun h_ => (i64_w _).symm.trans (hji19z h_)
              replace H := Option.bind_eq_some_iff.mp H
              obtain ⟨⟨t293, t294⟩, A200, H⟩ := H
              replace H : ((impl_AfterShort.f kj7 (wrap64 (t283 + (ji19))) (t282.size : Int)).bind fun bt295 => (laws_FnParityWords.l0 kj7 l1 t282 t283 (t282.size : Int) t287 t288 t289 t290 t291 t292 (1 + ((l1.length : Int) % 7)) t293 t294 bt295.1 bt295.2 1 0 0)) = some r := H
              have A20 := Aside0.mk A200
              clear A200
              replace H := Option.bind_eq_some_iff.mp H
              obtain ⟨⟨t295, t296⟩, A210, H⟩ := H
              replace H : (laws_FnParityWords.l0 kj7 l1 t282 t283 (t282.size : Int) t287 t288 t289 t290 t291 t292 (1 + ((l1.length : Int) % 7)) t293 t294 t295 t296 1 0 0) = some r := H
              have A21 := Aside0.mk A210
              clear A210
              have H' := Aside0.mk H
              clear H
              go_wp2_with (first | ((with_reducible refine gate_callee (f := 91) rfl ?_); refine goesL_ (some 75) rfl rfl Try.func91 (by kernel_rfl) rfl #[.int .i64 t283, .int .i64 (t282.size : Int)] rfl (by (try simp only [List.map_toArray, List.map_cons, List.map_nil]); first | done | rfl | (simp only [List.length_drop, List.length_take]; rfl)) ?_; (with_reducible refine (impl_ParityWord.calls kj7 t283 (t282.size : Int) t287 t288 _ A16.out).mono ?_); rintro e w22 ⟨rfl, hb⟩; refine ⟨_, rfl, ?_⟩; have n0_ := Aside0.mk (below_step (by repeat (first | (with_reducible first | exact HB.out | apply below_alloc | apply pw_below_drewN | apply below_drew1) | exact HB.out)) hb); clear HB; have HB := n0_; clear n0_; (try clear hb); (try clear hb2); (try clear hk); (try clear hi)) | ((with_reducible refine gate_callee (f := 92) rfl ?_); refine goesL_ (some 81) rfl rfl Try.func92 (by kernel_rfl) rfl #[.int .i64 t283, .int .i64 (t282.size : Int)] rfl (by (try simp only [List.map_toArray, List.map_cons, List.map_nil]); first | done | rfl | (simp only [List.length_drop, List.length_take]; rfl)) ?_; (with_reducible refine (impl_OddCount.calls kj7 t283 (t282.size : Int) t289 t290 _ A17.out).mono ?_); rintro e w23 ⟨rfl, hb⟩; refine ⟨_, rfl, ?_⟩; have n0_ := Aside0.mk (below_step (by repeat (first | (with_reducible first | exact HB.out | apply below_alloc | apply pw_below_drewN | apply below_drew1) | exact HB.out)) hb); clear HB; have HB := n0_; clear n0_; (try clear hb); (try clear hb2); (try clear hk); (try clear hi)) | ((with_reducible refine gate_callee (f := 93) rfl ?_); refine goesL_ (some 87) rfl rfl Try.func93 (by kernel_rfl) rfl #[.int .i64 t283, .int .i64 (t282.size : Int)] rfl (by (try simp only [List.map_toArray, List.map_cons, List.map_nil]); first | done | rfl | (simp only [List.length_drop, List.length_take]; rfl)) ?_; (with_reducible refine (impl_AfterShort.calls kj7 t283 (t282.size : Int) t291 t292 _ A18.out).mono ?_); rintro e w24 ⟨rfl, hb⟩; refine ⟨_, rfl, ?_⟩; have n0_ := Aside0.mk (below_step (by repeat (first | (with_reducible first | exact HB.out | apply below_alloc | apply pw_below_drewN | apply below_drew1) | exact HB.out)) hb); clear HB; have HB := n0_; clear n0_; (try clear hb); (try clear hb2); (try clear hk); (try clear hi)) | ((with_reducible refine gate_callee (f := 91) rfl ?_); refine goesL_ (some 102) rfl rfl Try.func91 (by kernel_rfl) rfl #[.int .i64 (wrap64 (t283 + (ji19))), .int .i64 (t282.size : Int)] rfl (by (try simp only [List.map_toArray, List.map_cons, List.map_nil]); first | done | (simp only [hji19]; rfl) | (simp only [hji19w]; rfl) | rfl | (simp only [List.length_drop, List.length_take]; rfl)) ?_; (with_reducible refine (impl_ParityWord.calls kj7 (wrap64 (t283 + (ji19))) (t282.size : Int) t293 t294 _ A20.out).mono ?_); rintro e w25 ⟨rfl, hb⟩; refine ⟨_, rfl, ?_⟩; have n0_ := Aside0.mk (below_step (by repeat (first | (with_reducible first | exact HB.out | apply below_alloc | apply pw_below_drewN | apply below_drew1) | exact HB.out)) hb); clear HB; have HB := n0_; clear n0_; (try clear hb); (try clear hb2); (try clear hk); (try clear hi)) | ((with_reducible refine gate_callee (f := 93) rfl ?_); refine goesL_ (some 108) rfl rfl Try.func93 (by kernel_rfl) rfl #[.int .i64 (wrap64 (t283 + (ji19))), .int .i64 (t282.size : Int)] rfl (by (try simp only [List.map_toArray, List.map_cons, List.map_nil]); first | done | (simp only [hji19]; rfl) | (simp only [hji19w]; rfl) | rfl | (simp only [List.length_drop, List.length_take]; rfl)) ?_; (with_reducible refine (impl_AfterShort.calls kj7 (wrap64 (t283 + (ji19))) (t282.size : Int) t295 t296 _ A21.out).mono ?_); rintro e w26 ⟨rfl, hb⟩; refine ⟨_, rfl, ?_⟩; have n0_ := Aside0.mk (below_step (by repeat (first | (with_reducible first | exact HB.out | apply below_alloc | apply pw_below_drewN | apply below_drew1) | exact HB.out)) hb); clear HB; have HB := n0_; clear n0_; (try clear hb); (try clear hb2); (try clear hk); (try clear hi)))
              go_loopg [23, 24, 25] kj7 (fun kq v23 v24 v25 w' => ∃ (x23_2 : Int) (x24_2 : Int) (x25_2 : Int), v23 = .int .i64 x23_2 ∧ v24 = .int .i64 x24_2 ∧ v25 = .int .i64 x25_2 ∧ Aside0 (laws_FnParityWords.l0 kq l1 t282 t283 (t282.size : Int) t287 t288 t289 t290 t291 t292 (1 + ((l1.length : Int) % 7)) t293 t294 t295 t296 x23_2 x24_2 x25_2 = some r) ∧ Aside0 (kq ≤ kj7) ∧ Aside0 (Below w.heap.size w w'))
              case atStart => exact ⟨(1), (0), (0), (by first | rfl | (simp; done) | (simp [*]; done)), (by first | rfl | (simp; done) | (simp [*]; done)), (by first | rfl | (simp; done) | (simp [*]; done)), H', ⟨Nat.le_refl _⟩, ⟨by repeat (first | (with_reducible first | exact HB.out | apply below_alloc | apply pw_below_drewN | apply below_drew1) | exact HB.out)⟩⟩
              case round =>
                as_aux_lemma =>
                clear H'
                try clear c1
                try clear c2
                try clear p2
                try clear c4
                try clear p6
                try clear c8
                try clear c9
                try clear c11
                try clear c12
                try clear c12b0
                try clear c12b1
                try clear c12b2
                try clear c13
                try clear c15
                try clear c25
                try clear p2
                obtain ⟨x23_2, x24_2, x25_2, rfl, rfl, rfl, HA, HK2, HB⟩ := hrel
                cases gk with
                | zero => exact absurd HA.out (by simp [laws_FnParityWords.l0])
                | succ k2 =>
                  have H := HA.out
                  clear HA
                  simp only [laws_FnParityWords.l0] at H
                  by_cases c27 : x25_2 < (t282.size : Int)
                  · rw [if_pos c27] at H
                    have c27b0 : decide (x25_2 < (t282.size : Int)) = true := decide_eq_true c27
                    clear c27
                    (first | rw [c27b0] | (simp only [i64_w, i32_w]; rw [c27b0]) | skip)
                    by_cases c28 : 0 ≤ x25_2
                    · rw [if_pos c28] at H
                      have c28b0 : decide (0 ≤ x25_2) = true := decide_eq_true c28
                      clear c28
                      by_cases c29 : x25_2 < (t282.size : Int)
                      · rw [if_pos c29] at H
                        have c29b0 : decide (x25_2 < (t282.size : Int)) = true := decide_eq_true c29
                        clear c29
                        by_cases c31 : (bt t282 x25_2) = 49
                        · rw [if_pos c31] at H
                          have c31b0 : ((bt t282 x25_2) == 49) = true := beq_iff_eq.mpr c31
                          have c31b1 : ((bt t282 x25_2) != 49) = false := bne_eq_false_iff_eq.mpr c31
                          clear c31
                          as_aux_lemma =>
                            have H' := Aside0.mk H
                            clear H
                            have p30 : 0 ≤ (x25_2 : Int) := of_decide_eq_true (by first | (with_reducible assumption) | assumption)
                            have q30 : x25_2 < (t282.size : Int) := of_decide_eq_true (by first | (with_reducible assumption) | assumption)
                            have hx30 := bt_at t282 x25_2
                            replace p30 := eq_true p30
                            replace q30 := eq_true q30
                            go_wp2
                            go_roundg k2
                            case measure => have := HJ7.out; have := HK2.out; omega
                            case rel => exact ⟨(wrap64 (x23_2 * 3)), (wrap64 (x24_2 + 1)), (wrap64 (x25_2 + 1)), (by first | rfl | (simp; done) | (simp [*]; done)), (by first | rfl | (simp; done) | (simp [*]; done)), (by first | rfl | (simp; done) | (simp [*]; done)), H', ⟨by have := HJ7.out; have := HK2.out; omega⟩, ⟨by repeat (first | (with_reducible first | exact HB.out | apply below_alloc | apply pw_below_drewN | apply below_drew1) | exact HB.out)⟩⟩
                        · rw [if_neg c31] at H
                          have c31b0 : ((bt t282 x25_2) == 49) = false := beq_eq_false_iff_ne.mpr c31
                          have c31b1 : ((bt t282 x25_2) != 49) = true := bne_iff_ne.mpr c31
                          as_aux_lemma =>
                            have H' := Aside0.mk H
                            clear H
                            have p30 : 0 ≤ (x25_2 : Int) := of_decide_eq_true (by first | (with_reducible assumption) | assumption)
                            have q30 : x25_2 < (t282.size : Int) := of_decide_eq_true (by first | (with_reducible assumption) | assumption)
                            have hx30 := bt_at t282 x25_2
                            replace p30 := eq_true p30
                            replace q30 := eq_true q30
                            go_wp2
                            go_roundg k2
                            case measure => have := HJ7.out; have := HK2.out; omega
                            case rel => exact ⟨(x23_2), (x24_2), (wrap64 (x25_2 + 1)), (by first | rfl | (simp; done) | (simp [*]; done)), (by first | rfl | (simp; done) | (simp [*]; done)), (by first | rfl | (simp; done) | (simp [*]; done)), H', ⟨by have := HJ7.out; have := HK2.out; omega⟩, ⟨by repeat (first | (with_reducible first | exact HB.out | apply below_alloc | apply pw_below_drewN | apply below_drew1) | exact HB.out)⟩⟩
                      · rw [if_neg c29] at H
                        exact absurd H (by simp)
                    · rw [if_neg c28] at H
                      exact absurd H (by simp)
                  · rw [if_neg c27] at H
                    have c27b0 : decide (x25_2 < (t282.size : Int)) = false := decide_eq_false c27
                    clear c27
                    (first | rw [c27b0] | (simp only [i64_w, i32_w]; rw [c27b0]) | skip)
                    by_cases c32 : t283 < 1
                    · rw [if_pos c32] at H
                      have c32b0 : decide (t283 < 1) = true := decide_eq_true c32
                      clear c32
                      exact absurd (Option.some.inj H) (by rw [HR_.out]; decide)
                    · rw [if_neg c32] at H
                      have c32b0 : decide (t283 < 1) = false := decide_eq_false c32
                      clear c32
                      by_cases c33 : 0 ≤ (t282.size : Int)
                      · rw [if_pos c33] at H
                        have c33b0 := eq_true c33
                        have c33b1 : decide (0 ≤ (t282.size : Int)) = true := decide_eq_true c33
                        clear c33
                        obtain ⟨ji34, hji34⟩ : ∃ j_ : Int, (shl .i64 1 (t282.size : Int)) = j_ := ⟨_, rfl⟩
                        replace H : (if t283 > (ji34) then (some false) else (if t288 = true then (if t287.toList = t282.toList then (if t290 = true then (if t289 = x24_2 then (if t292 = true then (if t294 = true then (if t293.toList = t282.toList then (if t296 = true then (if t295 = (wrap64 (t291 + (wrap64 ((1 + ((l1.length : Int) % 7)) * x23_2)))) then (laws_FnParityWords.j2 k2 l1) else (some false)) else (some false)) else (some false)) else (some false)) else (some false)) else (some false)) else (some false)) else (some false)) else (some false))) = some r := by first | (rw [hji34] at H; exact H) | (simp only [hji34] at H ⊢; exact H)
                        have hji34_ : (IntKind.i64.wrap (1 * 2 ^ min (t282.size : Int).toNat 64)) = ji34 := hji34
                        have hji34z : (t282.size : Int) ≤ 64 → (IntKind.i64.wrap (1 * 2 ^ (t282.size : Int).toNat)) = ji34 := shl_small hji34
                        have hji34u : (IntKind.i64.wrap (2 ^ min (t282.size : Int).toNat 64)) = ji34 := by have h_ := hji34_; rw [Int.one_mul] at h_; exact h_
                        have hji34v : (t282.size : Int) ≤ 64 → (IntKind.i64.wrap (2 ^ (t282.size : Int).toNat)) = ji34 := fun hle_ => by have h_ := hji34z hle_; rw [Int.one_mul] at h_; exact h_
                        have hji34y : (wrap64 (1 * 2 ^ min (t282.size : Int).toNat 64)) = ji34 := (i64_w _).symm.trans hji34_
                        have hji34w : (wrap64 (1 * 2 ^ min t282.size 64)) = ji34 := hji34y
                        have hji34t : (wrap64 (2 ^ min t282.size 64)) = ji34 := (by have h_ := hji34w; rw [Int.one_mul] at h_; exact h_)
                        have hji34x : (t282.size : Int) ≤ 64 → (wrap64 (1 * 2 ^ (t282.size : Int).toNat)) = ji34 := fun h_ => (i64_w _).symm.trans (hji34z h_)
                        by_cases c35 : t283 > (ji34)
                        · rw [if_pos c35] at H
                          have c35b0 : decide ((ji34) < t283) = true := decide_eq_true c35
                          clear c35
                          exact absurd (Option.some.inj H) (by rw [HR_.out]; decide)
                        · rw [if_neg c35] at H
                          have c35b0 : decide ((ji34) < t283) = false := decide_eq_false c35
                          clear c35
                          by_cases c36 : t288 = true
                          · subst c36
                            have H1 : (if t287.toList = t282.toList then (if t290 = true then (if t289 = x24_2 then (if t292 = true then (if t294 = true then (if t293.toList = t282.toList then (if t296 = true then (if t295 = (wrap64 (t291 + (wrap64 ((1 + ((l1.length : Int) % 7)) * x23_2)))) then (laws_FnParityWords.j2 k2 l1) else (some false)) else (some false)) else (some false)) else (some false)) else (some false)) else (some false)) else (some false)) else (some false)) = some r := by rw [if_pos rfl] at H; exact H
                            clear H
                            have H := H1
                            clear H1
                            by_cases c37 : t287.toList = t282.toList
                            · rw [if_pos c37] at H
                              have c37b0 : (t287.toList == t282.toList) = true := beq_iff_eq.mpr c37
                              have c37b1 : (t287.toList != t282.toList) = false := bne_eq_false_iff_eq.mpr c37
                              clear c37
                              by_cases c38 : t290 = true
                              · subst c38
                                have H1 : (if t289 = x24_2 then (if t292 = true then (if t294 = true then (if t293.toList = t282.toList then (if t296 = true then (if t295 = (wrap64 (t291 + (wrap64 ((1 + ((l1.length : Int) % 7)) * x23_2)))) then (laws_FnParityWords.j2 k2 l1) else (some false)) else (some false)) else (some false)) else (some false)) else (some false)) else (some false)) = some r := by rw [if_pos rfl] at H; exact H
                                clear H
                                have H := H1
                                clear H1
                                by_cases c39 : t289 = x24_2
                                · rw [if_pos c39] at H
                                  have c39b0 : (t289 == x24_2) = true := beq_iff_eq.mpr c39
                                  have c39b1 : (t289 != x24_2) = false := bne_eq_false_iff_eq.mpr c39
                                  clear c39
                                  by_cases c40 : t292 = true
                                  · subst c40
                                    have H1 : (if t294 = true then (if t293.toList = t282.toList then (if t296 = true then (if t295 = (wrap64 (t291 + (wrap64 ((1 + ((l1.length : Int) % 7)) * x23_2)))) then (laws_FnParityWords.j2 k2 l1) else (some false)) else (some false)) else (some false)) else (some false)) = some r := by rw [if_pos rfl] at H; exact H
                                    clear H
                                    have H := H1
                                    clear H1
                                    by_cases c41 : t294 = true
                                    · subst c41
                                      have H1 : (if t293.toList = t282.toList then (if t296 = true then (if t295 = (wrap64 (t291 + (wrap64 ((1 + ((l1.length : Int) % 7)) * x23_2)))) then (laws_FnParityWords.j2 k2 l1) else (some false)) else (some false)) else (some false)) = some r := by rw [if_pos rfl] at H; exact H
                                      clear H
                                      have H := H1
                                      clear H1
                                      by_cases c42 : t293.toList = t282.toList
                                      · rw [if_pos c42] at H
                                        have c42b0 : (t293.toList == t282.toList) = true := beq_iff_eq.mpr c42
                                        have c42b1 : (t293.toList != t282.toList) = false := bne_eq_false_iff_eq.mpr c42
                                        clear c42
                                        by_cases c43 : t296 = true
                                        · subst c43
                                          have H1 : (if t295 = (wrap64 (t291 + (wrap64 ((1 + ((l1.length : Int) % 7)) * x23_2)))) then (laws_FnParityWords.j2 k2 l1) else (some false)) = some r := by rw [if_pos rfl] at H; exact H
                                          clear H
                                          have H := H1
                                          clear H1
                                          by_cases c44 : t295 = (wrap64 (t291 + (wrap64 ((1 + ((l1.length : Int) % 7)) * x23_2))))
                                          · rw [if_pos c44] at H
                                            have c44b0 : (t295 == (wrap64 (t291 + (wrap64 ((1 + ((l1.length : Int) % 7)) * x23_2))))) = true := beq_iff_eq.mpr c44
                                            have c44b1 : (t295 != (wrap64 (t291 + (wrap64 ((1 + ((l1.length : Int) % 7)) * x23_2))))) = false := bne_eq_false_iff_eq.mpr c44
                                            clear c44
                                            as_aux_lemma =>
                                              have H' := Aside0.mk H
                                              clear H
                                              go_wp2
                                              go_meet
                                              case rel => exact ⟨_, H', ⟨by have := HJ7.out; have := HK2.out; first | omega | exact Nat.le_refl _⟩, ⟨by repeat (first | (with_reducible first | exact HB.out | apply below_alloc | apply pw_below_drewN | apply below_drew1) | exact HB.out)⟩⟩
                                          · rw [if_neg c44] at H
                                            have c44b0 : (t295 == (wrap64 (t291 + (wrap64 ((1 + ((l1.length : Int) % 7)) * x23_2))))) = false := beq_eq_false_iff_ne.mpr c44
                                            have c44b1 : (t295 != (wrap64 (t291 + (wrap64 ((1 + ((l1.length : Int) % 7)) * x23_2))))) = true := bne_iff_ne.mpr c44
                                            exact absurd (Option.some.inj H) (by rw [HR_.out]; decide)
                                        · replace c43 := Bool.eq_false_iff.mpr c43
                                          subst c43
                                          have H1 : (some false) = some r := by rw [if_neg (show ¬ (false = true) by decide)] at H; exact H
                                          clear H
                                          have H := H1
                                          clear H1
                                          exact absurd (Option.some.inj H) (by rw [HR_.out]; decide)
                                      · rw [if_neg c42] at H
                                        have c42b0 : (t293.toList == t282.toList) = false := beq_eq_false_iff_ne.mpr c42
                                        have c42b1 : (t293.toList != t282.toList) = true := bne_iff_ne.mpr c42
                                        exact absurd (Option.some.inj H) (by rw [HR_.out]; decide)
                                    · replace c41 := Bool.eq_false_iff.mpr c41
                                      subst c41
                                      have H1 : (some false) = some r := by rw [if_neg (show ¬ (false = true) by decide)] at H; exact H
                                      clear H
                                      have H := H1
                                      clear H1
                                      exact absurd (Option.some.inj H) (by rw [HR_.out]; decide)
                                  · replace c40 := Bool.eq_false_iff.mpr c40
                                    subst c40
                                    have H1 : (some false) = some r := by rw [if_neg (show ¬ (false = true) by decide)] at H; exact H
                                    clear H
                                    have H := H1
                                    clear H1
                                    exact absurd (Option.some.inj H) (by rw [HR_.out]; decide)
                                · rw [if_neg c39] at H
                                  have c39b0 : (t289 == x24_2) = false := beq_eq_false_iff_ne.mpr c39
                                  have c39b1 : (t289 != x24_2) = true := bne_iff_ne.mpr c39
                                  exact absurd (Option.some.inj H) (by rw [HR_.out]; decide)
                              · replace c38 := Bool.eq_false_iff.mpr c38
                                subst c38
                                have H1 : (some false) = some r := by rw [if_neg (show ¬ (false = true) by decide)] at H; exact H
                                clear H
                                have H := H1
                                clear H1
                                exact absurd (Option.some.inj H) (by rw [HR_.out]; decide)
                            · rw [if_neg c37] at H
                              have c37b0 : (t287.toList == t282.toList) = false := beq_eq_false_iff_ne.mpr c37
                              have c37b1 : (t287.toList != t282.toList) = true := bne_iff_ne.mpr c37
                              exact absurd (Option.some.inj H) (by rw [HR_.out]; decide)
                          · replace c36 := Bool.eq_false_iff.mpr c36
                            subst c36
                            have H1 : (some false) = some r := by rw [if_neg (show ¬ (false = true) by decide)] at H; exact H
                            clear H
                            have H := H1
                            clear H1
                            exact absurd (Option.some.inj H) (by rw [HR_.out]; decide)
                      · rw [if_neg c33] at H
                        exact absurd H (by simp)
            · replace c15 := Bool.eq_false_iff.mpr c15
              subst c15
              have H1 : (laws_FnParityWords.j2 kj7 l1) = some r := by rw [if_neg (show ¬ (false = true) by decide)] at H; exact H
              clear H
              have H := H1
              clear H1
              as_aux_lemma =>
                have H' := Aside0.mk H
                clear H
                go_wp2
                go_meet
                case rel => exact ⟨_, H', ⟨by have := HJ7.out; first | omega | exact Nat.le_refl _⟩, ⟨by repeat (first | (with_reducible first | exact HB.out | apply below_alloc | apply pw_below_drewN | apply below_drew1) | exact HB.out)⟩⟩
          case rest =>
            as_aux_lemma =>
            clear HC14
            try clear c1
            try clear c2
            try clear p2
            try clear c3
            try clear p3
            try clear q3
            try clear hx3
            try clear c4
            try clear p6
            try clear c8
            try clear c9
            try clear c11
            try clear c12
            try clear c12b0
            try clear c12b1
            try clear c12b2
            try clear c13
            try clear c15
            try clear c25
            try clear c27
            try clear c27b0
            try clear c28
            try clear c28b0
            try clear c29
            try clear c29b0
            try clear p30
            try clear q30
            try clear hx30
            try clear c31
            try clear c31b0
            try clear c31b1
            try clear c32
            try clear c32b0
            try clear c33
            try clear c33b0
            try clear c33b1
            try clear c35
            try clear c35b0
            try clear c36
            try clear c37
            try clear c37b0
            try clear c37b1
            try clear c38
            try clear c39
            try clear c39b0
            try clear c39b1
            try clear c40
            try clear c41
            try clear c42
            try clear c42b0
            try clear c42b1
            try clear c43
            try clear c44
            try clear c44b0
            try clear c44b1
            try clear p2
            try clear p30
            try clear p6
            try clear q30
            obtain ⟨kq, HA, HJ13, HB⟩ := hcut
            cases kq with
            | zero => exact absurd HA.out (by simp [laws_FnParityWords.j2])
            | succ kj13 =>
              have H := HA.out
              clear HA
              simp only [laws_FnParityWords.j2] at H
              replace H := Option.bind_eq_some_iff.mp H
              obtain ⟨⟨t297, t298⟩, A450, H⟩ := H
              replace H : ((impl_ParityWord.f kj13 t297 t298).bind fun bt299 => ((spec_ParityWord.f kj13 t297 t298).bind fun bt301 => ((impl_OddCount.f kj13 t297 t298).bind fun bt303 => ((spec_OddCount.f kj13 t297 t298).bind fun bt305 => ((impl_AfterShort.f kj13 t297 t298).bind fun bt307 => ((spec_AfterShort.f kj13 t297 t298).bind fun bt309 => (if (bt299.2 != bt301.2) = true then (laws_FnParityWords.j3 kj13 t297 t298 bt299.1 bt299.2 bt307.1 bt307.2 true) else (if bt299.1.toList = bt301.1.toList then (if (bt303.2 != bt305.2) = true then (laws_FnParityWords.j3 kj13 t297 t298 bt299.1 bt299.2 bt307.1 bt307.2 true) else (if bt303.1 = bt305.1 then (if (bt307.2 != bt309.2) = true then (laws_FnParityWords.j3 kj13 t297 t298 bt299.1 bt299.2 bt307.1 bt307.2 true) else (if bt307.1 = bt309.1 then (laws_FnParityWords.j3 kj13 t297 t298 bt299.1 bt299.2 bt307.1 bt307.2 (bt303.2 != bt299.2)) else (laws_FnParityWords.j3 kj13 t297 t298 bt299.1 bt299.2 bt307.1 bt307.2 true))) else (laws_FnParityWords.j3 kj13 t297 t298 bt299.1 bt299.2 bt307.1 bt307.2 true))) else (laws_FnParityWords.j3 kj13 t297 t298 bt299.1 bt299.2 bt307.1 bt307.2 true))))))))) = some r := H
              have A45 := Aside0.mk A450
              clear A450
              replace H := Option.bind_eq_some_iff.mp H
              obtain ⟨⟨t299, t300⟩, A460, H⟩ := H
              replace H : ((spec_ParityWord.f kj13 t297 t298).bind fun bt301 => ((impl_OddCount.f kj13 t297 t298).bind fun bt303 => ((spec_OddCount.f kj13 t297 t298).bind fun bt305 => ((impl_AfterShort.f kj13 t297 t298).bind fun bt307 => ((spec_AfterShort.f kj13 t297 t298).bind fun bt309 => (if (t300 != bt301.2) = true then (laws_FnParityWords.j3 kj13 t297 t298 t299 t300 bt307.1 bt307.2 true) else (if t299.toList = bt301.1.toList then (if (bt303.2 != bt305.2) = true then (laws_FnParityWords.j3 kj13 t297 t298 t299 t300 bt307.1 bt307.2 true) else (if bt303.1 = bt305.1 then (if (bt307.2 != bt309.2) = true then (laws_FnParityWords.j3 kj13 t297 t298 t299 t300 bt307.1 bt307.2 true) else (if bt307.1 = bt309.1 then (laws_FnParityWords.j3 kj13 t297 t298 t299 t300 bt307.1 bt307.2 (bt303.2 != t300)) else (laws_FnParityWords.j3 kj13 t297 t298 t299 t300 bt307.1 bt307.2 true))) else (laws_FnParityWords.j3 kj13 t297 t298 t299 t300 bt307.1 bt307.2 true))) else (laws_FnParityWords.j3 kj13 t297 t298 t299 t300 bt307.1 bt307.2 true)))))))) = some r := H
              have A46 := Aside0.mk A460
              clear A460
              replace H := Option.bind_eq_some_iff.mp H
              obtain ⟨⟨t301, t302⟩, A470, H⟩ := H
              replace H : ((impl_OddCount.f kj13 t297 t298).bind fun bt303 => ((spec_OddCount.f kj13 t297 t298).bind fun bt305 => ((impl_AfterShort.f kj13 t297 t298).bind fun bt307 => ((spec_AfterShort.f kj13 t297 t298).bind fun bt309 => (if (t300 != t302) = true then (laws_FnParityWords.j3 kj13 t297 t298 t299 t300 bt307.1 bt307.2 true) else (if t299.toList = t301.toList then (if (bt303.2 != bt305.2) = true then (laws_FnParityWords.j3 kj13 t297 t298 t299 t300 bt307.1 bt307.2 true) else (if bt303.1 = bt305.1 then (if (bt307.2 != bt309.2) = true then (laws_FnParityWords.j3 kj13 t297 t298 t299 t300 bt307.1 bt307.2 true) else (if bt307.1 = bt309.1 then (laws_FnParityWords.j3 kj13 t297 t298 t299 t300 bt307.1 bt307.2 (bt303.2 != t300)) else (laws_FnParityWords.j3 kj13 t297 t298 t299 t300 bt307.1 bt307.2 true))) else (laws_FnParityWords.j3 kj13 t297 t298 t299 t300 bt307.1 bt307.2 true))) else (laws_FnParityWords.j3 kj13 t297 t298 t299 t300 bt307.1 bt307.2 true))))))) = some r := H
              have A47 := Aside0.mk A470
              clear A470
              replace H := Option.bind_eq_some_iff.mp H
              obtain ⟨⟨t303, t304⟩, A480, H⟩ := H
              replace H : ((spec_OddCount.f kj13 t297 t298).bind fun bt305 => ((impl_AfterShort.f kj13 t297 t298).bind fun bt307 => ((spec_AfterShort.f kj13 t297 t298).bind fun bt309 => (if (t300 != t302) = true then (laws_FnParityWords.j3 kj13 t297 t298 t299 t300 bt307.1 bt307.2 true) else (if t299.toList = t301.toList then (if (t304 != bt305.2) = true then (laws_FnParityWords.j3 kj13 t297 t298 t299 t300 bt307.1 bt307.2 true) else (if t303 = bt305.1 then (if (bt307.2 != bt309.2) = true then (laws_FnParityWords.j3 kj13 t297 t298 t299 t300 bt307.1 bt307.2 true) else (if bt307.1 = bt309.1 then (laws_FnParityWords.j3 kj13 t297 t298 t299 t300 bt307.1 bt307.2 (t304 != t300)) else (laws_FnParityWords.j3 kj13 t297 t298 t299 t300 bt307.1 bt307.2 true))) else (laws_FnParityWords.j3 kj13 t297 t298 t299 t300 bt307.1 bt307.2 true))) else (laws_FnParityWords.j3 kj13 t297 t298 t299 t300 bt307.1 bt307.2 true)))))) = some r := H
              have A48 := Aside0.mk A480
              clear A480
              replace H := Option.bind_eq_some_iff.mp H
              obtain ⟨⟨t305, t306⟩, A490, H⟩ := H
              replace H : ((impl_AfterShort.f kj13 t297 t298).bind fun bt307 => ((spec_AfterShort.f kj13 t297 t298).bind fun bt309 => (if (t300 != t302) = true then (laws_FnParityWords.j3 kj13 t297 t298 t299 t300 bt307.1 bt307.2 true) else (if t299.toList = t301.toList then (if (t304 != t306) = true then (laws_FnParityWords.j3 kj13 t297 t298 t299 t300 bt307.1 bt307.2 true) else (if t303 = t305 then (if (bt307.2 != bt309.2) = true then (laws_FnParityWords.j3 kj13 t297 t298 t299 t300 bt307.1 bt307.2 true) else (if bt307.1 = bt309.1 then (laws_FnParityWords.j3 kj13 t297 t298 t299 t300 bt307.1 bt307.2 (t304 != t300)) else (laws_FnParityWords.j3 kj13 t297 t298 t299 t300 bt307.1 bt307.2 true))) else (laws_FnParityWords.j3 kj13 t297 t298 t299 t300 bt307.1 bt307.2 true))) else (laws_FnParityWords.j3 kj13 t297 t298 t299 t300 bt307.1 bt307.2 true))))) = some r := H
              have A49 := Aside0.mk A490
              clear A490
              replace H := Option.bind_eq_some_iff.mp H
              obtain ⟨⟨t307, t308⟩, A500, H⟩ := H
              replace H : ((spec_AfterShort.f kj13 t297 t298).bind fun bt309 => (if (t300 != t302) = true then (laws_FnParityWords.j3 kj13 t297 t298 t299 t300 t307 t308 true) else (if t299.toList = t301.toList then (if (t304 != t306) = true then (laws_FnParityWords.j3 kj13 t297 t298 t299 t300 t307 t308 true) else (if t303 = t305 then (if (t308 != bt309.2) = true then (laws_FnParityWords.j3 kj13 t297 t298 t299 t300 t307 t308 true) else (if t307 = bt309.1 then (laws_FnParityWords.j3 kj13 t297 t298 t299 t300 t307 t308 (t304 != t300)) else (laws_FnParityWords.j3 kj13 t297 t298 t299 t300 t307 t308 true))) else (laws_FnParityWords.j3 kj13 t297 t298 t299 t300 t307 t308 true))) else (laws_FnParityWords.j3 kj13 t297 t298 t299 t300 t307 t308 true)))) = some r := H
              have A50 := Aside0.mk A500
              clear A500
              replace H := Option.bind_eq_some_iff.mp H
              obtain ⟨⟨t309, t310⟩, A510, H⟩ := H
              replace H : (if (t300 != t302) = true then (laws_FnParityWords.j3 kj13 t297 t298 t299 t300 t307 t308 true) else (if t299.toList = t301.toList then (if (t304 != t306) = true then (laws_FnParityWords.j3 kj13 t297 t298 t299 t300 t307 t308 true) else (if t303 = t305 then (if (t308 != t310) = true then (laws_FnParityWords.j3 kj13 t297 t298 t299 t300 t307 t308 true) else (if t307 = t309 then (laws_FnParityWords.j3 kj13 t297 t298 t299 t300 t307 t308 (t304 != t300)) else (laws_FnParityWords.j3 kj13 t297 t298 t299 t300 t307 t308 true))) else (laws_FnParityWords.j3 kj13 t297 t298 t299 t300 t307 t308 true))) else (laws_FnParityWords.j3 kj13 t297 t298 t299 t300 t307 t308 true))) = some r := H
              have A51 := Aside0.mk A510
              clear A510
              have HC52 := Aside0.mk H
              clear H
              go_upto_region 33 with (first | ((with_reducible refine gate_callee (f := 94) rfl ?_); refine goesL_ (some 178) rfl rfl Try.func94 (by kernel_rfl) rfl #[.slice A1 l1.length c1] rfl (by (try simp only [List.map_toArray, List.map_cons, List.map_nil]); first | done | rfl | (simp only [List.length_drop, List.length_take]; rfl)) ?_; (with_reducible refine (spec_DrawParityWord.calls kj13 _ _ l1 t297 t298 _ ?side1 ?side2 A45.out).mono ?_); (case side1 => repeat (first | exact (Kd.C_below HR1.out HB.out) | (with_reducible refine Kd.C_alloc ?_ _) | (with_reducible refine Kd.C_drewN ?_ _) | (with_reducible refine Kd.C_drew ?_))); (case side2 => exact HC1.out); rintro e w53 ⟨rfl, hb⟩; refine ⟨_, rfl, ?_⟩; have n0_ := Aside0.mk (below_step (by repeat (first | (with_reducible first | exact HB.out | apply below_alloc | apply pw_below_drewN | apply below_drew1) | exact HB.out)) hb); clear HB; have HB := n0_; clear n0_; (try clear hb); (try clear hb2); (try clear hk); (try clear hi)) | ((with_reducible refine gate_callee (f := 91) rfl ?_); refine goesL_ (some 184) rfl rfl Try.func91 (by kernel_rfl) rfl #[.int .i64 t297, .int .i64 t298] rfl (by (try simp only [List.map_toArray, List.map_cons, List.map_nil]); first | done | rfl | (simp only [List.length_drop, List.length_take]; rfl)) ?_; (with_reducible refine (impl_ParityWord.calls kj13 t297 t298 t299 t300 _ A46.out).mono ?_); rintro e w54 ⟨rfl, hb⟩; refine ⟨_, rfl, ?_⟩; have n0_ := Aside0.mk (below_step (by repeat (first | (with_reducible first | exact HB.out | apply below_alloc | apply pw_below_drewN | apply below_drew1) | exact HB.out)) hb); clear HB; have HB := n0_; clear n0_; (try clear hb); (try clear hb2); (try clear hk); (try clear hi)) | ((with_reducible refine gate_callee (f := 95) rfl ?_); refine goesL_ (some 190) rfl rfl Try.func95 (by kernel_rfl) rfl #[.int .i64 t297, .int .i64 t298] rfl (by (try simp only [List.map_toArray, List.map_cons, List.map_nil]); first | done | rfl | (simp only [List.length_drop, List.length_take]; rfl)) ?_; (with_reducible refine (spec_ParityWord.calls kj13 t297 t298 t301 t302 _ A47.out).mono ?_); rintro e w55 ⟨rfl, hb⟩; refine ⟨_, rfl, ?_⟩; have n0_ := Aside0.mk (below_step (by repeat (first | (with_reducible first | exact HB.out | apply below_alloc | apply pw_below_drewN | apply below_drew1) | exact HB.out)) hb); clear HB; have HB := n0_; clear n0_; (try clear hb); (try clear hb2); (try clear hk); (try clear hi)) | ((with_reducible refine gate_callee (f := 92) rfl ?_); refine goesL_ (some 196) rfl rfl Try.func92 (by kernel_rfl) rfl #[.int .i64 t297, .int .i64 t298] rfl (by (try simp only [List.map_toArray, List.map_cons, List.map_nil]); first | done | rfl | (simp only [List.length_drop, List.length_take]; rfl)) ?_; (with_reducible refine (impl_OddCount.calls kj13 t297 t298 t303 t304 _ A48.out).mono ?_); rintro e w56 ⟨rfl, hb⟩; refine ⟨_, rfl, ?_⟩; have n0_ := Aside0.mk (below_step (by repeat (first | (with_reducible first | exact HB.out | apply below_alloc | apply pw_below_drewN | apply below_drew1) | exact HB.out)) hb); clear HB; have HB := n0_; clear n0_; (try clear hb); (try clear hb2); (try clear hk); (try clear hi)) | ((with_reducible refine gate_callee (f := 96) rfl ?_); refine goesL_ (some 202) rfl rfl Try.func96 (by kernel_rfl) rfl #[.int .i64 t297, .int .i64 t298] rfl (by (try simp only [List.map_toArray, List.map_cons, List.map_nil]); first | done | rfl | (simp only [List.length_drop, List.length_take]; rfl)) ?_; (with_reducible refine (spec_OddCount.calls kj13 t297 t298 t305 t306 _ A49.out).mono ?_); rintro e w57 ⟨rfl, hb⟩; refine ⟨_, rfl, ?_⟩; have n0_ := Aside0.mk (below_step (by repeat (first | (with_reducible first | exact HB.out | apply below_alloc | apply pw_below_drewN | apply below_drew1) | exact HB.out)) hb); clear HB; have HB := n0_; clear n0_; (try clear hb); (try clear hb2); (try clear hk); (try clear hi)) | ((with_reducible refine gate_callee (f := 93) rfl ?_); refine goesL_ (some 208) rfl rfl Try.func93 (by kernel_rfl) rfl #[.int .i64 t297, .int .i64 t298] rfl (by (try simp only [List.map_toArray, List.map_cons, List.map_nil]); first | done | rfl | (simp only [List.length_drop, List.length_take]; rfl)) ?_; (with_reducible refine (impl_AfterShort.calls kj13 t297 t298 t307 t308 _ A50.out).mono ?_); rintro e w58 ⟨rfl, hb⟩; refine ⟨_, rfl, ?_⟩; have n0_ := Aside0.mk (below_step (by repeat (first | (with_reducible first | exact HB.out | apply below_alloc | apply pw_below_drewN | apply below_drew1) | exact HB.out)) hb); clear HB; have HB := n0_; clear n0_; (try clear hb); (try clear hb2); (try clear hk); (try clear hi)) | ((with_reducible refine gate_callee (f := 97) rfl ?_); refine goesL_ (some 214) rfl rfl Try.func97 (by kernel_rfl) rfl #[.int .i64 t297, .int .i64 t298] rfl (by (try simp only [List.map_toArray, List.map_cons, List.map_nil]); first | done | rfl | (simp only [List.length_drop, List.length_take]; rfl)) ?_; (with_reducible refine (spec_AfterShort.calls kj13 t297 t298 t309 t310 _ A51.out).mono ?_); rintro e w59 ⟨rfl, hb⟩; refine ⟨_, rfl, ?_⟩; have n0_ := Aside0.mk (below_step (by repeat (first | (with_reducible first | exact HB.out | apply below_alloc | apply pw_below_drewN | apply below_drew1) | exact HB.out)) hb); clear HB; have HB := n0_; clear n0_; (try clear hb); (try clear hb2); (try clear hk); (try clear hi)))
              (try simp only [Act.put, List.setIfInBounds_toArray, List.set_cons_zero, List.set_cons_succ])
              go_cut [249] (fun v249 wc => ∃ (kq : Nat) (x249_51 : Bool), v249 = .bool x249_51 ∧ Aside0 (laws_FnParityWords.j3 kq t297 t298 t299 t300 t307 t308 x249_51 = some r) ∧ Aside0 (kq ≤ kj13) ∧ Aside0 (Below w.heap.size w wc))
              case first =>
                as_aux_lemma =>
                have H := HC52.out
                clear HC52
                by_cases c60 : (t300 != t302) = true
                · rw [if_pos c60] at H
                  have c60b0 : (t300 != t302) = true := c60
                  (try (have c60b1 : decide (t300 = t302) = false := by simpa using c60))
                  (try (have c60b2 : (t300 == t302) = false := by simpa using c60))
                  (try (have c60b3 : ¬ (t300 = t302) := by simpa using c60))
                  clear c60
                  (first | rw [c60b0] | (simp only [i64_w, i32_w]; rw [c60b0]) | skip)
                  exact (laws_FnParityWords.j3_no HR_.out _ _ _ _ _ _ _ H).elim
                · rw [if_neg c60] at H
                  have c60b0 : (t300 != t302) = false := by simpa using c60
                  (try (have c60b1 : decide (t300 = t302) = true := by simpa using c60))
                  (try (have c60b2 : (t300 == t302) = true := by simpa using c60))
                  clear c60
                  (first | rw [c60b0] | (simp only [i64_w, i32_w]; rw [c60b0]) | skip)
                  by_cases c61 : t299.toList = t301.toList
                  · rw [if_pos c61] at H
                    have c61b0 : (t299.toList == t301.toList) = true := beq_iff_eq.mpr c61
                    have c61b1 : (t299.toList != t301.toList) = false := bne_eq_false_iff_eq.mpr c61
                    clear c61
                    by_cases c62 : (t304 != t306) = true
                    · rw [if_pos c62] at H
                      have c62b0 : (t304 != t306) = true := c62
                      (try (have c62b1 : decide (t304 = t306) = false := by simpa using c62))
                      (try (have c62b2 : (t304 == t306) = false := by simpa using c62))
                      (try (have c62b3 : ¬ (t304 = t306) := by simpa using c62))
                      clear c62
                      exact (laws_FnParityWords.j3_no HR_.out _ _ _ _ _ _ _ H).elim
                    · rw [if_neg c62] at H
                      have c62b0 : (t304 != t306) = false := by simpa using c62
                      (try (have c62b1 : decide (t304 = t306) = true := by simpa using c62))
                      (try (have c62b2 : (t304 == t306) = true := by simpa using c62))
                      clear c62
                      by_cases c63 : t303 = t305
                      · rw [if_pos c63] at H
                        have c63b0 : (t303 == t305) = true := beq_iff_eq.mpr c63
                        have c63b1 : (t303 != t305) = false := bne_eq_false_iff_eq.mpr c63
                        clear c63
                        by_cases c64 : (t308 != t310) = true
                        · rw [if_pos c64] at H
                          have c64b0 : (t308 != t310) = true := c64
                          (try (have c64b1 : decide (t308 = t310) = false := by simpa using c64))
                          (try (have c64b2 : (t308 == t310) = false := by simpa using c64))
                          (try (have c64b3 : ¬ (t308 = t310) := by simpa using c64))
                          clear c64
                          exact (laws_FnParityWords.j3_no HR_.out _ _ _ _ _ _ _ H).elim
                        · rw [if_neg c64] at H
                          have c64b0 : (t308 != t310) = false := by simpa using c64
                          (try (have c64b1 : decide (t308 = t310) = true := by simpa using c64))
                          (try (have c64b2 : (t308 == t310) = true := by simpa using c64))
                          clear c64
                          by_cases c65 : t307 = t309
                          · rw [if_pos c65] at H
                            have c65b0 : (t307 == t309) = true := beq_iff_eq.mpr c65
                            have c65b1 : (t307 != t309) = false := bne_eq_false_iff_eq.mpr c65
                            clear c65
                            as_aux_lemma =>
                              have H' := Aside0.mk H
                              clear H
                              go_wp2
                              go_meet
                              case rel => exact ⟨_, ((t304 != t300)), (by first | rfl | (simp; done) | (simp [*]; done)), H', ⟨by have := HJ7.out; have := HJ13.out; first | omega | exact Nat.le_refl _⟩, ⟨by repeat (first | (with_reducible first | exact HB.out | apply below_alloc | apply pw_below_drewN | apply below_drew1) | exact HB.out)⟩⟩
                          · rw [if_neg c65] at H
                            have c65b0 : (t307 == t309) = false := beq_eq_false_iff_ne.mpr c65
                            have c65b1 : (t307 != t309) = true := bne_iff_ne.mpr c65
                            exact (laws_FnParityWords.j3_no HR_.out _ _ _ _ _ _ _ H).elim
                      · rw [if_neg c63] at H
                        have c63b0 : (t303 == t305) = false := beq_eq_false_iff_ne.mpr c63
                        have c63b1 : (t303 != t305) = true := bne_iff_ne.mpr c63
                        exact (laws_FnParityWords.j3_no HR_.out _ _ _ _ _ _ _ H).elim
                  · rw [if_neg c61] at H
                    have c61b0 : (t299.toList == t301.toList) = false := beq_eq_false_iff_ne.mpr c61
                    have c61b1 : (t299.toList != t301.toList) = true := bne_iff_ne.mpr c61
                    exact (laws_FnParityWords.j3_no HR_.out _ _ _ _ _ _ _ H).elim
              case rest =>
                as_aux_lemma =>
                clear HC52
                try clear c1
                try clear c2
                try clear p2
                try clear c3
                try clear p3
                try clear q3
                try clear hx3
                try clear c4
                try clear c6
                try clear p6
                try clear c8
                try clear c9
                try clear c11
                try clear c12
                try clear c12b0
                try clear c12b1
                try clear c12b2
                try clear c13
                try clear c15
                try clear c25
                try clear c27
                try clear c27b0
                try clear c28
                try clear c28b0
                try clear c29
                try clear c29b0
                try clear p30
                try clear q30
                try clear hx30
                try clear c31
                try clear c31b0
                try clear c31b1
                try clear c32
                try clear c32b0
                try clear c33
                try clear c33b0
                try clear c33b1
                try clear c35
                try clear c35b0
                try clear c36
                try clear c37
                try clear c37b0
                try clear c37b1
                try clear c38
                try clear c39
                try clear c39b0
                try clear c39b1
                try clear c40
                try clear c41
                try clear c42
                try clear c42b0
                try clear c42b1
                try clear c43
                try clear c44
                try clear c44b0
                try clear c44b1
                try clear c60
                try clear c60b0
                try clear c60b1
                try clear c60b2
                try clear c61
                try clear c61b0
                try clear c61b1
                try clear c62
                try clear c62b0
                try clear c62b1
                try clear c62b2
                try clear c63
                try clear c63b0
                try clear c63b1
                try clear c64
                try clear c64b0
                try clear c64b1
                try clear c64b2
                try clear p64
                try clear c65
                try clear c65b0
                try clear c65b1
                try clear p2
                try clear p3
                try clear p30
                try clear p6
                try clear q3
                try clear q30
                obtain ⟨kq, x249_51, rfl, HA, HJ51, HB⟩ := hcut
                cases kq with
                | zero => exact absurd HA.out (by simp [laws_FnParityWords.j3])
                | succ kj51 =>
                  have H := HA.out
                  clear HA
                  simp only [laws_FnParityWords.j3] at H
                  by_cases c66 : x249_51 = true
                  · subst c66
                    have H1 : (some false) = some r := by rw [if_pos rfl] at H; exact H
                    clear H
                    have H := H1
                    clear H1
                    exact absurd (Option.some.inj H) (by rw [HR_.out]; decide)
                  · replace c66 := Bool.eq_false_iff.mpr c66
                    subst c66
                    have H1 : (if t300 = true then ((impl_NumberOfWord.f kj51 t299).bind fun bt311 => (if bt311.2 = true then (if 0 ≤ t298 then (if (shl .i64 1 t298) = 0 then (none) else (laws_FnParityWords.j4 kj51 t297 t298 t299 t307 t308 ((Int.tmod (wrap64 (t297 - bt311.1)) (shl .i64 1 t298)) != 0))) else (none)) else (laws_FnParityWords.j4 kj51 t297 t298 t299 t307 t308 true))) else (some true)) = some r := by rw [if_neg (show ¬ (false = true) by decide)] at H; exact H
                    clear H
                    have H := H1
                    clear H1
                    by_cases c67 : t300 = true
                    · subst c67
                      have H1 : ((impl_NumberOfWord.f kj51 t299).bind fun bt311 => (if bt311.2 = true then (if 0 ≤ t298 then (if (shl .i64 1 t298) = 0 then (none) else (laws_FnParityWords.j4 kj51 t297 t298 t299 t307 t308 ((Int.tmod (wrap64 (t297 - bt311.1)) (shl .i64 1 t298)) != 0))) else (none)) else (laws_FnParityWords.j4 kj51 t297 t298 t299 t307 t308 true))) = some r := by rw [if_pos rfl] at H; exact H
                      clear H
                      have H := H1
                      clear H1
                      replace H := Option.bind_eq_some_iff.mp H
                      obtain ⟨⟨t311, t312⟩, A680, H⟩ := H
                      replace H : (if t312 = true then (if 0 ≤ t298 then (if (shl .i64 1 t298) = 0 then (none) else (laws_FnParityWords.j4 kj51 t297 t298 t299 t307 t308 ((Int.tmod (wrap64 (t297 - t311)) (shl .i64 1 t298)) != 0))) else (none)) else (laws_FnParityWords.j4 kj51 t297 t298 t299 t307 t308 true)) = some r := H
                      have A68 := Aside0.mk A680
                      clear A680
                      have HC69 := Aside0.mk H
                      clear H
                      go_upto_region 37 with (first | ((with_reducible refine gate_callee (f := 89) rfl ?_); refine goesL_ (some 253) rfl rfl Try.func89 (by kernel_rfl) rfl #[.string t299] rfl (by (try simp only [List.map_toArray, List.map_cons, List.map_nil]); first | done | rfl | (simp only [List.length_drop, List.length_take]; rfl)) ?_; (with_reducible refine (impl_NumberOfWord.calls kj51 t299 t311 t312 _ A68.out).mono ?_); rintro e w70 ⟨rfl, hb⟩; refine ⟨_, rfl, ?_⟩; have n0_ := Aside0.mk (below_step (by repeat (first | (with_reducible first | exact HB.out | apply below_alloc | apply pw_below_drewN | apply below_drew1) | exact HB.out)) hb); clear HB; have HB := n0_; clear n0_; (try clear hb); (try clear hb2); (try clear hk); (try clear hi)))
                      (try simp only [Act.put, List.setIfInBounds_toArray, List.set_cons_zero, List.set_cons_succ])
                      go_cut [266] (fun v266 wc => ∃ (kq : Nat) (x266_68 : Bool), v266 = .bool x266_68 ∧ Aside0 (laws_FnParityWords.j4 kq t297 t298 t299 t307 t308 x266_68 = some r) ∧ Aside0 (kq ≤ kj51) ∧ Aside0 (Below w.heap.size w wc))
                      case first =>
                        as_aux_lemma =>
                        have H := HC69.out
                        clear HC69
                        by_cases c71 : t312 = true
                        · subst c71
                          have H1 : (if 0 ≤ t298 then (if (shl .i64 1 t298) = 0 then (none) else (laws_FnParityWords.j4 kj51 t297 t298 t299 t307 t308 ((Int.tmod (wrap64 (t297 - t311)) (shl .i64 1 t298)) != 0))) else (none)) = some r := by rw [if_pos rfl] at H; exact H
                          clear H
                          have H := H1
                          clear H1
                          by_cases c72 : 0 ≤ t298
                          · rw [if_pos c72] at H
                            have c72b0 := eq_true c72
                            have c72b1 : decide (0 ≤ t298) = true := decide_eq_true c72
                            clear c72
                            obtain ⟨ji73, hji73⟩ : ∃ j_ : Int, (shl .i64 1 t298) = j_ := ⟨_, rfl⟩
                            replace H : (if (ji73) = 0 then (none) else (laws_FnParityWords.j4 kj51 t297 t298 t299 t307 t308 ((Int.tmod (wrap64 (t297 - t311)) (ji73)) != 0))) = some r := by first | (rw [hji73] at H; exact H) | (simp only [hji73] at H ⊢; exact H)
                            have hji73_ : (IntKind.i64.wrap (1 * 2 ^ min t298.toNat 64)) = ji73 := hji73
                            have hji73z : t298 ≤ 64 → (IntKind.i64.wrap (1 * 2 ^ t298.toNat)) = ji73 := shl_small hji73
                            have hji73u : (IntKind.i64.wrap (2 ^ min t298.toNat 64)) = ji73 := by have h_ := hji73_; rw [Int.one_mul] at h_; exact h_
                            have hji73v : t298 ≤ 64 → (IntKind.i64.wrap (2 ^ t298.toNat)) = ji73 := fun hle_ => by have h_ := hji73z hle_; rw [Int.one_mul] at h_; exact h_
                            have hji73y : (wrap64 (1 * 2 ^ min t298.toNat 64)) = ji73 := (i64_w _).symm.trans hji73_
                            have hji73w : (wrap64 (1 * 2 ^ min t298.toNat 64)) = ji73 := hji73y
                            have hji73x : t298 ≤ 64 → (wrap64 (1 * 2 ^ t298.toNat)) = ji73 := fun h_ => (i64_w _).symm.trans (hji73z h_)
                            by_cases c74 : (ji73) = 0
                            · rw [if_pos c74] at H
                              exact absurd H (by simp)
                            · rw [if_neg c74] at H
                              have c74b0 : ((ji73) == 0) = false := beq_eq_false_iff_ne.mpr c74
                              have c74b1 : ((ji73) != 0) = true := bne_iff_ne.mpr c74
                              (first | rw [c74b0] | (simp only [i64_w, i32_w]; rw [c74b0]) | skip)
                              as_aux_lemma =>
                                have H' := Aside0.mk H
                                clear H
                                go_wp2
                                go_meet
                                case rel => exact ⟨_, (((Int.tmod (wrap64 (t297 - t311)) (ji73)) != 0)), (by first | rfl | (simp; done) | (simp only [← hji73] <;> (first | rfl | simp)) | (simp [*]; done)), H', ⟨by have := HJ7.out; have := HJ13.out; have := HJ51.out; first | omega | exact Nat.le_refl _⟩, ⟨by repeat (first | (with_reducible first | exact HB.out | apply below_alloc | apply pw_below_drewN | apply below_drew1) | exact HB.out)⟩⟩
                          · rw [if_neg c72] at H
                            exact absurd H (by simp)
                        · replace c71 := Bool.eq_false_iff.mpr c71
                          subst c71
                          have H1 : (laws_FnParityWords.j4 kj51 t297 t298 t299 t307 t308 true) = some r := by rw [if_neg (show ¬ (false = true) by decide)] at H; exact H
                          clear H
                          have H := H1
                          clear H1
                          exact (laws_FnParityWords.j4_no HR_.out _ _ _ _ _ _ H).elim
                      case rest =>
                        as_aux_lemma =>
                        clear HC69
                        try clear c1
                        try clear c2
                        try clear p2
                        try clear c3
                        try clear p3
                        try clear q3
                        try clear hx3
                        try clear c4
                        try clear c6
                        try clear p6
                        try clear c7
                        try clear c8
                        try clear c9
                        try clear c11
                        try clear c12
                        try clear c12b0
                        try clear c12b1
                        try clear c12b2
                        try clear c13
                        try clear c15
                        try clear c25
                        try clear c27
                        try clear c27b0
                        try clear c28
                        try clear c28b0
                        try clear c29
                        try clear c29b0
                        try clear p30
                        try clear q30
                        try clear hx30
                        try clear c31
                        try clear c31b0
                        try clear c31b1
                        try clear c32
                        try clear c32b0
                        try clear c33
                        try clear c33b0
                        try clear c33b1
                        try clear c35
                        try clear c35b0
                        try clear c36
                        try clear c37
                        try clear c37b0
                        try clear c37b1
                        try clear c38
                        try clear c39
                        try clear c39b0
                        try clear c39b1
                        try clear c40
                        try clear c41
                        try clear c42
                        try clear c42b0
                        try clear c42b1
                        try clear c43
                        try clear c44
                        try clear c44b0
                        try clear c44b1
                        try clear c60
                        try clear c60b0
                        try clear c60b1
                        try clear c60b2
                        try clear c61
                        try clear c61b0
                        try clear c61b1
                        try clear c62
                        try clear c62b0
                        try clear c62b1
                        try clear c62b2
                        try clear c63
                        try clear c63b0
                        try clear c63b1
                        try clear c64
                        try clear c64b0
                        try clear c64b1
                        try clear c64b2
                        try clear p64
                        try clear c65
                        try clear c65b0
                        try clear c65b1
                        try clear c66
                        try clear c67
                        try clear c71
                        try clear c72
                        try clear c72b0
                        try clear c72b1
                        try clear c74
                        try clear c74b0
                        try clear c74b1
                        try clear p2
                        try clear p3
                        try clear p30
                        try clear p6
                        try clear p64
                        try clear q3
                        try clear q30
                        obtain ⟨kq, x266_68, rfl, HA, HJ68, HB⟩ := hcut
                        cases kq with
                        | zero => exact absurd HA.out (by simp [laws_FnParityWords.j4])
                        | succ kj68 =>
                          have H := HA.out
                          clear HA
                          simp only [laws_FnParityWords.j4] at H
                          by_cases c75 : x266_68 = true
                          · subst c75
                            have H1 : (some false) = some r := by rw [if_pos rfl] at H; exact H
                            clear H
                            have H := H1
                            clear H1
                            exact absurd (Option.some.inj H) (by rw [HR_.out]; decide)
                          · replace c75 := Bool.eq_false_iff.mpr c75
                            subst c75
                            have H1 : (laws_FnParityWords.l1 kj68 t298 t299 t307 t308 t297 0) = some r := by rw [if_neg (show ¬ (false = true) by decide)] at H; exact H
                            clear H
                            have H := H1
                            clear H1
                            have H' := Aside0.mk H
                            clear H
                            go_wp2
                            go_loopg [42, 43] kj68 (fun kq v42 v43 w' => ∃ (x42_5 : Int) (x43_5 : Int), v42 = .int .i64 x42_5 ∧ v43 = .int .i64 x43_5 ∧ Aside0 (laws_FnParityWords.l1 kq t298 t299 t307 t308 x42_5 x43_5 = some r) ∧ Aside0 (kq ≤ kj68) ∧ Aside0 (Below w.heap.size w w'))
                            case atStart => exact ⟨(t297), (0), (by first | rfl | (simp; done) | (simp [*]; done)), (by first | rfl | (simp; done) | (simp [*]; done)), H', ⟨Nat.le_refl _⟩, ⟨by repeat (first | (with_reducible first | exact HB.out | apply below_alloc | apply pw_below_drewN | apply below_drew1) | exact HB.out)⟩⟩
                            case round =>
                              as_aux_lemma =>
                              clear H'
                              try clear c1
                              try clear c2
                              try clear p2
                              try clear c3
                              try clear p3
                              try clear q3
                              try clear hx3
                              try clear c4
                              try clear c6
                              try clear p6
                              try clear c7
                              try clear c8
                              try clear c9
                              try clear c11
                              try clear c12
                              try clear c12b0
                              try clear c12b1
                              try clear c12b2
                              try clear c13
                              try clear c15
                              try clear c25
                              try clear c27
                              try clear c27b0
                              try clear c28
                              try clear c28b0
                              try clear c29
                              try clear c29b0
                              try clear p30
                              try clear q30
                              try clear hx30
                              try clear c31
                              try clear c31b0
                              try clear c31b1
                              try clear c32
                              try clear c32b0
                              try clear c33
                              try clear c33b0
                              try clear c33b1
                              try clear c35
                              try clear c35b0
                              try clear c36
                              try clear c37
                              try clear c37b0
                              try clear c37b1
                              try clear c38
                              try clear c39
                              try clear c39b0
                              try clear c39b1
                              try clear c40
                              try clear c41
                              try clear c42
                              try clear c42b0
                              try clear c42b1
                              try clear c43
                              try clear c44
                              try clear c44b0
                              try clear c44b1
                              try clear c60
                              try clear c60b0
                              try clear c60b1
                              try clear c60b2
                              try clear c61
                              try clear c61b0
                              try clear c61b1
                              try clear c62
                              try clear c62b0
                              try clear c62b1
                              try clear c62b2
                              try clear c63
                              try clear c63b0
                              try clear c63b1
                              try clear c64
                              try clear c64b0
                              try clear c64b1
                              try clear c64b2
                              try clear p64
                              try clear c65
                              try clear c65b0
                              try clear c65b1
                              try clear c66
                              try clear c67
                              try clear c71
                              try clear c72
                              try clear c72b0
                              try clear c72b1
                              try clear c74
                              try clear c74b0
                              try clear c74b1
                              try clear c75
                              try clear p2
                              try clear p3
                              try clear p30
                              try clear p6
                              try clear p64
                              try clear q3
                              try clear q30
                              obtain ⟨x42_5, x43_5, rfl, rfl, HA, HK5, HB⟩ := hrel
                              cases gk with
                              | zero => exact absurd HA.out (by simp [laws_FnParityWords.l1])
                              | succ k5 =>
                                have H := HA.out
                                clear HA
                                simp only [laws_FnParityWords.l1] at H
                                by_cases c76 : x43_5 < t298
                                · rw [if_pos c76] at H
                                  have c76b0 : decide (x43_5 < t298) = true := decide_eq_true c76
                                  clear c76
                                  by_cases c77 : 0 ≤ x43_5
                                  · rw [if_pos c77] at H
                                    have c77b0 : decide (0 ≤ x43_5) = true := decide_eq_true c77
                                    clear c77
                                    by_cases c78 : x43_5 < (t299.size : Int)
                                    · rw [if_pos c78] at H
                                      have c78b0 : decide (x43_5 < (t299.size : Int)) = true := decide_eq_true c78
                                      clear c78
                                      by_cases c80 : (((bt t299 x43_5) == 49) != ((Int.tmod x42_5 2) == 1)) = true
                                      · rw [if_pos c80] at H
                                        have c80b0 : (((bt t299 x43_5) == 49) != ((Int.tmod x42_5 2) == 1)) = true := c80
                                        (try (have c80b1 : decide (((bt t299 x43_5) == 49) = ((Int.tmod x42_5 2) == 1)) = false := by simpa using c80))
                                        (try (have c80b2 : (((bt t299 x43_5) == 49) == ((Int.tmod x42_5 2) == 1)) = false := by simpa using c80))
                                        (try (have c80b3 : ¬ (((bt t299 x43_5) == 49) = ((Int.tmod x42_5 2) == 1)) := by simpa using c80))
                                        clear c80
                                        exact absurd (Option.some.inj H) (by rw [HR_.out]; decide)
                                      · rw [if_neg c80] at H
                                        have c80b0 : (((bt t299 x43_5) == 49) != ((Int.tmod x42_5 2) == 1)) = false := by simpa using c80
                                        (try (have c80b1 : decide (((bt t299 x43_5) == 49) = ((Int.tmod x42_5 2) == 1)) = true := by simpa using c80))
                                        (try (have c80b2 : (((bt t299 x43_5) == 49) == ((Int.tmod x42_5 2) == 1)) = true := by simpa using c80))
                                        clear c80
                                        replace H := Option.bind_eq_some_iff.mp H
                                        obtain ⟨⟨t313, t314⟩, A810, H⟩ := H
                                        replace H : (if t314 = true then (laws_FnParityWords.l1 k5 t298 t299 t307 t308 t313 (wrap64 (x43_5 + 1))) else (if x43_5 = (wrap64 (t298 - 1)) then (some (!t308)) else (some false))) = some r := H
                                        have A81 := Aside0.mk A810
                                        clear A810
                                        by_cases c82 : t314 = true
                                        · subst c82
                                          have H1 : (laws_FnParityWords.l1 k5 t298 t299 t307 t308 t313 (wrap64 (x43_5 + 1))) = some r := by rw [if_pos rfl] at H; exact H
                                          clear H
                                          have H := H1
                                          clear H1
                                          as_aux_lemma =>
                                            have H' := Aside0.mk H
                                            clear H
                                            have p79 : 0 ≤ (x43_5 : Int) := of_decide_eq_true (by first | (with_reducible assumption) | assumption)
                                            have q79 : x43_5 < (t299.size : Int) := of_decide_eq_true (by first | (with_reducible assumption) | assumption)
                                            have hx79 := bt_at t299 x43_5
                                            replace p79 := eq_true p79
                                            replace q79 := eq_true q79
                                            go_wp2_with (first | ((with_reducible refine gate_callee (f := 98) rfl ?_); refine goesL_ (some 283) rfl rfl Try.func98 (by kernel_rfl) rfl #[.int .i64 x42_5] rfl (by (try simp only [List.map_toArray, List.map_cons, List.map_nil]); first | done | rfl | (simp only [List.length_drop, List.length_take]; rfl)) ?_; (with_reducible refine (impl_ShortStep.calls x42_5 t313 true _ A81.out).mono ?_); rintro e w' ⟨rfl, ⟨nd, rfl⟩⟩; refine ⟨_, rfl, ?_⟩))
                                            go_roundg k5
                                            case measure => have := HJ7.out; have := HJ13.out; have := HJ51.out; have := HJ68.out; have := HK5.out; omega
                                            case rel => exact ⟨(t313), (wrap64 (x43_5 + 1)), (by first | rfl | (simp; done) | (simp [*]; done)), (by first | rfl | (simp; done) | (simp [*]; done)), H', ⟨by have := HJ7.out; have := HJ13.out; have := HJ51.out; have := HJ68.out; have := HK5.out; omega⟩, ⟨by repeat (first | (with_reducible first | exact HB.out | apply below_alloc | apply pw_below_drewN | apply below_drew1) | exact HB.out)⟩⟩
                                        · replace c82 := Bool.eq_false_iff.mpr c82
                                          subst c82
                                          have H1 : (if x43_5 = (wrap64 (t298 - 1)) then (some (!t308)) else (some false)) = some r := by rw [if_neg (show ¬ (false = true) by decide)] at H; exact H
                                          clear H
                                          have H := H1
                                          clear H1
                                          by_cases c83 : x43_5 = (wrap64 (t298 - 1))
                                          · rw [if_pos c83] at H
                                            have c83b0 : (x43_5 == (wrap64 (t298 - 1))) = true := beq_iff_eq.mpr c83
                                            have c83b1 : (x43_5 != (wrap64 (t298 - 1))) = false := bne_eq_false_iff_eq.mpr c83
                                            clear c83
                                            as_aux_lemma =>
                                              obtain rfl := Option.some.inj H
                                              have p79 : 0 ≤ (x43_5 : Int) := of_decide_eq_true (by first | (with_reducible assumption) | assumption)
                                              have q79 : x43_5 < (t299.size : Int) := of_decide_eq_true (by first | (with_reducible assumption) | assumption)
                                              have hx79 := bt_at t299 x43_5
                                              replace p79 := eq_true p79
                                              replace q79 := eq_true q79
                                              go_wp2_with (first | ((with_reducible refine gate_callee (f := 98) rfl ?_); refine goesL_ (some 283) rfl rfl Try.func98 (by kernel_rfl) rfl #[.int .i64 x42_5] rfl (by (try simp only [List.map_toArray, List.map_cons, List.map_nil]); first | done | rfl | (simp only [List.length_drop, List.length_take]; rfl)) ?_; (with_reducible refine (impl_ShortStep.calls x42_5 t313 false _ A81.out).mono ?_); rintro e w' ⟨rfl, ⟨nd, rfl⟩⟩; refine ⟨_, rfl, ?_⟩))
                                              go_ret
                                              exact ⟨by first | rfl | (simp [errW_none, errW_some] <;> rfl) | (simp [*, errW_none, errW_some] <;> rfl), by repeat (first | (with_reducible first | exact HB.out | apply below_alloc | apply pw_below_drewN | apply below_drew1) | exact HB.out)⟩
                                          · rw [if_neg c83] at H
                                            have c83b0 : (x43_5 == (wrap64 (t298 - 1))) = false := beq_eq_false_iff_ne.mpr c83
                                            have c83b1 : (x43_5 != (wrap64 (t298 - 1))) = true := bne_iff_ne.mpr c83
                                            exact absurd (Option.some.inj H) (by rw [HR_.out]; decide)
                                    · rw [if_neg c78] at H
                                      exact absurd H (by simp)
                                  · rw [if_neg c77] at H
                                    exact absurd H (by simp)
                                · rw [if_neg c76] at H
                                  have c76b0 : decide (x43_5 < t298) = false := decide_eq_false c76
                                  clear c76
                                  by_cases c84 : t308 = true
                                  · subst c84
                                    have H1 : (some (x42_5 == t307)) = some r := by rw [if_pos rfl] at H; exact H
                                    clear H
                                    have H := H1
                                    clear H1
                                    as_aux_lemma =>
                                      obtain rfl := Option.some.inj H
                                      go_wp2
                                      go_ret
                                      exact ⟨by first | rfl | (simp [errW_none, errW_some] <;> rfl) | (simp [*, errW_none, errW_some] <;> rfl), by repeat (first | (with_reducible first | exact HB.out | apply below_alloc | apply pw_below_drewN | apply below_drew1) | exact HB.out)⟩
                                  · replace c84 := Bool.eq_false_iff.mpr c84
                                    subst c84
                                    have H1 : (some true) = some r := by rw [if_neg (show ¬ (false = true) by decide)] at H; exact H
                                    clear H
                                    have H := H1
                                    clear H1
                                    as_aux_lemma =>
                                      obtain rfl := Option.some.inj H
                                      go_wp2
                                      go_ret
                                      exact ⟨by first | rfl | (simp [errW_none, errW_some] <;> rfl) | (simp [*, errW_none, errW_some] <;> rfl), by repeat (first | (with_reducible first | exact HB.out | apply below_alloc | apply pw_below_drewN | apply below_drew1) | exact HB.out)⟩
                    · replace c67 := Bool.eq_false_iff.mpr c67
                      subst c67
                      have H1 : (some true) = some r := by rw [if_neg (show ¬ (false = true) by decide)] at H; exact H
                      clear H
                      have H := H1
                      clear H1
                      as_aux_lemma =>
                        obtain rfl := Option.some.inj H
                        go_wp2
                        go_ret
                        exact ⟨by first | rfl | (simp [errW_none, errW_some] <;> rfl) | (simp [*, errW_none, errW_some] <;> rfl), by repeat (first | (with_reducible first | exact HB.out | apply below_alloc | apply pw_below_drewN | apply below_drew1) | exact HB.out)⟩

/-- THE ONE PURE STATEMENT of laws_FnParityWords: yours. -/
def laws_FnParityWords.Pure : Prop := ∀ (l0 : List Int) (l1 : List Int), l0.length ≤ maxLen → l0.length * 1 ≤ 140737488351232 → (∀ x ∈ l0, (Lit.int .u8 x).wf = true) → l1.length ≤ maxLen → l1.length * 1 ≤ 140737488351232 → (∀ x ∈ l1, (Lit.int .u8 x).wf = true) → ∃ k, laws_FnParityWords.f k l0 l1 = some true
theorem laws_FnParityWords.walk (P : laws_FnParityWords.Pure) (a0 : Option Addr) (len0 cap0 : Nat) (z0 : List Int) (a1 : Option Addr) (len1 cap1 : Nat) (z1 : List Int) (w : World) (w0 : (a0 = none ∧ len0 = 0 ∧ cap0 = 0 ∧ z0 = []) ∨ ∃ x, a0 = some x ∧ len0 ≤ cap0 ∧ cap0 ≤ maxLen ∧ z0.length = cap0 ∧ (∀ i, i < z0.length → w.cell? (x.add i) = some (.int .u8 (z0.getD i 0))) ∧ ∀ n ∈ z0, (Lit.int .u8 n).wf = true) (y0 : len0 * 1 ≤ 140737488351232) (w1 : (a1 = none ∧ len1 = 0 ∧ cap1 = 0 ∧ z1 = []) ∨ ∃ x, a1 = some x ∧ len1 ≤ cap1 ∧ cap1 ≤ maxLen ∧ z1.length = cap1 ∧ (∀ i, i < z1.length → w.cell? (x.add i) = some (.int .u8 (z1.getD i 0))) ∧ ∀ n ∈ z1, (Lit.int .u8 n).wf = true) (y1 : len1 * 1 ≤ 140737488351232) :
    Calls Try.prog 11 #[.slice a0 len0 cap0, .slice a1 len1 cap1] w fun e w' => e = .returned (.bool true) ∧ Below w.heap.size w w' := by
  obtain ⟨l0, rfl, hr0, hm0, hw0, hc0⟩ := ReadsInt.ofRowC w0
  obtain ⟨l1, rfl, hr1, hm1, hw1, hc1⟩ := ReadsInt.ofRowC w1
  obtain ⟨k, h⟩ := P l0 l1 hm0 y0 hw0 hm1 y1 hw1
  refine (laws_FnParityWords.calls k _ _ l0 _ _ l1 true w (Kd.C_of_reads (d := (0 : Int)) (h1 := fun _ => rfl) hr0) hc0 (Kd.C_of_reads (d := (0 : Int)) (h1 := fun _ => rfl) hr1) hc1 h rfl).mono ?_
  rintro e w' ⟨rfl, hd⟩
  exact ⟨rfl, hd⟩

end Go.Proofs.Ytikkpehjleoplaa.PFnParityWords
