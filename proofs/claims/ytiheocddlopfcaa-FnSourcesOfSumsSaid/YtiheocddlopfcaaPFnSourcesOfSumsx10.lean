-- out of the kit's print, turned by wip/own_print.py
import Derived.Test.YtiheocddlopfcaaPFnSourcesOfSumsx0
import Derived.Test.YtiheocddlopfcaaPFnSourcesOfSumsx1
import Derived.Test.YtiheocddlopfcaaPFnSourcesOfSumsx2
import Derived.Test.YtiheocddlopfcaaPFnSourcesOfSumsx6
import Derived.Test.YtiheocddlopfcaaPFnSourcesOfSumsx7
import Derived.Test.YtiheocddlopfcaaPFnSourcesOfSumsx9
namespace Go.Proofs.Ytiheocddlopfcaa.PFnSourcesOfSums
open Go.RowKit Go.Proofs.YtiheocddlopfcaaW.PrintWords Go.Proofs.YtiheocddlopfcaaW.PrintLast Go.Proofs.YtiheocddlopfcaaW.PrintMore
attribute [local go_sem] max2_int min2_int max_two min_two max_three min_three max_four min_four   -- for this text's walks alone
set_option linter.unusedVariables false
set_option linter.unusedSimpArgs false

/-! ### laws_FnSourcesOfSums: function 8 -/
mutual
def laws_FnSourcesOfSums.j0 : Nat → List Int → List Int → Int → List Int → Bool → Bool → Option (Bool)
 | 0, _, _, _, _, _, _ => none
 | k + 1, x1, x5, x6, x11, x12, x84 => if x84 = true then (some false) else (if x12 = true then ((impl_AddReversed.f k x11 x6).bind fun bt371 => (if bt371.2 = true then ((laws_qSame.f k bt371.1 x5).bind fun t375 => (if t375 = true then (laws_FnSourcesOfSums.j1 k x1) else (some false))) else (some false))) else (laws_FnSourcesOfSums.j1 k x1))
def laws_FnSourcesOfSums.j1 : Nat → List Int → Option (Bool)
 | 0, _ => none
 | k + 1, x1 => (spec_DrawAddReversed.f k x1).bind fun bt376 => ((impl_AddReversed.f k bt376.1 bt376.2).bind fun bt380 => (if bt380.2 = true then (if (bt380.1.length : Int) > 12 then (laws_FnSourcesOfSums.j2 k bt376.1 bt376.2 bt380.1 true) else (if 0 < (bt376.1.length : Int) then (laws_FnSourcesOfSums.j2 k bt376.1 bt376.2 bt380.1 ((rd bt376.1 0) == 0)) else (none))) else (laws_FnSourcesOfSums.j2 k bt376.1 bt376.2 bt380.1 true)))
def laws_FnSourcesOfSums.j2 : Nat → List Int → Int → List Int → Bool → Option (Bool)
 | 0, _, _, _, _ => none
 | k + 1, x17, x18, x19, x123 => if x123 = true then (some true) else ((impl_CountSources.f k x19 x18).bind fun bt385 => ((impl_FirstSource.f k x19 x18).bind fun bt387 => (if bt385.2 = true then (if bt385.1 ≥ 1 then (if bt387.2 = true then (if (bt387.1.length : Int) < (x17.length : Int) then (some true) else (if (bt387.1.length : Int) = (x17.length : Int) then ((laws_qLess.f k x17 bt387.1).bind fun t391 => (some (!t391))) else (some false))) else (some false)) else (some false)) else (some false))))
end
def laws_FnSourcesOfSums.f (k : Nat) (l0 : List Int) (l1 : List Int) : Option (Bool) := (laws_big.f l0 l1).bind fun t353 => (if t353 = true then (some true) else ((spec_DrawCountSources.f k l0).bind fun bt354 => ((impl_CountSources.f k bt354.1 bt354.2).bind fun bt358 => ((spec_CountSources.f k bt354.1 bt354.2).bind fun bt360 => ((impl_FirstSource.f k bt354.1 bt354.2).bind fun bt362 => ((spec_FirstSource.f k bt354.1 bt354.2).bind fun bt366 => (if (bt358.2 != bt360.2) = true then (laws_FnSourcesOfSums.j0 k l1 bt354.1 bt354.2 bt362.1 bt362.2 true) else (if bt358.1 = bt360.1 then (if (bt362.2 != bt366.2) = true then (laws_FnSourcesOfSums.j0 k l1 bt354.1 bt354.2 bt362.1 bt362.2 true) else ((laws_qSame.f k bt362.1 bt366.1).bind fun t370 => (if t370 = true then (if bt358.2 = true then (laws_FnSourcesOfSums.j0 k l1 bt354.1 bt354.2 bt362.1 bt362.2 (bt362.2 != (decide (bt358.1 > 0)))) else (laws_FnSourcesOfSums.j0 k l1 bt354.1 bt354.2 bt362.1 bt362.2 (bt362.2 != false))) else (laws_FnSourcesOfSums.j0 k l1 bt354.1 bt354.2 bt362.1 bt362.2 true)))) else (laws_FnSourcesOfSums.j0 k l1 bt354.1 bt354.2 bt362.1 bt362.2 true)))))))))
theorem laws_FnSourcesOfSums.mono_l : ∀ k, (∀ y0 y1 y2 y3 y4 y5, LeO (laws_FnSourcesOfSums.j0 k y0 y1 y2 y3 y4 y5) (laws_FnSourcesOfSums.j0 (k + 1) y0 y1 y2 y3 y4 y5)) ∧ (∀ y0, LeO (laws_FnSourcesOfSums.j1 k y0) (laws_FnSourcesOfSums.j1 (k + 1) y0)) ∧ (∀ y0 y1 y2 y3, LeO (laws_FnSourcesOfSums.j2 k y0 y1 y2 y3) (laws_FnSourcesOfSums.j2 (k + 1) y0 y1 y2 y3))
 | 0 => ⟨fun _ _ _ _ _ _ r h => by simp [laws_FnSourcesOfSums.j0] at h, fun _ r h => by simp [laws_FnSourcesOfSums.j1] at h, fun _ _ _ _ r h => by simp [laws_FnSourcesOfSums.j2] at h⟩
 | k + 1 => by
  obtain ⟨ih0, ih1, ih2⟩ := laws_FnSourcesOfSums.mono_l k
  refine ⟨?_, ?_, ?_⟩
  ·intro y0 y1 y2 y3 y4 y5
   unfold laws_FnSourcesOfSums.j0
   repeat' first
   | (with_reducible exact ih0 _ _ _ _ _ _)
   | (with_reducible exact ih1 _)
   | (with_reducible exact ih2 _ _ _ _)
   | (with_reducible exact impl_AddReversed.mono _ _ _)
   | (with_reducible exact impl_CountSources.mono _ _ _)
   | (with_reducible exact impl_FirstSource.mono _ _ _)
   | (with_reducible exact laws_qLess.mono _ _ _)
   | (with_reducible exact laws_qSame.mono _ _ _)
   | (with_reducible exact spec_CountSources.mono _ _ _)
   | (with_reducible exact spec_DrawAddReversed.mono _ _)
   | (with_reducible exact spec_DrawCountSources.mono _ _)
   | (with_reducible exact spec_FirstSource.mono _ _ _)
   | (with_reducible exact LeO.refl _)
   | (with_reducible exact LeO.none _)
   | (with_reducible refine LeO.ite ?_ ?_)
   | (with_reducible refine LeO.bind ?_ (fun _ => ?_))
   | exact ih0 _ _ _ _ _ _
   | exact ih1 _
   | exact ih2 _ _ _ _
   | exact impl_AddReversed.mono _ _ _
   | exact impl_CountSources.mono _ _ _
   | exact impl_FirstSource.mono _ _ _
   | exact laws_qLess.mono _ _ _
   | exact laws_qSame.mono _ _ _
   | exact spec_CountSources.mono _ _ _
   | exact spec_DrawAddReversed.mono _ _
   | exact spec_DrawCountSources.mono _ _
   | exact spec_FirstSource.mono _ _ _
   | exact LeO.none _
   | refine LeO.ite ?_ ?_
   | refine LeO.bind ?_ (fun _ => ?_)
  ·intro y0
   unfold laws_FnSourcesOfSums.j1
   repeat' first
   | (with_reducible exact ih0 _ _ _ _ _ _)
   | (with_reducible exact ih1 _)
   | (with_reducible exact ih2 _ _ _ _)
   | (with_reducible exact impl_AddReversed.mono _ _ _)
   | (with_reducible exact impl_CountSources.mono _ _ _)
   | (with_reducible exact impl_FirstSource.mono _ _ _)
   | (with_reducible exact laws_qLess.mono _ _ _)
   | (with_reducible exact laws_qSame.mono _ _ _)
   | (with_reducible exact spec_CountSources.mono _ _ _)
   | (with_reducible exact spec_DrawAddReversed.mono _ _)
   | (with_reducible exact spec_DrawCountSources.mono _ _)
   | (with_reducible exact spec_FirstSource.mono _ _ _)
   | (with_reducible exact LeO.refl _)
   | (with_reducible exact LeO.none _)
   | (with_reducible refine LeO.ite ?_ ?_)
   | (with_reducible refine LeO.bind ?_ (fun _ => ?_))
   | exact ih0 _ _ _ _ _ _
   | exact ih1 _
   | exact ih2 _ _ _ _
   | exact impl_AddReversed.mono _ _ _
   | exact impl_CountSources.mono _ _ _
   | exact impl_FirstSource.mono _ _ _
   | exact laws_qLess.mono _ _ _
   | exact laws_qSame.mono _ _ _
   | exact spec_CountSources.mono _ _ _
   | exact spec_DrawAddReversed.mono _ _
   | exact spec_DrawCountSources.mono _ _
   | exact spec_FirstSource.mono _ _ _
   | exact LeO.none _
   | refine LeO.ite ?_ ?_
   | refine LeO.bind ?_ (fun _ => ?_)
  ·intro y0 y1 y2 y3
   unfold laws_FnSourcesOfSums.j2
   repeat' first
   | (with_reducible exact ih0 _ _ _ _ _ _)
   | (with_reducible exact ih1 _)
   | (with_reducible exact ih2 _ _ _ _)
   | (with_reducible exact impl_AddReversed.mono _ _ _)
   | (with_reducible exact impl_CountSources.mono _ _ _)
   | (with_reducible exact impl_FirstSource.mono _ _ _)
   | (with_reducible exact laws_qLess.mono _ _ _)
   | (with_reducible exact laws_qSame.mono _ _ _)
   | (with_reducible exact spec_CountSources.mono _ _ _)
   | (with_reducible exact spec_DrawAddReversed.mono _ _)
   | (with_reducible exact spec_DrawCountSources.mono _ _)
   | (with_reducible exact spec_FirstSource.mono _ _ _)
   | (with_reducible exact LeO.refl _)
   | (with_reducible exact LeO.none _)
   | (with_reducible refine LeO.ite ?_ ?_)
   | (with_reducible refine LeO.bind ?_ (fun _ => ?_))
   | exact ih0 _ _ _ _ _ _
   | exact ih1 _
   | exact ih2 _ _ _ _
   | exact impl_AddReversed.mono _ _ _
   | exact impl_CountSources.mono _ _ _
   | exact impl_FirstSource.mono _ _ _
   | exact laws_qLess.mono _ _ _
   | exact laws_qSame.mono _ _ _
   | exact spec_CountSources.mono _ _ _
   | exact spec_DrawAddReversed.mono _ _
   | exact spec_DrawCountSources.mono _ _
   | exact spec_FirstSource.mono _ _ _
   | exact LeO.none _
   | refine LeO.ite ?_ ?_
   | refine LeO.bind ?_ (fun _ => ?_)
theorem laws_FnSourcesOfSums.mono : ∀ a0 a1 k, LeO (laws_FnSourcesOfSums.f k a0 a1) (laws_FnSourcesOfSums.f (k + 1) a0 a1) := by
 intro a0 a1 k
 obtain ⟨ih0, ih1, ih2⟩ := laws_FnSourcesOfSums.mono_l k
 unfold laws_FnSourcesOfSums.f
 repeat' first
   | (with_reducible exact ih0 _ _ _ _ _ _)
   | (with_reducible exact ih1 _)
   | (with_reducible exact ih2 _ _ _ _)
   | (with_reducible exact impl_AddReversed.mono _ _ _)
   | (with_reducible exact impl_CountSources.mono _ _ _)
   | (with_reducible exact impl_FirstSource.mono _ _ _)
   | (with_reducible exact laws_qLess.mono _ _ _)
   | (with_reducible exact laws_qSame.mono _ _ _)
   | (with_reducible exact spec_CountSources.mono _ _ _)
   | (with_reducible exact spec_DrawAddReversed.mono _ _)
   | (with_reducible exact spec_DrawCountSources.mono _ _)
   | (with_reducible exact spec_FirstSource.mono _ _ _)
   | (with_reducible exact LeO.refl _)
   | (with_reducible exact LeO.none _)
   | (with_reducible refine LeO.ite ?_ ?_)
   | (with_reducible refine LeO.bind ?_ (fun _ => ?_))
   | exact ih0 _ _ _ _ _ _
   | exact ih1 _
   | exact ih2 _ _ _ _
   | exact impl_AddReversed.mono _ _ _
   | exact impl_CountSources.mono _ _ _
   | exact impl_FirstSource.mono _ _ _
   | exact laws_qLess.mono _ _ _
   | exact laws_qSame.mono _ _ _
   | exact spec_CountSources.mono _ _ _
   | exact spec_DrawAddReversed.mono _ _
   | exact spec_DrawCountSources.mono _ _
   | exact spec_FirstSource.mono _ _ _
   | exact LeO.none _
   | refine LeO.ite ?_ ?_
   | refine LeO.bind ?_ (fun _ => ?_)
theorem laws_FnSourcesOfSums.j0_no {r : Bool} (hr : r = true) (k : Nat) (x1 : List Int) (x5 : List Int) (x6 : Int) (x11 : List Int) (x12 : Bool) (h : laws_FnSourcesOfSums.j0 k x1 x5 x6 x11 x12 true = some r) : False := by
 subst hr
 cases k with
 | zero => simp [laws_FnSourcesOfSums.j0] at h
 | succ k => simp [laws_FnSourcesOfSums.j0] at h
set_option maxHeartbeats 8000000 in
set_option maxRecDepth 100000 in
theorem laws_FnSourcesOfSums.calls (k : Nat) (A0 : Option Addr) (c0 : Nat) (l0 : List Int) (A1 : Option Addr) (c1 : Nat) (l1 : List Int) (r : Bool) (w : World) (hr0 : Kd.C (Kd.int .u8) w A0 l0.length l0) (hc0 : l0.length ≤ c0) (hr1 : Kd.C (Kd.int .u8) w A1 l1.length l1) (hc1 : l1.length ≤ c1) (h : laws_FnSourcesOfSums.f k l0 l1 = some r) (hr_ : r = true) :
  Calls Try.prog 8 #[.slice A0 l0.length c0, .slice A1 l1.length c1] w fun e w' => e = .returned (.bool r) ∧ Below w.heap.size w w' := by
 have HR0 := Aside0.mk hr0
 have HC0 := Aside0.mk hc0
 clear hr0 hc0
 have HR1 := Aside0.mk hr1
 have HC1 := Aside0.mk hc1
 clear hr1 hc1
 have HB := Aside0.mk (Below.refl w.heap.size w)
 have H : ((laws_big.f l0 l1).bind fun t353 => (if t353 = true then (some true) else ((spec_DrawCountSources.f k l0).bind fun bt354 => ((impl_CountSources.f k bt354.1 bt354.2).bind fun bt358 => ((spec_CountSources.f k bt354.1 bt354.2).bind fun bt360 => ((impl_FirstSource.f k bt354.1 bt354.2).bind fun bt362 => ((spec_FirstSource.f k bt354.1 bt354.2).bind fun bt366 => (if (bt358.2 != bt360.2) = true then (laws_FnSourcesOfSums.j0 k l1 bt354.1 bt354.2 bt362.1 bt362.2 true) else (if bt358.1 = bt360.1 then (if (bt362.2 != bt366.2) = true then (laws_FnSourcesOfSums.j0 k l1 bt354.1 bt354.2 bt362.1 bt362.2 true) else ((laws_qSame.f k bt362.1 bt366.1).bind fun t370 => (if t370 = true then (if bt358.2 = true then (laws_FnSourcesOfSums.j0 k l1 bt354.1 bt354.2 bt362.1 bt362.2 (bt362.2 != (decide (bt358.1 > 0)))) else (laws_FnSourcesOfSums.j0 k l1 bt354.1 bt354.2 bt362.1 bt362.2 (bt362.2 != false))) else (laws_FnSourcesOfSums.j0 k l1 bt354.1 bt354.2 bt362.1 bt362.2 true)))) else (laws_FnSourcesOfSums.j0 k l1 bt354.1 bt354.2 bt362.1 bt362.2 true)))))))))) = some r := h
 clear h
 have HR_ := Aside0.mk hr_
 clear hr_
 replace H := Option.bind_eq_some_iff.mp H
 obtain ⟨t353, A30, H⟩ := H
 replace H : (if t353 = true then (some true) else ((spec_DrawCountSources.f k l0).bind fun bt354 => ((impl_CountSources.f k bt354.1 bt354.2).bind fun bt358 => ((spec_CountSources.f k bt354.1 bt354.2).bind fun bt360 => ((impl_FirstSource.f k bt354.1 bt354.2).bind fun bt362 => ((spec_FirstSource.f k bt354.1 bt354.2).bind fun bt366 => (if (bt358.2 != bt360.2) = true then (laws_FnSourcesOfSums.j0 k l1 bt354.1 bt354.2 bt362.1 bt362.2 true) else (if bt358.1 = bt360.1 then (if (bt362.2 != bt366.2) = true then (laws_FnSourcesOfSums.j0 k l1 bt354.1 bt354.2 bt362.1 bt362.2 true) else ((laws_qSame.f k bt362.1 bt366.1).bind fun t370 => (if t370 = true then (if bt358.2 = true then (laws_FnSourcesOfSums.j0 k l1 bt354.1 bt354.2 bt362.1 bt362.2 (bt362.2 != (decide (bt358.1 > 0)))) else (laws_FnSourcesOfSums.j0 k l1 bt354.1 bt354.2 bt362.1 bt362.2 (bt362.2 != false))) else (laws_FnSourcesOfSums.j0 k l1 bt354.1 bt354.2 bt362.1 bt362.2 true)))) else (laws_FnSourcesOfSums.j0 k l1 bt354.1 bt354.2 bt362.1 bt362.2 true))))))))) = some r := H
 have A3 := Aside0.mk A30
 clear A30
 by_cases c4 : t353 = true
 ·subst c4
  have H1 : (some true) = some r := by rw [if_pos rfl] at H; exact H
  clear H
  have H := H1
  clear H1
  as_aux_lemma =>
   obtain rfl := Option.some.inj H
   go_enter Try.func8, Try.ntmps8
   go_wp2_with (first | ((with_reducible refine gate_callee (f := 15) rfl ?_); refine goesL_ (some 27) rfl rfl Try.func15 (by kernel_rfl) rfl #[.slice A0 l0.length c0, .slice A1 l1.length c1] rfl (by (try simp only [List.map_toArray, List.map_cons, List.map_nil]); first | done | rfl | (simp only [List.length_drop, List.length_take]; rfl)) ?_; (with_reducible refine (laws_big.calls _ _ l0 _ _ l1 true _ ?side1 ?side2 ?side3 ?side4 A3.out).mono ?_); (case side1 => repeat (first | exact HR0.out | (with_reducible refine Kd.C_alloc ?_ _) | (with_reducible refine Kd.C_drewN ?_ _) | (with_reducible refine Kd.C_drew ?_))); (case side2 => exact HC0.out); (case side3 => repeat (first | exact HR1.out | (with_reducible refine Kd.C_alloc ?_ _) | (with_reducible refine Kd.C_drewN ?_ _) | (with_reducible refine Kd.C_drew ?_))); (case side4 => exact HC1.out); rintro e w' ⟨rfl, ⟨nd, rfl⟩⟩; refine ⟨_, rfl, ?_⟩))
   go_ret
   exact ⟨by first | rfl | (simp [errW_none, errW_some] <;> rfl) | (simp [*, errW_none, errW_some] <;> rfl), by repeat (first | (with_reducible first | exact HB.out | apply below_alloc | apply pw_below_drewN | apply below_drew1) | exact HB.out)⟩
 ·replace c4 := Bool.eq_false_iff.mpr c4
  subst c4
  have H1 : ((spec_DrawCountSources.f k l0).bind fun bt354 => ((impl_CountSources.f k bt354.1 bt354.2).bind fun bt358 => ((spec_CountSources.f k bt354.1 bt354.2).bind fun bt360 => ((impl_FirstSource.f k bt354.1 bt354.2).bind fun bt362 => ((spec_FirstSource.f k bt354.1 bt354.2).bind fun bt366 => (if (bt358.2 != bt360.2) = true then (laws_FnSourcesOfSums.j0 k l1 bt354.1 bt354.2 bt362.1 bt362.2 true) else (if bt358.1 = bt360.1 then (if (bt362.2 != bt366.2) = true then (laws_FnSourcesOfSums.j0 k l1 bt354.1 bt354.2 bt362.1 bt362.2 true) else ((laws_qSame.f k bt362.1 bt366.1).bind fun t370 => (if t370 = true then (if bt358.2 = true then (laws_FnSourcesOfSums.j0 k l1 bt354.1 bt354.2 bt362.1 bt362.2 (bt362.2 != (decide (bt358.1 > 0)))) else (laws_FnSourcesOfSums.j0 k l1 bt354.1 bt354.2 bt362.1 bt362.2 (bt362.2 != false))) else (laws_FnSourcesOfSums.j0 k l1 bt354.1 bt354.2 bt362.1 bt362.2 true)))) else (laws_FnSourcesOfSums.j0 k l1 bt354.1 bt354.2 bt362.1 bt362.2 true)))))))) = some r := by rw [if_neg (show ¬ (false = true) by decide)] at H; exact H
  clear H
  have H := H1
  clear H1
  replace H := Option.bind_eq_some_iff.mp H
  obtain ⟨⟨t354, t355⟩, A50, H⟩ := H
  replace H : ((impl_CountSources.f k t354 t355).bind fun bt358 => ((spec_CountSources.f k t354 t355).bind fun bt360 => ((impl_FirstSource.f k t354 t355).bind fun bt362 => ((spec_FirstSource.f k t354 t355).bind fun bt366 => (if (bt358.2 != bt360.2) = true then (laws_FnSourcesOfSums.j0 k l1 t354 t355 bt362.1 bt362.2 true) else (if bt358.1 = bt360.1 then (if (bt362.2 != bt366.2) = true then (laws_FnSourcesOfSums.j0 k l1 t354 t355 bt362.1 bt362.2 true) else ((laws_qSame.f k bt362.1 bt366.1).bind fun t370 => (if t370 = true then (if bt358.2 = true then (laws_FnSourcesOfSums.j0 k l1 t354 t355 bt362.1 bt362.2 (bt362.2 != (decide (bt358.1 > 0)))) else (laws_FnSourcesOfSums.j0 k l1 t354 t355 bt362.1 bt362.2 (bt362.2 != false))) else (laws_FnSourcesOfSums.j0 k l1 t354 t355 bt362.1 bt362.2 true)))) else (laws_FnSourcesOfSums.j0 k l1 t354 t355 bt362.1 bt362.2 true))))))) = some r := H
  have A5 := Aside0.mk A50
  clear A50
  replace H := Option.bind_eq_some_iff.mp H
  obtain ⟨⟨t358, t359⟩, A60, H⟩ := H
  replace H : ((spec_CountSources.f k t354 t355).bind fun bt360 => ((impl_FirstSource.f k t354 t355).bind fun bt362 => ((spec_FirstSource.f k t354 t355).bind fun bt366 => (if (t359 != bt360.2) = true then (laws_FnSourcesOfSums.j0 k l1 t354 t355 bt362.1 bt362.2 true) else (if t358 = bt360.1 then (if (bt362.2 != bt366.2) = true then (laws_FnSourcesOfSums.j0 k l1 t354 t355 bt362.1 bt362.2 true) else ((laws_qSame.f k bt362.1 bt366.1).bind fun t370 => (if t370 = true then (if t359 = true then (laws_FnSourcesOfSums.j0 k l1 t354 t355 bt362.1 bt362.2 (bt362.2 != (decide (t358 > 0)))) else (laws_FnSourcesOfSums.j0 k l1 t354 t355 bt362.1 bt362.2 (bt362.2 != false))) else (laws_FnSourcesOfSums.j0 k l1 t354 t355 bt362.1 bt362.2 true)))) else (laws_FnSourcesOfSums.j0 k l1 t354 t355 bt362.1 bt362.2 true)))))) = some r := H
  have A6 := Aside0.mk A60
  clear A60
  replace H := Option.bind_eq_some_iff.mp H
  obtain ⟨⟨t360, t361⟩, A70, H⟩ := H
  replace H : ((impl_FirstSource.f k t354 t355).bind fun bt362 => ((spec_FirstSource.f k t354 t355).bind fun bt366 => (if (t359 != t361) = true then (laws_FnSourcesOfSums.j0 k l1 t354 t355 bt362.1 bt362.2 true) else (if t358 = t360 then (if (bt362.2 != bt366.2) = true then (laws_FnSourcesOfSums.j0 k l1 t354 t355 bt362.1 bt362.2 true) else ((laws_qSame.f k bt362.1 bt366.1).bind fun t370 => (if t370 = true then (if t359 = true then (laws_FnSourcesOfSums.j0 k l1 t354 t355 bt362.1 bt362.2 (bt362.2 != (decide (t358 > 0)))) else (laws_FnSourcesOfSums.j0 k l1 t354 t355 bt362.1 bt362.2 (bt362.2 != false))) else (laws_FnSourcesOfSums.j0 k l1 t354 t355 bt362.1 bt362.2 true)))) else (laws_FnSourcesOfSums.j0 k l1 t354 t355 bt362.1 bt362.2 true))))) = some r := H
  have A7 := Aside0.mk A70
  clear A70
  replace H := Option.bind_eq_some_iff.mp H
  obtain ⟨⟨t362, t363⟩, A80, H⟩ := H
  replace H : ((spec_FirstSource.f k t354 t355).bind fun bt366 => (if (t359 != t361) = true then (laws_FnSourcesOfSums.j0 k l1 t354 t355 t362 t363 true) else (if t358 = t360 then (if (t363 != bt366.2) = true then (laws_FnSourcesOfSums.j0 k l1 t354 t355 t362 t363 true) else ((laws_qSame.f k t362 bt366.1).bind fun t370 => (if t370 = true then (if t359 = true then (laws_FnSourcesOfSums.j0 k l1 t354 t355 t362 t363 (t363 != (decide (t358 > 0)))) else (laws_FnSourcesOfSums.j0 k l1 t354 t355 t362 t363 (t363 != false))) else (laws_FnSourcesOfSums.j0 k l1 t354 t355 t362 t363 true)))) else (laws_FnSourcesOfSums.j0 k l1 t354 t355 t362 t363 true)))) = some r := H
  have A8 := Aside0.mk A80
  clear A80
  replace H := Option.bind_eq_some_iff.mp H
  obtain ⟨⟨t366, t367⟩, A90, H⟩ := H
  replace H : (if (t359 != t361) = true then (laws_FnSourcesOfSums.j0 k l1 t354 t355 t362 t363 true) else (if t358 = t360 then (if (t363 != t367) = true then (laws_FnSourcesOfSums.j0 k l1 t354 t355 t362 t363 true) else ((laws_qSame.f k t362 t366).bind fun t370 => (if t370 = true then (if t359 = true then (laws_FnSourcesOfSums.j0 k l1 t354 t355 t362 t363 (t363 != (decide (t358 > 0)))) else (laws_FnSourcesOfSums.j0 k l1 t354 t355 t362 t363 (t363 != false))) else (laws_FnSourcesOfSums.j0 k l1 t354 t355 t362 t363 true)))) else (laws_FnSourcesOfSums.j0 k l1 t354 t355 t362 t363 true))) = some r := H
  have A9 := Aside0.mk A90
  clear A90
  have HC10 := Aside0.mk H
  clear H
  go_enter Try.func8, Try.ntmps8
  go_upto_region 8 with (first | ((with_reducible refine gate_callee (f := 15) rfl ?_); refine goesL_ (some 27) rfl rfl Try.func15 (by kernel_rfl) rfl #[.slice A0 l0.length c0, .slice A1 l1.length c1] rfl (by (try simp only [List.map_toArray, List.map_cons, List.map_nil]); first | done | rfl | (simp only [List.length_drop, List.length_take]; rfl)) ?_; (with_reducible refine (laws_big.calls _ _ l0 _ _ l1 false _ ?side1 ?side2 ?side3 ?side4 A3.out).mono ?_); (case side1 => repeat (first | exact HR0.out | (with_reducible refine Kd.C_alloc ?_ _) | (with_reducible refine Kd.C_drewN ?_ _) | (with_reducible refine Kd.C_drew ?_))); (case side2 => exact HC0.out); (case side3 => repeat (first | exact HR1.out | (with_reducible refine Kd.C_alloc ?_ _) | (with_reducible refine Kd.C_drewN ?_ _) | (with_reducible refine Kd.C_drew ?_))); (case side4 => exact HC1.out); rintro e w' ⟨rfl, ⟨nd, rfl⟩⟩; refine ⟨_, rfl, ?_⟩) | ((with_reducible refine gate_callee (f := 94) rfl ?_); refine goesL_ (some 30) rfl rfl Try.func94 (by kernel_rfl) rfl #[.slice A0 l0.length c0] rfl (by (try simp only [List.map_toArray, List.map_cons, List.map_nil]); first | done | rfl | (simp only [List.length_drop, List.length_take]; rfl)) ?_; (with_reducible refine (spec_DrawCountSources.calls k _ _ l0 t354 t355 _ ?side1 ?side2 A5.out).mono ?_); (case side1 => repeat (first | exact HR0.out | (with_reducible refine Kd.C_alloc ?_ _) | (with_reducible refine Kd.C_drewN ?_ _) | (with_reducible refine Kd.C_drew ?_))); (case side2 => exact HC0.out); rintro e w11 ⟨v356, rfl, ho0, hb⟩; refine ⟨_, rfl, ?_⟩; have n0_ := Aside0.mk (Kd.R_lower ho0 (below_size (by repeat (first | (with_reducible first | exact HB.out | apply below_alloc | apply pw_below_drewN | apply below_drew1) | exact HB.out)))); have n1_ := Aside0.mk (below_step (by repeat (first | (with_reducible first | exact HB.out | apply below_alloc | apply pw_below_drewN | apply below_drew1) | exact HB.out)) hb); clear HB; have HO357 := n0_; have HB := n1_; clear n0_ n1_; (try clear hb); (try clear hb2); (try clear hk); (try clear hi); (try clear ho0); obtain ⟨Ao12, co12, eo12⟩ := Kd.R_slice HO357.out; subst eo12) | ((with_reducible refine gate_callee (f := 95) rfl ?_); refine goesL_ (some 36) rfl rfl Try.func95 (by kernel_rfl) rfl #[.slice Ao12 t354.length co12, .int .i64 t355] rfl (by (try simp only [List.map_toArray, List.map_cons, List.map_nil]); first | done | rfl | (simp only [List.length_drop, List.length_take]; rfl)) ?_; (with_reducible refine (impl_CountSources.calls k _ _ t354 t355 t358 t359 _ ?side1 ?side2 A6.out).mono ?_); (case side1 => repeat (first | exact (Kd.R_reads' HO357.out).2.2 | (with_reducible refine Kd.C_alloc ?_ _) | (with_reducible refine Kd.C_drewN ?_ _) | (with_reducible refine Kd.C_drew ?_))); (case side2 => exact (Kd.R_reads' HO357.out).2.1); rintro e w13 ⟨rfl, hb⟩; refine ⟨_, rfl, ?_⟩; have n0_ := Aside0.mk (Kd.R_below (by (with_reducible repeat (first | apply Kd.R_alloc | apply Kd.R_drewN | apply Kd.R_drew)); exact HO357.out) hb); have n1_ := Aside0.mk (below_step (by repeat (first | (with_reducible first | exact HB.out | apply below_alloc | apply pw_below_drewN | apply below_drew1) | exact HB.out)) hb); clear HO357; clear HB; have HO357 := n0_; have HB := n1_; clear n0_ n1_; (try clear hb); (try clear hb2); (try clear hk); (try clear hi)) | ((with_reducible refine gate_callee (f := 96) rfl ?_); refine goesL_ (some 42) rfl rfl Try.func96 (by kernel_rfl) rfl #[.slice Ao12 t354.length co12, .int .i64 t355] rfl (by (try simp only [List.map_toArray, List.map_cons, List.map_nil]); first | done | rfl | (simp only [List.length_drop, List.length_take]; rfl)) ?_; (with_reducible refine (spec_CountSources.calls k _ _ t354 t355 t360 t361 _ ?side1 ?side2 A7.out).mono ?_); (case side1 => repeat (first | exact (Kd.R_reads' HO357.out).2.2 | (with_reducible refine Kd.C_alloc ?_ _) | (with_reducible refine Kd.C_drewN ?_ _) | (with_reducible refine Kd.C_drew ?_))); (case side2 => exact (Kd.R_reads' HO357.out).2.1); rintro e w14 ⟨rfl, hb⟩; refine ⟨_, rfl, ?_⟩; have n0_ := Aside0.mk (Kd.R_below (by (with_reducible repeat (first | apply Kd.R_alloc | apply Kd.R_drewN | apply Kd.R_drew)); exact HO357.out) hb); have n1_ := Aside0.mk (below_step (by repeat (first | (with_reducible first | exact HB.out | apply below_alloc | apply pw_below_drewN | apply below_drew1) | exact HB.out)) hb); clear HO357; clear HB; have HO357 := n0_; have HB := n1_; clear n0_ n1_; (try clear hb); (try clear hb2); (try clear hk); (try clear hi)) | ((with_reducible refine gate_callee (f := 97) rfl ?_); refine goesL_ (some 48) rfl rfl Try.func97 (by kernel_rfl) rfl #[.slice Ao12 t354.length co12, .int .i64 t355] rfl (by (try simp only [List.map_toArray, List.map_cons, List.map_nil]); first | done | rfl | (simp only [List.length_drop, List.length_take]; rfl)) ?_; (with_reducible refine (impl_FirstSource.calls k _ _ t354 t355 t362 t363 _ ?side1 ?side2 A8.out).mono ?_); (case side1 => repeat (first | exact (Kd.R_reads' HO357.out).2.2 | (with_reducible refine Kd.C_alloc ?_ _) | (with_reducible refine Kd.C_drewN ?_ _) | (with_reducible refine Kd.C_drew ?_))); (case side2 => exact (Kd.R_reads' HO357.out).2.1); rintro e w15 ⟨v364, rfl, ho0, hb⟩; refine ⟨_, rfl, ?_⟩; have n0_ := Aside0.mk (Kd.R_elder' (by (with_reducible repeat (first | apply Kd.R_alloc | apply Kd.R_drewN | apply Kd.R_drew)); exact HO357.out) (Kd.R_base ho0) hb); have n1_ := Aside0.mk (Kd.R_lower (Kd.R_new' ho0 (Kd.R_lt (by (with_reducible repeat (first | apply Kd.R_alloc | apply Kd.R_drewN | apply Kd.R_drew)); exact HO357.out))) (below_size (by repeat (first | (with_reducible first | exact HB.out | apply below_alloc | apply pw_below_drewN | apply below_drew1) | exact HB.out)))); have n2_ := Aside0.mk (below_step (by repeat (first | (with_reducible first | exact HB.out | apply below_alloc | apply pw_below_drewN | apply below_drew1) | exact HB.out)) hb); clear HO357; clear HB; have HO357 := n0_; have HO365 := n1_; have HB := n2_; clear n0_ n1_ n2_; (try clear hb); (try clear hb2); (try clear hk); (try clear hi); (try clear ho0)) | ((with_reducible refine gate_callee (f := 98) rfl ?_); refine goesL_ (some 54) rfl rfl Try.func98 (by kernel_rfl) rfl #[.slice Ao12 t354.length co12, .int .i64 t355] rfl (by (try simp only [List.map_toArray, List.map_cons, List.map_nil]); first | done | rfl | (simp only [List.length_drop, List.length_take]; rfl)) ?_; (with_reducible refine (spec_FirstSource.calls k _ _ t354 t355 t366 t367 _ ?side1 ?side2 A9.out).mono ?_); (case side1 => repeat (first | exact (Kd.R_reads' HO357.out).2.2 | (with_reducible refine Kd.C_alloc ?_ _) | (with_reducible refine Kd.C_drewN ?_ _) | (with_reducible refine Kd.C_drew ?_))); (case side2 => exact (Kd.R_reads' HO357.out).2.1); rintro e w16 ⟨v368, rfl, ho0, hb⟩; refine ⟨_, rfl, ?_⟩; have n0_ := Aside0.mk (Kd.R_elder' (by (with_reducible repeat (first | apply Kd.R_alloc | apply Kd.R_drewN | apply Kd.R_drew)); exact HO357.out) (Kd.R_base ho0) hb); have n1_ := Aside0.mk (Kd.R_elder' (by (with_reducible repeat (first | apply Kd.R_alloc | apply Kd.R_drewN | apply Kd.R_drew)); exact HO365.out) (Kd.R_base ho0) hb); have n2_ := Aside0.mk (Kd.R_lower (Kd.R_new' (Kd.R_new' ho0 (Kd.R_lt (by (with_reducible repeat (first | apply Kd.R_alloc | apply Kd.R_drewN | apply Kd.R_drew)); exact HO357.out))) (Kd.R_lt (by (with_reducible repeat (first | apply Kd.R_alloc | apply Kd.R_drewN | apply Kd.R_drew)); exact HO365.out))) (below_size (by repeat (first | (with_reducible first | exact HB.out | apply below_alloc | apply pw_below_drewN | apply below_drew1) | exact HB.out)))); have n3_ := Aside0.mk (below_step (by repeat (first | (with_reducible first | exact HB.out | apply below_alloc | apply pw_below_drewN | apply below_drew1) | exact HB.out)) hb); clear HO357; clear HO365; clear HB; have HO357 := n0_; have HO365 := n1_; have HO369 := n2_; have HB := n3_; clear n0_ n1_ n2_ n3_; (try clear hb); (try clear hb2); (try clear hk); (try clear hi); (try clear ho0)))
  (try simp only [Act.put, List.setIfInBounds_toArray, List.set_cons_zero, List.set_cons_succ])
  go_cut [84] (fun v84 wc => ∃ (kq : Nat) (x84_9 : Bool), v84 = .bool x84_9 ∧ Aside0 (laws_FnSourcesOfSums.j0 kq l1 t354 t355 t362 t363 x84_9 = some r) ∧ Aside0 (kq ≤ k) ∧ Aside0 (Kd.R (Kd.int .i64) 3 wc w.heap.size (fun k_ => some k_ ≠ (v364 : Value).ownBlock) (.slice Ao12 t354.length co12) t354) ∧ Aside0 (Kd.R (Kd.int .i64) 3 wc w.heap.size (fun k_ => some k_ ≠ ((.slice Ao12 t354.length co12) : Value).ownBlock) v364 t362) ∧ Aside0 (Below w.heap.size w wc))
  case first =>
   as_aux_lemma =>
   have H := HC10.out
   clear HC10
   by_cases c17 : (t359 != t361) = true
   ·rw [if_pos c17] at H
    have c17b0 : (t359 != t361) = true := c17
    (try (have c17b1 : decide (t359 = t361) = false := by simpa using c17))
    (try (have c17b2 : (t359 == t361) = false := by simpa using c17))
    (try (have c17b3 : ¬ (t359 = t361) := by simpa using c17))
    clear c17
    (first | rw [c17b0] | (simp only [i64_w, i32_w]; rw [c17b0]) | skip)
    exact (laws_FnSourcesOfSums.j0_no HR_.out _ _ _ _ _ _ H).elim
   ·rw [if_neg c17] at H
    have c17b0 : (t359 != t361) = false := by simpa using c17
    (try (have c17b1 : decide (t359 = t361) = true := by simpa using c17))
    (try (have c17b2 : (t359 == t361) = true := by simpa using c17))
    clear c17
    (first | rw [c17b0] | (simp only [i64_w, i32_w]; rw [c17b0]) | skip)
    by_cases c18 : t358 = t360
    ·rw [if_pos c18] at H
     have c18b0 : (t358 == t360) = true := beq_iff_eq.mpr c18
     have c18b1 : (t358 != t360) = false := bne_eq_false_iff_eq.mpr c18
     clear c18
     by_cases c19 : (t363 != t367) = true
     ·rw [if_pos c19] at H
      have c19b0 : (t363 != t367) = true := c19
      (try (have c19b1 : decide (t363 = t367) = false := by simpa using c19))
      (try (have c19b2 : (t363 == t367) = false := by simpa using c19))
      (try (have c19b3 : ¬ (t363 = t367) := by simpa using c19))
      clear c19
      exact (laws_FnSourcesOfSums.j0_no HR_.out _ _ _ _ _ _ H).elim
     ·rw [if_neg c19] at H
      have c19b0 : (t363 != t367) = false := by simpa using c19
      (try (have c19b1 : decide (t363 = t367) = true := by simpa using c19))
      (try (have c19b2 : (t363 == t367) = true := by simpa using c19))
      clear c19
      replace H := Option.bind_eq_some_iff.mp H
      obtain ⟨t370, A200, H⟩ := H
      replace H : (if t370 = true then (if t359 = true then (laws_FnSourcesOfSums.j0 k l1 t354 t355 t362 t363 (t363 != (decide (t358 > 0)))) else (laws_FnSourcesOfSums.j0 k l1 t354 t355 t362 t363 (t363 != false))) else (laws_FnSourcesOfSums.j0 k l1 t354 t355 t362 t363 true)) = some r := H
      have A20 := Aside0.mk A200
      clear A200
      by_cases c21 : t370 = true
      ·subst c21
       have H1 : (if t359 = true then (laws_FnSourcesOfSums.j0 k l1 t354 t355 t362 t363 (t363 != (decide (t358 > 0)))) else (laws_FnSourcesOfSums.j0 k l1 t354 t355 t362 t363 (t363 != false))) = some r := by rw [if_pos rfl] at H; exact H
       clear H
       have H := H1
       clear H1
       by_cases c22 : t359 = true
       ·subst c22
        have H1 : (laws_FnSourcesOfSums.j0 k l1 t354 t355 t362 t363 (t363 != (decide (t358 > 0)))) = some r := by rw [if_pos rfl] at H; exact H
        clear H
        have H := H1
        clear H1
        as_aux_lemma =>
         have H' := Aside0.mk H
         clear H
         obtain ⟨Ao23, co23, eo23⟩ := Kd.R_slice HO365.out
         subst eo23
         obtain ⟨Ao24, co24, eo24⟩ := Kd.R_slice HO369.out
         subst eo24
         go_wp2_with (first | (go_at_call 34; (with_reducible refine (laws_qSame.calls k _ _ t362 _ _ t366 true _ ?side1 ?side2 ?side3 ?side4 A20.out).mono ?_); (case side1 => repeat (first | exact (Kd.R_reads' HO365.out).2.2 | (with_reducible refine Kd.C_alloc ?_ _) | (with_reducible refine Kd.C_drewN ?_ _) | (with_reducible refine Kd.C_drew ?_))); (case side2 => exact (Kd.R_reads' HO365.out).2.1); (case side3 => repeat (first | exact (Kd.R_reads' HO369.out).2.2 | (with_reducible refine Kd.C_alloc ?_ _) | (with_reducible refine Kd.C_drewN ?_ _) | (with_reducible refine Kd.C_drew ?_))); (case side4 => exact (Kd.R_reads' HO369.out).2.1); rintro e w' ⟨rfl, ⟨nd, rfl⟩⟩))
         go_meet
         case rel => exact ⟨_, ((t363 != (decide (t358 > 0)))), (by first | rfl | (simp; done) | (simp [*]; done)), H', ⟨by first | omega | exact Nat.le_refl _⟩, ⟨by (with_reducible repeat (first | apply Kd.R_alloc | apply Kd.R_drewN | apply Kd.R_drew)); exact Kd.R_mono HO357.out (fun _ hk => hk.1.2)⟩, ⟨by (with_reducible repeat (first | apply Kd.R_alloc | apply Kd.R_drewN | apply Kd.R_drew)); exact Kd.R_mono HO365.out (fun _ hk => hk.1.2)⟩, ⟨by repeat (first | (with_reducible first | exact HB.out | apply below_alloc | apply pw_below_drewN | apply below_drew1) | exact HB.out)⟩⟩
       ·replace c22 := Bool.eq_false_iff.mpr c22
        subst c22
        have H1 : (laws_FnSourcesOfSums.j0 k l1 t354 t355 t362 t363 (t363 != false)) = some r := by rw [if_neg (show ¬ (false = true) by decide)] at H; exact H
        clear H
        have H := H1
        clear H1
        as_aux_lemma =>
         have H' := Aside0.mk H
         clear H
         obtain ⟨Ao25, co25, eo25⟩ := Kd.R_slice HO365.out
         subst eo25
         obtain ⟨Ao26, co26, eo26⟩ := Kd.R_slice HO369.out
         subst eo26
         go_wp2_with (first | (go_at_call 34; (with_reducible refine (laws_qSame.calls k _ _ t362 _ _ t366 true _ ?side1 ?side2 ?side3 ?side4 A20.out).mono ?_); (case side1 => repeat (first | exact (Kd.R_reads' HO365.out).2.2 | (with_reducible refine Kd.C_alloc ?_ _) | (with_reducible refine Kd.C_drewN ?_ _) | (with_reducible refine Kd.C_drew ?_))); (case side2 => exact (Kd.R_reads' HO365.out).2.1); (case side3 => repeat (first | exact (Kd.R_reads' HO369.out).2.2 | (with_reducible refine Kd.C_alloc ?_ _) | (with_reducible refine Kd.C_drewN ?_ _) | (with_reducible refine Kd.C_drew ?_))); (case side4 => exact (Kd.R_reads' HO369.out).2.1); rintro e w' ⟨rfl, ⟨nd, rfl⟩⟩))
         go_meet
         case rel => exact ⟨_, ((t363 != false)), (by first | rfl | (simp; done) | (simp [*]; done)), H', ⟨by first | omega | exact Nat.le_refl _⟩, ⟨by (with_reducible repeat (first | apply Kd.R_alloc | apply Kd.R_drewN | apply Kd.R_drew)); exact Kd.R_mono HO357.out (fun _ hk => hk.1.2)⟩, ⟨by (with_reducible repeat (first | apply Kd.R_alloc | apply Kd.R_drewN | apply Kd.R_drew)); exact Kd.R_mono HO365.out (fun _ hk => hk.1.2)⟩, ⟨by repeat (first | (with_reducible first | exact HB.out | apply below_alloc | apply pw_below_drewN | apply below_drew1) | exact HB.out)⟩⟩
      ·replace c21 := Bool.eq_false_iff.mpr c21
       subst c21
       have H1 : (laws_FnSourcesOfSums.j0 k l1 t354 t355 t362 t363 true) = some r := by rw [if_neg (show ¬ (false = true) by decide)] at H; exact H
       clear H
       have H := H1
       clear H1
       exact (laws_FnSourcesOfSums.j0_no HR_.out _ _ _ _ _ _ H).elim
    ·rw [if_neg c18] at H
     have c18b0 : (t358 == t360) = false := beq_eq_false_iff_ne.mpr c18
     have c18b1 : (t358 != t360) = true := bne_iff_ne.mpr c18
     exact (laws_FnSourcesOfSums.j0_no HR_.out _ _ _ _ _ _ H).elim
  case rest =>
   as_aux_lemma =>
   clear HC10
   try clear c1
   try clear c2
   try clear p2
   try clear c4
   try clear c8
   try clear c9
   try clear c15
   try clear c17
   try clear c17b0
   try clear c17b1
   try clear c17b2
   try clear c18
   try clear c18b0
   try clear c18b1
   try clear c19
   try clear c19b0
   try clear c19b1
   try clear c19b2
   try clear c21
   try clear c22
   obtain ⟨kq, x84_9, rfl, HA, HJ9, HO_5, HO_11, HB⟩ := hcut
   cases kq with
   | zero => exact absurd HA.out (by simp [laws_FnSourcesOfSums.j0])
   | succ kj9 =>
    have H := HA.out
    clear HA
    simp only [laws_FnSourcesOfSums.j0] at H
    by_cases c27 : x84_9 = true
    ·subst c27
     have H1 : (some false) = some r := by rw [if_pos rfl] at H; exact H
     clear H
     have H := H1
     clear H1
     exact absurd (Option.some.inj H) (by rw [HR_.out]; decide)
    ·replace c27 := Bool.eq_false_iff.mpr c27
     subst c27
     have H1 : (if t363 = true then ((impl_AddReversed.f kj9 t362 t355).bind fun bt371 => (if bt371.2 = true then ((laws_qSame.f kj9 bt371.1 t354).bind fun t375 => (if t375 = true then (laws_FnSourcesOfSums.j1 kj9 l1) else (some false))) else (some false))) else (laws_FnSourcesOfSums.j1 kj9 l1)) = some r := by rw [if_neg (show ¬ (false = true) by decide)] at H; exact H
     clear H
     have H := H1
     clear H1
     have HC28 := Aside0.mk H
     clear H
     go_upto_if 85 with (fail)
     go_cut [] (fun wc => ∃ (kq : Nat), Aside0 (laws_FnSourcesOfSums.j1 kq l1 = some r) ∧ Aside0 (kq ≤ kj9) ∧ Aside0 (Below w.heap.size w wc))
     case first =>
      as_aux_lemma =>
      have H := HC28.out
      clear HC28
      by_cases c29 : t363 = true
      ·subst c29
       have H1 : ((impl_AddReversed.f kj9 t362 t355).bind fun bt371 => (if bt371.2 = true then ((laws_qSame.f kj9 bt371.1 t354).bind fun t375 => (if t375 = true then (laws_FnSourcesOfSums.j1 kj9 l1) else (some false))) else (some false))) = some r := by rw [if_pos rfl] at H; exact H
       clear H
       have H := H1
       clear H1
       replace H := Option.bind_eq_some_iff.mp H
       obtain ⟨⟨t371, t372⟩, A300, H⟩ := H
       replace H : (if t372 = true then ((laws_qSame.f kj9 t371 t354).bind fun t375 => (if t375 = true then (laws_FnSourcesOfSums.j1 kj9 l1) else (some false))) else (some false)) = some r := H
       have A30 := Aside0.mk A300
       clear A300
       by_cases c31 : t372 = true
       ·subst c31
        have H1 : ((laws_qSame.f kj9 t371 t354).bind fun t375 => (if t375 = true then (laws_FnSourcesOfSums.j1 kj9 l1) else (some false))) = some r := by rw [if_pos rfl] at H; exact H
        clear H
        have H := H1
        clear H1
        replace H := Option.bind_eq_some_iff.mp H
        obtain ⟨t375, A320, H⟩ := H
        replace H : (if t375 = true then (laws_FnSourcesOfSums.j1 kj9 l1) else (some false)) = some r := H
        have A32 := Aside0.mk A320
        clear A320
        by_cases c33 : t375 = true
        ·subst c33
         have H1 : (laws_FnSourcesOfSums.j1 kj9 l1) = some r := by rw [if_pos rfl] at H; exact H
         clear H
         have H := H1
         clear H1
         as_aux_lemma =>
          have H' := Aside0.mk H
          clear H
          obtain ⟨Ao34, co34, eo34⟩ := Kd.R_slice HO_11.out
          subst eo34
          go_wp2_with (first | ((with_reducible refine gate_callee (f := 57) rfl ?_); refine goesL_ (some 89) rfl rfl Try.func57 (by kernel_rfl) rfl #[.slice Ao34 t362.length co34, .int .i64 t355] rfl (by (try simp only [List.map_toArray, List.map_cons, List.map_nil]); first | done | rfl | (simp only [List.length_drop, List.length_take]; rfl)) ?_; (with_reducible refine (impl_AddReversed.calls kj9 _ _ t362 t355 t371 true _ ?side1 ?side2 A30.out).mono ?_); (case side1 => repeat (first | exact (Kd.R_reads' HO_11.out).2.2 | (with_reducible refine Kd.C_alloc ?_ _) | (with_reducible refine Kd.C_drewN ?_ _) | (with_reducible refine Kd.C_drew ?_))); (case side2 => exact (Kd.R_reads' HO_11.out).2.1); rintro e w35 ⟨v373, rfl, ho0, hb⟩; refine ⟨_, rfl, ?_⟩; have n0_ := Aside0.mk (Kd.R_elder' (by (with_reducible repeat (first | apply Kd.R_alloc | apply Kd.R_drewN | apply Kd.R_drew)); exact HO_5.out) (Kd.R_base ho0) hb); have n1_ := Aside0.mk (Kd.R_elder' (by (with_reducible repeat (first | apply Kd.R_alloc | apply Kd.R_drewN | apply Kd.R_drew)); exact HO_11.out) (Kd.R_base ho0) hb); have n2_ := Aside0.mk (Kd.R_lower (Kd.R_new' (Kd.R_new' ho0 (Kd.R_lt (by (with_reducible repeat (first | apply Kd.R_alloc | apply Kd.R_drewN | apply Kd.R_drew)); exact HO_5.out))) (Kd.R_lt (by (with_reducible repeat (first | apply Kd.R_alloc | apply Kd.R_drewN | apply Kd.R_drew)); exact HO_11.out))) (below_size (by repeat (first | (with_reducible first | exact HB.out | apply below_alloc | apply pw_below_drewN | apply below_drew1) | exact HB.out)))); have n3_ := Aside0.mk (below_step (by repeat (first | (with_reducible first | exact HB.out | apply below_alloc | apply pw_below_drewN | apply below_drew1) | exact HB.out)) hb); clear HO_5; clear HO_11; clear HB; have HO_5 := n0_; have HO_11 := n1_; have HO374 := n2_; have HB := n3_; clear n0_ n1_ n2_ n3_; (try clear hb); (try clear hb2); (try clear hk); (try clear hi); (try clear ho0); obtain ⟨Ao36, co36, eo36⟩ := Kd.R_slice HO374.out; subst eo36) | (go_at_call 34; (with_reducible refine (laws_qSame.calls kj9 _ _ t371 _ _ t354 true _ ?side1 ?side2 ?side3 ?side4 A32.out).mono ?_); (case side1 => repeat (first | exact (Kd.R_reads' HO374.out).2.2 | (with_reducible refine Kd.C_alloc ?_ _) | (with_reducible refine Kd.C_drewN ?_ _) | (with_reducible refine Kd.C_drew ?_))); (case side2 => exact (Kd.R_reads' HO374.out).2.1); (case side3 => repeat (first | exact (Kd.R_reads' HO_5.out).2.2 | (with_reducible refine Kd.C_alloc ?_ _) | (with_reducible refine Kd.C_drewN ?_ _) | (with_reducible refine Kd.C_drew ?_))); (case side4 => exact (Kd.R_reads' HO_5.out).2.1); rintro e w' ⟨rfl, ⟨nd, rfl⟩⟩))
          go_meet
          case rel => exact ⟨_, H', ⟨by have := HJ9.out; first | omega | exact Nat.le_refl _⟩, ⟨by repeat (first | (with_reducible first | exact HB.out | apply below_alloc | apply pw_below_drewN | apply below_drew1) | exact HB.out)⟩⟩
        ·replace c33 := Bool.eq_false_iff.mpr c33
         subst c33
         have H1 : (some false) = some r := by rw [if_neg (show ¬ (false = true) by decide)] at H; exact H
         clear H
         have H := H1
         clear H1
         exact absurd (Option.some.inj H) (by rw [HR_.out]; decide)
       ·replace c31 := Bool.eq_false_iff.mpr c31
        subst c31
        have H1 : (some false) = some r := by rw [if_neg (show ¬ (false = true) by decide)] at H; exact H
        clear H
        have H := H1
        clear H1
        exact absurd (Option.some.inj H) (by rw [HR_.out]; decide)
      ·replace c29 := Bool.eq_false_iff.mpr c29
       subst c29
       have H1 : (laws_FnSourcesOfSums.j1 kj9 l1) = some r := by rw [if_neg (show ¬ (false = true) by decide)] at H; exact H
       clear H
       have H := H1
       clear H1
       as_aux_lemma =>
        have H' := Aside0.mk H
        clear H
        go_wp2
        go_meet
        case rel => exact ⟨_, H', ⟨by have := HJ9.out; first | omega | exact Nat.le_refl _⟩, ⟨by repeat (first | (with_reducible first | exact HB.out | apply below_alloc | apply pw_below_drewN | apply below_drew1) | exact HB.out)⟩⟩
     case rest =>
      as_aux_lemma =>
      clear HC28
      try clear c1
      try clear c2
      try clear p2
      try clear c3
      try clear c4
      try clear c5
      try clear c8
      try clear c9
      try clear c15
      try clear c17
      try clear c17b0
      try clear c17b1
      try clear c17b2
      try clear c18
      try clear c18b0
      try clear c18b1
      try clear c19
      try clear c19b0
      try clear c19b1
      try clear c19b2
      try clear c21
      try clear c22
      try clear c27
      try clear c29
      try clear c31
      try clear c33
      try clear p2
      obtain ⟨kq, HA, HJ27, HB⟩ := hcut
      cases kq with
      | zero => exact absurd HA.out (by simp [laws_FnSourcesOfSums.j1])
      | succ kj27 =>
       have H := HA.out
       clear HA
       simp only [laws_FnSourcesOfSums.j1] at H
       replace H := Option.bind_eq_some_iff.mp H
       obtain ⟨⟨t376, t377⟩, A370, H⟩ := H
       replace H : ((impl_AddReversed.f kj27 t376 t377).bind fun bt380 => (if bt380.2 = true then (if (bt380.1.length : Int) > 12 then (laws_FnSourcesOfSums.j2 kj27 t376 t377 bt380.1 true) else (if 0 < (t376.length : Int) then (laws_FnSourcesOfSums.j2 kj27 t376 t377 bt380.1 ((rd t376 0) == 0)) else (none))) else (laws_FnSourcesOfSums.j2 kj27 t376 t377 bt380.1 true))) = some r := H
       have A37 := Aside0.mk A370
       clear A370
       replace H := Option.bind_eq_some_iff.mp H
       obtain ⟨⟨t380, t381⟩, A380, H⟩ := H
       replace H : (if t381 = true then (if (t380.length : Int) > 12 then (laws_FnSourcesOfSums.j2 kj27 t376 t377 t380 true) else (if 0 < (t376.length : Int) then (laws_FnSourcesOfSums.j2 kj27 t376 t377 t380 ((rd t376 0) == 0)) else (none))) else (laws_FnSourcesOfSums.j2 kj27 t376 t377 t380 true)) = some r := H
       have A38 := Aside0.mk A380
       clear A380
       have HC39 := Aside0.mk H
       clear H
       go_upto_region 16 with (first | ((with_reducible refine gate_callee (f := 56) rfl ?_); refine goesL_ (some 102) rfl rfl Try.func56 (by kernel_rfl) rfl #[.slice A1 l1.length c1] rfl (by (try simp only [List.map_toArray, List.map_cons, List.map_nil]); first | done | rfl | (simp only [List.length_drop, List.length_take]; rfl)) ?_; (with_reducible refine (spec_DrawAddReversed.calls kj27 _ _ l1 t376 t377 _ ?side1 ?side2 A37.out).mono ?_); (case side1 => repeat (first | exact (Kd.C_below HR1.out HB.out) | (with_reducible refine Kd.C_alloc ?_ _) | (with_reducible refine Kd.C_drewN ?_ _) | (with_reducible refine Kd.C_drew ?_))); (case side2 => exact HC1.out); rintro e w40 ⟨v378, rfl, ho0, hb⟩; refine ⟨_, rfl, ?_⟩; have n0_ := Aside0.mk (Kd.R_lower ho0 (below_size (by repeat (first | (with_reducible first | exact HB.out | apply below_alloc | apply pw_below_drewN | apply below_drew1) | exact HB.out)))); have n1_ := Aside0.mk (below_step (by repeat (first | (with_reducible first | exact HB.out | apply below_alloc | apply pw_below_drewN | apply below_drew1) | exact HB.out)) hb); clear HB; have HO379 := n0_; have HB := n1_; clear n0_ n1_; (try clear hb); (try clear hb2); (try clear hk); (try clear hi); (try clear ho0); obtain ⟨Ao41, co41, eo41⟩ := Kd.R_slice HO379.out; subst eo41) | ((with_reducible refine gate_callee (f := 57) rfl ?_); refine goesL_ (some 108) rfl rfl Try.func57 (by kernel_rfl) rfl #[.slice Ao41 t376.length co41, .int .i64 t377] rfl (by (try simp only [List.map_toArray, List.map_cons, List.map_nil]); first | done | rfl | (simp only [List.length_drop, List.length_take]; rfl)) ?_; (with_reducible refine (impl_AddReversed.calls kj27 _ _ t376 t377 t380 t381 _ ?side1 ?side2 A38.out).mono ?_); (case side1 => repeat (first | exact (Kd.R_reads' HO379.out).2.2 | (with_reducible refine Kd.C_alloc ?_ _) | (with_reducible refine Kd.C_drewN ?_ _) | (with_reducible refine Kd.C_drew ?_))); (case side2 => exact (Kd.R_reads' HO379.out).2.1); rintro e w42 ⟨v382, rfl, ho0, hb⟩; refine ⟨_, rfl, ?_⟩; have n0_ := Aside0.mk (Kd.R_elder' (by (with_reducible repeat (first | apply Kd.R_alloc | apply Kd.R_drewN | apply Kd.R_drew)); exact HO379.out) (Kd.R_base ho0) hb); have n1_ := Aside0.mk (Kd.R_lower (Kd.R_new' ho0 (Kd.R_lt (by (with_reducible repeat (first | apply Kd.R_alloc | apply Kd.R_drewN | apply Kd.R_drew)); exact HO379.out))) (below_size (by repeat (first | (with_reducible first | exact HB.out | apply below_alloc | apply pw_below_drewN | apply below_drew1) | exact HB.out)))); have n2_ := Aside0.mk (below_step (by repeat (first | (with_reducible first | exact HB.out | apply below_alloc | apply pw_below_drewN | apply below_drew1) | exact HB.out)) hb); clear HO379; clear HB; have HO379 := n0_; have HO383 := n1_; have HB := n2_; clear n0_ n1_ n2_; (try clear hb); (try clear hb2); (try clear hk); (try clear hi); (try clear ho0)))
       (try simp only [Act.put, List.setIfInBounds_toArray, List.set_cons_zero, List.set_cons_succ])
       go_cut [123] (fun v123 wc => ∃ (kq : Nat) (x123_38 : Bool), v123 = .bool x123_38 ∧ Aside0 (laws_FnSourcesOfSums.j2 kq t376 t377 t380 x123_38 = some r) ∧ Aside0 (kq ≤ kj27) ∧ Aside0 (Kd.R (Kd.int .i64) 3 wc w.heap.size (fun k_ => some k_ ≠ (v382 : Value).ownBlock) (.slice Ao41 t376.length co41) t376) ∧ Aside0 (Kd.R (Kd.int .i64) 3 wc w.heap.size (fun k_ => some k_ ≠ ((.slice Ao41 t376.length co41) : Value).ownBlock) v382 t380) ∧ Aside0 (Below w.heap.size w wc))
       case first =>
        as_aux_lemma =>
        have H := HC39.out
        clear HC39
        by_cases c43 : t381 = true
        ·subst c43
         have H1 : (if (t380.length : Int) > 12 then (laws_FnSourcesOfSums.j2 kj27 t376 t377 t380 true) else (if 0 < (t376.length : Int) then (laws_FnSourcesOfSums.j2 kj27 t376 t377 t380 ((rd t376 0) == 0)) else (none))) = some r := by rw [if_pos rfl] at H; exact H
         clear H
         have H := H1
         clear H1
         by_cases c44 : (t380.length : Int) > 12
         ·rw [if_pos c44] at H
          have c44b0 : decide (12 < (t380.length : Int)) = true := decide_eq_true c44
          have c44b1 : decide (12 < t380.length) = true := decide_eq_true (by omega)
          clear c44
          (first | rw [c44b0] | (simp only [i64_w, i32_w]; rw [c44b0]) | skip)
          as_aux_lemma =>
           have H' := Aside0.mk H
           clear H
           obtain ⟨Ao45, co45, eo45⟩ := Kd.R_slice HO383.out
           subst eo45
           go_wp2
           go_meet
           case rel => exact ⟨_, (true), (by first | rfl | (simp; done) | (simp [*]; done)), H', ⟨by have := HJ9.out; have := HJ27.out; first | omega | exact Nat.le_refl _⟩, ⟨by (with_reducible repeat (first | apply Kd.R_alloc | apply Kd.R_drewN | apply Kd.R_drew)); exact Kd.R_mono HO379.out (fun _ hk => hk.2)⟩, ⟨by (with_reducible repeat (first | apply Kd.R_alloc | apply Kd.R_drewN | apply Kd.R_drew)); exact Kd.R_mono HO383.out (fun _ hk => hk.2)⟩, ⟨by repeat (first | (with_reducible first | exact HB.out | apply below_alloc | apply pw_below_drewN | apply below_drew1) | exact HB.out)⟩⟩
         ·rw [if_neg c44] at H
          have c44b0 : decide (12 < (t380.length : Int)) = false := decide_eq_false c44
          have c44b1 : decide (12 < t380.length) = false := decide_eq_false (by omega)
          clear c44
          (first | rw [c44b0] | (simp only [i64_w, i32_w]; rw [c44b0]) | skip)
          by_cases c46 : 0 < (t376.length : Int)
          ·rw [if_pos c46] at H
           have c46b0 : decide (0 < (t376.length : Int)) = true := decide_eq_true c46
           have c46b1 : decide (0 < t376.length) = true := decide_eq_true (by omega)
           clear c46
           as_aux_lemma =>
            have H' := Aside0.mk H
            clear H
            obtain ⟨Ao47, co47, eo47⟩ := Kd.R_slice HO383.out
            subst eo47
            have p384 : 0 ≤ (0 : Int) := (by omega)
            have q384 : 0 < (t376.length : Int) := of_decide_eq_true (by first | (with_reducible assumption) | assumption)
            obtain ⟨ad384, e384, hx384_0⟩ := Kd.at_int (Kd.R_reads' HO379.out).2.2 0 p384 q384
            cases e384
            have qi384 : (0 < t376.length) = True := eq_true (by omega)
            (try rw [show ((0 : Int)).toNat = 0 from rfl] at hx384_0)
            (try rw [Addr.add_zero'] at hx384_0)
            replace p384 := eq_true p384
            replace q384 := eq_true q384
            go_wp2
            go_meet
            case rel => exact ⟨_, (((rd t376 0) == 0)), (by first | rfl | (simp; done) | (simp [*]; done)), H', ⟨by have := HJ9.out; have := HJ27.out; first | omega | exact Nat.le_refl _⟩, ⟨by (with_reducible repeat (first | apply Kd.R_alloc | apply Kd.R_drewN | apply Kd.R_drew)); exact Kd.R_mono HO379.out (fun _ hk => hk.2)⟩, ⟨by (with_reducible repeat (first | apply Kd.R_alloc | apply Kd.R_drewN | apply Kd.R_drew)); exact Kd.R_mono HO383.out (fun _ hk => hk.2)⟩, ⟨by repeat (first | (with_reducible first | exact HB.out | apply below_alloc | apply pw_below_drewN | apply below_drew1) | exact HB.out)⟩⟩
          ·rw [if_neg c46] at H
           exact absurd H (by simp)
        ·replace c43 := Bool.eq_false_iff.mpr c43
         subst c43
         have H1 : (laws_FnSourcesOfSums.j2 kj27 t376 t377 t380 true) = some r := by rw [if_neg (show ¬ (false = true) by decide)] at H; exact H
         clear H
         have H := H1
         clear H1
         as_aux_lemma =>
          have H' := Aside0.mk H
          clear H
          go_wp2
          go_meet
          case rel => exact ⟨_, (true), (by first | rfl | (simp; done) | (simp [*]; done)), H', ⟨by have := HJ9.out; have := HJ27.out; first | omega | exact Nat.le_refl _⟩, ⟨by (with_reducible repeat (first | apply Kd.R_alloc | apply Kd.R_drewN | apply Kd.R_drew)); exact Kd.R_mono HO379.out (fun _ hk => hk.2)⟩, ⟨by (with_reducible repeat (first | apply Kd.R_alloc | apply Kd.R_drewN | apply Kd.R_drew)); exact Kd.R_mono HO383.out (fun _ hk => hk.2)⟩, ⟨by repeat (first | (with_reducible first | exact HB.out | apply below_alloc | apply pw_below_drewN | apply below_drew1) | exact HB.out)⟩⟩
       case rest =>
        as_aux_lemma =>
        clear HC39
        try clear c1
        try clear c2
        try clear p2
        try clear c3
        try clear p3
        try clear q3
        try clear hx3
        try clear qi3
        try clear c4
        try clear c5
        try clear c8
        try clear c9
        try clear c15
        try clear c17
        try clear c17b0
        try clear c17b1
        try clear c17b2
        try clear c18
        try clear c18b0
        try clear c18b1
        try clear c19
        try clear c19b0
        try clear c19b1
        try clear c19b2
        try clear c21
        try clear c22
        try clear c27
        try clear c29
        try clear c31
        try clear c33
        try clear p38
        try clear q38
        try clear hx38
        try clear qi38
        try clear c43
        try clear c44
        try clear c44b0
        try clear c44b1
        try clear c46
        try clear c46b0
        try clear c46b1
        try clear hx384_0
        try clear p2
        try clear p384
        try clear q384
        obtain ⟨kq, x123_38, rfl, HA, HJ38, HO_17, HO_19, HB⟩ := hcut
        cases kq with
        | zero => exact absurd HA.out (by simp [laws_FnSourcesOfSums.j2])
        | succ kj38 =>
         have H := HA.out
         clear HA
         simp only [laws_FnSourcesOfSums.j2] at H
         by_cases c48 : x123_38 = true
         ·subst c48
          have H1 : (some true) = some r := by rw [if_pos rfl] at H; exact H
          clear H
          have H := H1
          clear H1
          as_aux_lemma =>
           obtain rfl := Option.some.inj H
           go_wp2
           go_ret
           exact ⟨by first | rfl | (simp [errW_none, errW_some] <;> rfl) | (simp [*, errW_none, errW_some] <;> rfl), by repeat (first | (with_reducible first | exact HB.out | apply below_alloc | apply pw_below_drewN | apply below_drew1) | exact HB.out)⟩
         ·replace c48 := Bool.eq_false_iff.mpr c48
          subst c48
          have H1 : ((impl_CountSources.f kj38 t380 t377).bind fun bt385 => ((impl_FirstSource.f kj38 t380 t377).bind fun bt387 => (if bt385.2 = true then (if bt385.1 ≥ 1 then (if bt387.2 = true then (if (bt387.1.length : Int) < (t376.length : Int) then (some true) else (if (bt387.1.length : Int) = (t376.length : Int) then ((laws_qLess.f kj38 t376 bt387.1).bind fun t391 => (some (!t391))) else (some false))) else (some false)) else (some false)) else (some false)))) = some r := by rw [if_neg (show ¬ (false = true) by decide)] at H; exact H
          clear H
          have H := H1
          clear H1
          replace H := Option.bind_eq_some_iff.mp H
          obtain ⟨⟨t385, t386⟩, A490, H⟩ := H
          replace H : ((impl_FirstSource.f kj38 t380 t377).bind fun bt387 => (if t386 = true then (if t385 ≥ 1 then (if bt387.2 = true then (if (bt387.1.length : Int) < (t376.length : Int) then (some true) else (if (bt387.1.length : Int) = (t376.length : Int) then ((laws_qLess.f kj38 t376 bt387.1).bind fun t391 => (some (!t391))) else (some false))) else (some false)) else (some false)) else (some false))) = some r := H
          have A49 := Aside0.mk A490
          clear A490
          replace H := Option.bind_eq_some_iff.mp H
          obtain ⟨⟨t387, t388⟩, A500, H⟩ := H
          replace H : (if t386 = true then (if t385 ≥ 1 then (if t388 = true then (if (t387.length : Int) < (t376.length : Int) then (some true) else (if (t387.length : Int) = (t376.length : Int) then ((laws_qLess.f kj38 t376 t387).bind fun t391 => (some (!t391))) else (some false))) else (some false)) else (some false)) else (some false)) = some r := H
          have A50 := Aside0.mk A500
          clear A500
          by_cases c51 : t386 = true
          ·subst c51
           have H1 : (if t385 ≥ 1 then (if t388 = true then (if (t387.length : Int) < (t376.length : Int) then (some true) else (if (t387.length : Int) = (t376.length : Int) then ((laws_qLess.f kj38 t376 t387).bind fun t391 => (some (!t391))) else (some false))) else (some false)) else (some false)) = some r := by rw [if_pos rfl] at H; exact H
           clear H
           have H := H1
           clear H1
           by_cases c52 : t385 ≥ 1
           ·rw [if_pos c52] at H
            have c52b0 : decide (1 ≤ t385) = true := decide_eq_true c52
            clear c52
            by_cases c53 : t388 = true
            ·subst c53
             have H1 : (if (t387.length : Int) < (t376.length : Int) then (some true) else (if (t387.length : Int) = (t376.length : Int) then ((laws_qLess.f kj38 t376 t387).bind fun t391 => (some (!t391))) else (some false))) = some r := by rw [if_pos rfl] at H; exact H
             clear H
             have H := H1
             clear H1
             by_cases c54 : (t387.length : Int) < (t376.length : Int)
             ·rw [if_pos c54] at H
              have c54b0 : decide ((t387.length : Int) < (t376.length : Int)) = true := decide_eq_true c54
              have c54b1 : decide (t387.length < t376.length) = true := decide_eq_true (Int.ofNat_lt.mp c54)
              clear c54
              as_aux_lemma =>
               obtain rfl := Option.some.inj H
               obtain ⟨Ao55, co55, eo55⟩ := Kd.R_slice HO_19.out
               subst eo55
               go_wp2_with (first | ((with_reducible refine gate_callee (f := 95) rfl ?_); refine goesL_ (some 127) rfl rfl Try.func95 (by kernel_rfl) rfl #[.slice Ao55 t380.length co55, .int .i64 t377] rfl (by (try simp only [List.map_toArray, List.map_cons, List.map_nil]); first | done | rfl | (simp only [List.length_drop, List.length_take]; rfl)) ?_; (with_reducible refine (impl_CountSources.calls kj38 _ _ t380 t377 t385 true _ ?side1 ?side2 A49.out).mono ?_); (case side1 => repeat (first | exact (Kd.R_reads' HO_19.out).2.2 | (with_reducible refine Kd.C_alloc ?_ _) | (with_reducible refine Kd.C_drewN ?_ _) | (with_reducible refine Kd.C_drew ?_))); (case side2 => exact (Kd.R_reads' HO_19.out).2.1); rintro e w56 ⟨rfl, hb⟩; refine ⟨_, rfl, ?_⟩; have n0_ := Aside0.mk (Kd.R_below (by (with_reducible repeat (first | apply Kd.R_alloc | apply Kd.R_drewN | apply Kd.R_drew)); exact HO_17.out) hb); have n1_ := Aside0.mk (Kd.R_below (by (with_reducible repeat (first | apply Kd.R_alloc | apply Kd.R_drewN | apply Kd.R_drew)); exact HO_19.out) hb); have n2_ := Aside0.mk (below_step (by repeat (first | (with_reducible first | exact HB.out | apply below_alloc | apply pw_below_drewN | apply below_drew1) | exact HB.out)) hb); clear HO_17; clear HO_19; clear HB; have HO_17 := n0_; have HO_19 := n1_; have HB := n2_; clear n0_ n1_ n2_; (try clear hb); (try clear hb2); (try clear hk); (try clear hi)) | ((with_reducible refine gate_callee (f := 97) rfl ?_); refine goesL_ (some 133) rfl rfl Try.func97 (by kernel_rfl) rfl #[.slice Ao55 t380.length co55, .int .i64 t377] rfl (by (try simp only [List.map_toArray, List.map_cons, List.map_nil]); first | done | rfl | (simp only [List.length_drop, List.length_take]; rfl)) ?_; (with_reducible refine (impl_FirstSource.calls kj38 _ _ t380 t377 t387 true _ ?side1 ?side2 A50.out).mono ?_); (case side1 => repeat (first | exact (Kd.R_reads' HO_19.out).2.2 | (with_reducible refine Kd.C_alloc ?_ _) | (with_reducible refine Kd.C_drewN ?_ _) | (with_reducible refine Kd.C_drew ?_))); (case side2 => exact (Kd.R_reads' HO_19.out).2.1); rintro e w57 ⟨v389, rfl, ho0, hb⟩; refine ⟨_, rfl, ?_⟩; have n0_ := Aside0.mk (Kd.R_elder' (by (with_reducible repeat (first | apply Kd.R_alloc | apply Kd.R_drewN | apply Kd.R_drew)); exact HO_17.out) (Kd.R_base ho0) hb); have n1_ := Aside0.mk (Kd.R_elder' (by (with_reducible repeat (first | apply Kd.R_alloc | apply Kd.R_drewN | apply Kd.R_drew)); exact HO_19.out) (Kd.R_base ho0) hb); have n2_ := Aside0.mk (Kd.R_lower (Kd.R_new' (Kd.R_new' ho0 (Kd.R_lt (by (with_reducible repeat (first | apply Kd.R_alloc | apply Kd.R_drewN | apply Kd.R_drew)); exact HO_17.out))) (Kd.R_lt (by (with_reducible repeat (first | apply Kd.R_alloc | apply Kd.R_drewN | apply Kd.R_drew)); exact HO_19.out))) (below_size (by repeat (first | (with_reducible first | exact HB.out | apply below_alloc | apply pw_below_drewN | apply below_drew1) | exact HB.out)))); have n3_ := Aside0.mk (below_step (by repeat (first | (with_reducible first | exact HB.out | apply below_alloc | apply pw_below_drewN | apply below_drew1) | exact HB.out)) hb); clear HO_17; clear HO_19; clear HB; have HO_17 := n0_; have HO_19 := n1_; have HO390 := n2_; have HB := n3_; clear n0_ n1_ n2_ n3_; (try clear hb); (try clear hb2); (try clear hk); (try clear hi); (try clear ho0); obtain ⟨Ao58, co58, eo58⟩ := Kd.R_slice HO390.out; subst eo58))
               go_ret
               exact ⟨by first | rfl | (simp [errW_none, errW_some] <;> rfl) | (simp [*, errW_none, errW_some] <;> rfl), by repeat (first | (with_reducible first | exact HB.out | apply below_alloc | apply pw_below_drewN | apply below_drew1) | exact HB.out)⟩
             ·rw [if_neg c54] at H
              have c54b0 : decide ((t387.length : Int) < (t376.length : Int)) = false := decide_eq_false c54
              have c54b1 : decide (t387.length < t376.length) = false := decide_eq_false (fun h => c54 (Int.ofNat_lt.mpr h))
              clear c54
              by_cases c59 : (t387.length : Int) = (t376.length : Int)
              ·rw [if_pos c59] at H
               have c59b0 : ((t387.length : Int) == (t376.length : Int)) = true := beq_iff_eq.mpr c59
               have c59b1 : ((t387.length : Int) != (t376.length : Int)) = false := bne_eq_false_iff_eq.mpr c59
               have c59b2 : (t387.length == t376.length) = true := by first | simpa using c59 | (simp at c59 ⊢; omega)
               clear c59
               replace H := Option.bind_eq_some_iff.mp H
               obtain ⟨t391, A600, H⟩ := H
               replace H : (some (!t391)) = some r := H
               have A60 := Aside0.mk A600
               clear A600
               as_aux_lemma =>
                obtain rfl := Option.some.inj H
                obtain ⟨Ao61, co61, eo61⟩ := Kd.R_slice HO_19.out
                subst eo61
                go_wp2_with (first | ((with_reducible refine gate_callee (f := 95) rfl ?_); refine goesL_ (some 127) rfl rfl Try.func95 (by kernel_rfl) rfl #[.slice Ao61 t380.length co61, .int .i64 t377] rfl (by (try simp only [List.map_toArray, List.map_cons, List.map_nil]); first | done | rfl | (simp only [List.length_drop, List.length_take]; rfl)) ?_; (with_reducible refine (impl_CountSources.calls kj38 _ _ t380 t377 t385 true _ ?side1 ?side2 A49.out).mono ?_); (case side1 => repeat (first | exact (Kd.R_reads' HO_19.out).2.2 | (with_reducible refine Kd.C_alloc ?_ _) | (with_reducible refine Kd.C_drewN ?_ _) | (with_reducible refine Kd.C_drew ?_))); (case side2 => exact (Kd.R_reads' HO_19.out).2.1); rintro e w62 ⟨rfl, hb⟩; refine ⟨_, rfl, ?_⟩; have n0_ := Aside0.mk (Kd.R_below (by (with_reducible repeat (first | apply Kd.R_alloc | apply Kd.R_drewN | apply Kd.R_drew)); exact HO_17.out) hb); have n1_ := Aside0.mk (Kd.R_below (by (with_reducible repeat (first | apply Kd.R_alloc | apply Kd.R_drewN | apply Kd.R_drew)); exact HO_19.out) hb); have n2_ := Aside0.mk (below_step (by repeat (first | (with_reducible first | exact HB.out | apply below_alloc | apply pw_below_drewN | apply below_drew1) | exact HB.out)) hb); clear HO_17; clear HO_19; clear HB; have HO_17 := n0_; have HO_19 := n1_; have HB := n2_; clear n0_ n1_ n2_; (try clear hb); (try clear hb2); (try clear hk); (try clear hi)) | ((with_reducible refine gate_callee (f := 97) rfl ?_); refine goesL_ (some 133) rfl rfl Try.func97 (by kernel_rfl) rfl #[.slice Ao61 t380.length co61, .int .i64 t377] rfl (by (try simp only [List.map_toArray, List.map_cons, List.map_nil]); first | done | rfl | (simp only [List.length_drop, List.length_take]; rfl)) ?_; (with_reducible refine (impl_FirstSource.calls kj38 _ _ t380 t377 t387 true _ ?side1 ?side2 A50.out).mono ?_); (case side1 => repeat (first | exact (Kd.R_reads' HO_19.out).2.2 | (with_reducible refine Kd.C_alloc ?_ _) | (with_reducible refine Kd.C_drewN ?_ _) | (with_reducible refine Kd.C_drew ?_))); (case side2 => exact (Kd.R_reads' HO_19.out).2.1); rintro e w63 ⟨v389, rfl, ho0, hb⟩; refine ⟨_, rfl, ?_⟩; have n0_ := Aside0.mk (Kd.R_elder' (by (with_reducible repeat (first | apply Kd.R_alloc | apply Kd.R_drewN | apply Kd.R_drew)); exact HO_17.out) (Kd.R_base ho0) hb); have n1_ := Aside0.mk (Kd.R_elder' (by (with_reducible repeat (first | apply Kd.R_alloc | apply Kd.R_drewN | apply Kd.R_drew)); exact HO_19.out) (Kd.R_base ho0) hb); have n2_ := Aside0.mk (Kd.R_lower (Kd.R_new' (Kd.R_new' ho0 (Kd.R_lt (by (with_reducible repeat (first | apply Kd.R_alloc | apply Kd.R_drewN | apply Kd.R_drew)); exact HO_17.out))) (Kd.R_lt (by (with_reducible repeat (first | apply Kd.R_alloc | apply Kd.R_drewN | apply Kd.R_drew)); exact HO_19.out))) (below_size (by repeat (first | (with_reducible first | exact HB.out | apply below_alloc | apply pw_below_drewN | apply below_drew1) | exact HB.out)))); have n3_ := Aside0.mk (below_step (by repeat (first | (with_reducible first | exact HB.out | apply below_alloc | apply pw_below_drewN | apply below_drew1) | exact HB.out)) hb); clear HO_17; clear HO_19; clear HB; have HO_17 := n0_; have HO_19 := n1_; have HO390 := n2_; have HB := n3_; clear n0_ n1_ n2_ n3_; (try clear hb); (try clear hb2); (try clear hk); (try clear hi); (try clear ho0); obtain ⟨Ao64, co64, eo64⟩ := Kd.R_slice HO390.out; subst eo64) | (go_at_call 99; (with_reducible refine (laws_qLess.calls kj38 _ _ t376 _ _ t387 t391 _ ?side1 ?side2 ?side3 ?side4 A60.out).mono ?_); (case side1 => repeat (first | exact (Kd.R_reads' HO_17.out).2.2 | (with_reducible refine Kd.C_alloc ?_ _) | (with_reducible refine Kd.C_drewN ?_ _) | (with_reducible refine Kd.C_drew ?_))); (case side2 => exact (Kd.R_reads' HO_17.out).2.1); (case side3 => repeat (first | exact (Kd.R_reads' HO390.out).2.2 | (with_reducible refine Kd.C_alloc ?_ _) | (with_reducible refine Kd.C_drewN ?_ _) | (with_reducible refine Kd.C_drew ?_))); (case side4 => exact (Kd.R_reads' HO390.out).2.1); rintro e w' ⟨rfl, ⟨nd, rfl⟩⟩))
                go_ret
                exact ⟨by first | rfl | (simp [errW_none, errW_some] <;> rfl) | (simp [*, errW_none, errW_some] <;> rfl), by repeat (first | (with_reducible first | exact HB.out | apply below_alloc | apply pw_below_drewN | apply below_drew1) | exact HB.out)⟩
              ·rw [if_neg c59] at H
               have c59b0 : ((t387.length : Int) == (t376.length : Int)) = false := beq_eq_false_iff_ne.mpr c59
               have c59b1 : ((t387.length : Int) != (t376.length : Int)) = true := bne_iff_ne.mpr c59
               have c59b2 : (t387.length == t376.length) = false := by first | simpa using c59 | (simp at c59 ⊢; omega)
               exact absurd (Option.some.inj H) (by rw [HR_.out]; decide)
            ·replace c53 := Bool.eq_false_iff.mpr c53
             subst c53
             have H1 : (some false) = some r := by rw [if_neg (show ¬ (false = true) by decide)] at H; exact H
             clear H
             have H := H1
             clear H1
             exact absurd (Option.some.inj H) (by rw [HR_.out]; decide)
           ·rw [if_neg c52] at H
            have c52b0 : decide (1 ≤ t385) = false := decide_eq_false c52
            clear c52
            exact absurd (Option.some.inj H) (by rw [HR_.out]; decide)
          ·replace c51 := Bool.eq_false_iff.mpr c51
           subst c51
           have H1 : (some false) = some r := by rw [if_neg (show ¬ (false = true) by decide)] at H; exact H
           clear H
           have H := H1
           clear H1
           exact absurd (Option.some.inj H) (by rw [HR_.out]; decide)

/-- THE ONE PURE STATEMENT of laws_FnSourcesOfSums: yours. -/
def laws_FnSourcesOfSums.Pure : Prop := ∀ (l0 : List Int) (l1 : List Int), l0.length ≤ maxLen → l0.length * 1 ≤ 140737488351232 → (∀ x ∈ l0, (Lit.int .u8 x).wf = true) → l1.length ≤ maxLen → l1.length * 1 ≤ 140737488351232 → (∀ x ∈ l1, (Lit.int .u8 x).wf = true) → ∃ k, laws_FnSourcesOfSums.f k l0 l1 = some true
theorem laws_FnSourcesOfSums.walk (P : laws_FnSourcesOfSums.Pure) (a0 : Option Addr) (len0 cap0 : Nat) (z0 : List Int) (a1 : Option Addr) (len1 cap1 : Nat) (z1 : List Int) (w : World) (w0 : (a0 = none ∧ len0 = 0 ∧ cap0 = 0 ∧ z0 = []) ∨ ∃ x, a0 = some x ∧ len0 ≤ cap0 ∧ cap0 ≤ maxLen ∧ z0.length = cap0 ∧ (∀ i, i < z0.length → w.cell? (x.add i) = some (.int .u8 (z0.getD i 0))) ∧ ∀ n ∈ z0, (Lit.int .u8 n).wf = true) (y0 : len0 * 1 ≤ 140737488351232) (w1 : (a1 = none ∧ len1 = 0 ∧ cap1 = 0 ∧ z1 = []) ∨ ∃ x, a1 = some x ∧ len1 ≤ cap1 ∧ cap1 ≤ maxLen ∧ z1.length = cap1 ∧ (∀ i, i < z1.length → w.cell? (x.add i) = some (.int .u8 (z1.getD i 0))) ∧ ∀ n ∈ z1, (Lit.int .u8 n).wf = true) (y1 : len1 * 1 ≤ 140737488351232) :
  Calls Try.prog 8 #[.slice a0 len0 cap0, .slice a1 len1 cap1] w fun e w' => e = .returned (.bool true) ∧ Below w.heap.size w w' := by
 obtain ⟨l0, rfl, hr0, hm0, hw0, hc0⟩ := ReadsInt.ofRowC w0
 obtain ⟨l1, rfl, hr1, hm1, hw1, hc1⟩ := ReadsInt.ofRowC w1
 obtain ⟨k, h⟩ := P l0 l1 hm0 y0 hw0 hm1 y1 hw1
 refine (laws_FnSourcesOfSums.calls k _ _ l0 _ _ l1 true w (Kd.C_of_reads (d := (0 : Int)) (h1 := fun _ => rfl) hr0) hc0 (Kd.C_of_reads (d := (0 : Int)) (h1 := fun _ => rfl) hr1) hc1 h rfl).mono ?_
 rintro e w' ⟨rfl, hd⟩
 exact ⟨rfl, hd⟩

end Go.Proofs.Ytiheocddlopfcaa.PFnSourcesOfSums
