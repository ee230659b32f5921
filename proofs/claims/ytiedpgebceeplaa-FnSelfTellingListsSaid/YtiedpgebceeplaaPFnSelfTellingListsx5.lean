-- out of the kit's print, turned by wip/own_print.py
import Derived.Test.YtiedpgebceeplaaPFnSelfTellingListsx0
import Derived.Test.YtiedpgebceeplaaPFnSelfTellingListsx1
import Derived.Test.YtiedpgebceeplaaPFnSelfTellingListsx2
import Derived.Test.YtiedpgebceeplaaPFnSelfTellingListsx3
import Derived.Test.YtiedpgebceeplaaPFnSelfTellingListsx4
namespace Go.Proofs.Ytiedpgebceeplaa.PFnSelfTellingLists
open Go.RowKit Go.Proofs.YtiedpgebceeplaaW.PrintWords Go.Proofs.YtiedpgebceeplaaW.PrintLast Go.Proofs.YtiedpgebceeplaaW.PrintMore
attribute [local go_sem] max2_int min2_int max_two min_two max_three min_three max_four min_four   -- for this text's walks alone
set_option linter.unusedVariables false
set_option linter.unusedSimpArgs false

/-! ### laws_FnSelfTellingLists: function 4 -/
mutual
def laws_FnSelfTellingLists.j0 : Nat → List Int → Int → List (List Int) → Bool → Bool → Option (Bool)
  | 0, _, _, _, _, _ => none
  | k + 1, x1, x5, x6, x7, x49 => if x49 = true then (some false) else (laws_FnSelfTellingLists.l0 k x1 x5 x6 x7 x6 (x6.length : Int) 0)
def laws_FnSelfTellingLists.l0 : Nat → List Int → Int → List (List Int) → Bool → List (List Int) → Int → Int → Option (Bool)
  | 0, _, _, _, _, _, _, _ => none
  | k + 1, x1, x5, x6, x7, x50, x51, x52 => if x52 < x51 then (if 0 ≤ x52 then (if x52 < (x50.length : Int) then ((impl_IsSelfTelling.f k (rd_L2 x50 x52)).bind fun bt249 => ((impl_TellCounts.f k (rd_L2 x50 x52)).bind fun bt251 => (if bt249.2 = true then (if bt249.1 = true then (if bt251.2 = true then ((laws_qSame.f k bt251.1 (rd_L2 x50 x52)).bind fun t255 => (if t255 = true then (if ((rd_L2 x50 x52).length : Int) = x5 then ((laws_qSum.f k (rd_L2 x50 x52)).bind fun t256 => (if t256 = x5 then (if x52 > 0 then (if 0 ≤ (wrap64 (x52 - 1)) then (if (wrap64 (x52 - 1)) < (x6.length : Int) then ((laws_qLess.f k (rd_L2 x6 (wrap64 (x52 - 1))) (rd_L2 x50 x52)).bind fun t258 => (if t258 = true then (laws_FnSelfTellingLists.l0 k x1 x5 x6 x7 x50 x51 (wrap64 (x52 + 1))) else (some false))) else (none)) else (none)) else (laws_FnSelfTellingLists.l0 k x1 x5 x6 x7 x50 x51 (wrap64 (x52 + 1)))) else (some false))) else (some false)) else (some false))) else (some false)) else (some false)) else (some false)))) else (none)) else (none)) else (if x7 = true then (laws_FnSelfTellingLists.j2 k x1 x5 x6 (decide (x5 ≥ 7))) else (laws_FnSelfTellingLists.j2 k x1 x5 x6 false))
def laws_FnSelfTellingLists.j2 : Nat → List Int → Int → List (List Int) → Bool → Option (Bool)
  | 0, _, _, _, _ => none
  | k + 1, x1, x5, x6, x114 => if x114 = true then (if 0 ≤ x5 then (if (x5 : Int).toNat ≤ 35184372088832 then ((some (List.replicate (x5 : Int).toNat 0 : List Int)).bind fun y259 => (if 0 < (y259.length : Int) then (if 1 < (y259.length : Int) then (if 2 < (y259.length : Int) then (if 0 ≤ (wrap64 (x5 - 4)) then (if (wrap64 (x5 - 4)) < (y259.length : Int) then (if (x6.length : Int) = 1 then (if 0 < (x6.length : Int) then ((laws_qSame.f k (rd_L2 x6 0) ((((y259.set (0 : Int).toNat (wrap64 (x5 - 4))).set (1 : Int).toNat 2).set (2 : Int).toNat 1).set ((wrap64 (x5 - 4)) : Int).toNat 1)).bind fun t267 => (if t267 = true then (laws_FnSelfTellingLists.j3 k x1) else (some false))) else (none)) else (some false)) else (none)) else (none)) else (none)) else (none)) else (none))) else (none)) else (none)) else (laws_FnSelfTellingLists.j3 k x1)
def laws_FnSelfTellingLists.j3 : Nat → List Int → Option (Bool)
  | 0, _ => none
  | k + 1, x1 => (spec_DrawIsSelfTelling.f k x1).bind fun t268 => ((impl_IsSelfTelling.f k t268).bind fun bt271 => ((spec_IsSelfTelling.f k t268).bind fun bt273 => ((impl_TellCounts.f k t268).bind fun bt275 => ((spec_TellCounts.f k t268).bind fun bt279 => (if (bt271.2 == bt273.2) = true then (if (bt271.1 == bt273.1) = true then (if (bt275.2 == bt279.2) = true then ((laws_qSame.f k bt275.1 bt279.1).bind fun t283 => (if t283 = true then (if (bt275.2 == bt271.2) = true then (if bt271.2 = true then ((laws_qSame.f k bt275.1 t268).bind fun t284 => (some (bt271.1 == t284))) else (some true)) else (some false)) else (some false))) else (some false)) else (some false)) else (some false))))))
end
def laws_FnSelfTellingLists.f (k : Nat) (l0 : List Int) (l1 : List Int) : Option (Bool) := (laws_big.f l0 l1).bind fun t237 => (if t237 = true then (some true) else ((spec_DrawSelfTelling.f l0).bind fun t238 => ((impl_SelfTelling.f k t238).bind fun bt239 => ((spec_SelfTelling.f k t238).bind fun bt243 => (if (bt239.2 != bt243.2) = true then (laws_FnSelfTellingLists.j0 k l1 t238 bt239.1 bt239.2 true) else ((laws_qSameRows.f k bt239.1 bt243.1).bind fun t247 => (laws_FnSelfTellingLists.j0 k l1 t238 bt239.1 bt239.2 (!t247))))))))
theorem laws_FnSelfTellingLists.mono_l : ∀ k, (∀ y0 y1 y2 y3 y4, LeO (laws_FnSelfTellingLists.j0 k y0 y1 y2 y3 y4) (laws_FnSelfTellingLists.j0 (k + 1) y0 y1 y2 y3 y4)) ∧ (∀ y0 y1 y2 y3 y4 y5 y6, LeO (laws_FnSelfTellingLists.l0 k y0 y1 y2 y3 y4 y5 y6) (laws_FnSelfTellingLists.l0 (k + 1) y0 y1 y2 y3 y4 y5 y6)) ∧ (∀ y0 y1 y2 y3, LeO (laws_FnSelfTellingLists.j2 k y0 y1 y2 y3) (laws_FnSelfTellingLists.j2 (k + 1) y0 y1 y2 y3)) ∧ (∀ y0, LeO (laws_FnSelfTellingLists.j3 k y0) (laws_FnSelfTellingLists.j3 (k + 1) y0))
  | 0 => ⟨fun _ _ _ _ _ r h => by simp [laws_FnSelfTellingLists.j0] at h, fun _ _ _ _ _ _ _ r h => by simp [laws_FnSelfTellingLists.l0] at h, fun _ _ _ _ r h => by simp [laws_FnSelfTellingLists.j2] at h, fun _ r h => by simp [laws_FnSelfTellingLists.j3] at h⟩
  | k + 1 => by
    obtain ⟨ih0, ih1, ih2, ih3⟩ := laws_FnSelfTellingLists.mono_l k
    refine ⟨?_, ?_, ?_, ?_⟩
    · intro y0 y1 y2 y3 y4
      unfold laws_FnSelfTellingLists.j0
      repeat' first
      | (with_reducible exact ih0 _ _ _ _ _)
      | (with_reducible exact ih1 _ _ _ _ _ _ _)
      | (with_reducible exact ih2 _ _ _ _)
      | (with_reducible exact ih3 _)
      | (with_reducible exact impl_IsSelfTelling.mono _ _)
      | (with_reducible exact impl_SelfTelling.mono _ _)
      | (with_reducible exact impl_TellCounts.mono _ _)
      | (with_reducible exact laws_qLess.mono _ _ _)
      | (with_reducible exact laws_qSame.mono _ _ _)
      | (with_reducible exact laws_qSameRows.mono _ _ _)
      | (with_reducible exact laws_qSum.mono _ _)
      | (with_reducible exact spec_DrawIsSelfTelling.mono _ _)
      | (with_reducible exact spec_IsSelfTelling.mono _ _)
      | (with_reducible exact spec_SelfTelling.mono _ _)
      | (with_reducible exact spec_TellCounts.mono _ _)
      | (with_reducible exact LeO.refl _)
      | (with_reducible exact LeO.none _)
      | (with_reducible refine LeO.ite ?_ ?_)
      | (with_reducible refine LeO.bind ?_ (fun _ => ?_))
      | exact ih0 _ _ _ _ _
      | exact ih1 _ _ _ _ _ _ _
      | exact ih2 _ _ _ _
      | exact ih3 _
      | exact impl_IsSelfTelling.mono _ _
      | exact impl_SelfTelling.mono _ _
      | exact impl_TellCounts.mono _ _
      | exact laws_qLess.mono _ _ _
      | exact laws_qSame.mono _ _ _
      | exact laws_qSameRows.mono _ _ _
      | exact laws_qSum.mono _ _
      | exact spec_DrawIsSelfTelling.mono _ _
      | exact spec_IsSelfTelling.mono _ _
      | exact spec_SelfTelling.mono _ _
      | exact spec_TellCounts.mono _ _
      | exact LeO.none _
      | refine LeO.ite ?_ ?_
      | refine LeO.bind ?_ (fun _ => ?_)
    · intro y0 y1 y2 y3 y4 y5 y6
      unfold laws_FnSelfTellingLists.l0
      repeat' first
      | (with_reducible exact ih0 _ _ _ _ _)
      | (with_reducible exact ih1 _ _ _ _ _ _ _)
      | (with_reducible exact ih2 _ _ _ _)
      | (with_reducible exact ih3 _)
      | (with_reducible exact impl_IsSelfTelling.mono _ _)
      | (with_reducible exact impl_SelfTelling.mono _ _)
      | (with_reducible exact impl_TellCounts.mono _ _)
      | (with_reducible exact laws_qLess.mono _ _ _)
      | (with_reducible exact laws_qSame.mono _ _ _)
      | (with_reducible exact laws_qSameRows.mono _ _ _)
      | (with_reducible exact laws_qSum.mono _ _)
      | (with_reducible exact spec_DrawIsSelfTelling.mono _ _)
      | (with_reducible exact spec_IsSelfTelling.mono _ _)
      | (with_reducible exact spec_SelfTelling.mono _ _)
      | (with_reducible exact spec_TellCounts.mono _ _)
      | (with_reducible exact LeO.refl _)
      | (with_reducible exact LeO.none _)
      | (with_reducible refine LeO.ite ?_ ?_)
      | (with_reducible refine LeO.bind ?_ (fun _ => ?_))
      | exact ih0 _ _ _ _ _
      | exact ih1 _ _ _ _ _ _ _
      | exact ih2 _ _ _ _
      | exact ih3 _
      | exact impl_IsSelfTelling.mono _ _
      | exact impl_SelfTelling.mono _ _
      | exact impl_TellCounts.mono _ _
      | exact laws_qLess.mono _ _ _
      | exact laws_qSame.mono _ _ _
      | exact laws_qSameRows.mono _ _ _
      | exact laws_qSum.mono _ _
      | exact spec_DrawIsSelfTelling.mono _ _
      | exact spec_IsSelfTelling.mono _ _
      | exact spec_SelfTelling.mono _ _
      | exact spec_TellCounts.mono _ _
      | exact LeO.none _
      | refine LeO.ite ?_ ?_
      | refine LeO.bind ?_ (fun _ => ?_)
    · intro y0 y1 y2 y3
      unfold laws_FnSelfTellingLists.j2
      repeat' first
      | (with_reducible exact ih0 _ _ _ _ _)
      | (with_reducible exact ih1 _ _ _ _ _ _ _)
      | (with_reducible exact ih2 _ _ _ _)
      | (with_reducible exact ih3 _)
      | (with_reducible exact impl_IsSelfTelling.mono _ _)
      | (with_reducible exact impl_SelfTelling.mono _ _)
      | (with_reducible exact impl_TellCounts.mono _ _)
      | (with_reducible exact laws_qLess.mono _ _ _)
      | (with_reducible exact laws_qSame.mono _ _ _)
      | (with_reducible exact laws_qSameRows.mono _ _ _)
      | (with_reducible exact laws_qSum.mono _ _)
      | (with_reducible exact spec_DrawIsSelfTelling.mono _ _)
      | (with_reducible exact spec_IsSelfTelling.mono _ _)
      | (with_reducible exact spec_SelfTelling.mono _ _)
      | (with_reducible exact spec_TellCounts.mono _ _)
      | (with_reducible exact LeO.refl _)
      | (with_reducible exact LeO.none _)
      | (with_reducible refine LeO.ite ?_ ?_)
      | (with_reducible refine LeO.bind ?_ (fun _ => ?_))
      | exact ih0 _ _ _ _ _
      | exact ih1 _ _ _ _ _ _ _
      | exact ih2 _ _ _ _
      | exact ih3 _
      | exact impl_IsSelfTelling.mono _ _
      | exact impl_SelfTelling.mono _ _
      | exact impl_TellCounts.mono _ _
      | exact laws_qLess.mono _ _ _
      | exact laws_qSame.mono _ _ _
      | exact laws_qSameRows.mono _ _ _
      | exact laws_qSum.mono _ _
      | exact spec_DrawIsSelfTelling.mono _ _
      | exact spec_IsSelfTelling.mono _ _
      | exact spec_SelfTelling.mono _ _
      | exact spec_TellCounts.mono _ _
      | exact LeO.none _
      | refine LeO.ite ?_ ?_
      | refine LeO.bind ?_ (fun _ => ?_)
    · intro y0
      unfold laws_FnSelfTellingLists.j3
      repeat' first
      | (with_reducible exact ih0 _ _ _ _ _)
      | (with_reducible exact ih1 _ _ _ _ _ _ _)
      | (with_reducible exact ih2 _ _ _ _)
      | (with_reducible exact ih3 _)
      | (with_reducible exact impl_IsSelfTelling.mono _ _)
      | (with_reducible exact impl_SelfTelling.mono _ _)
      | (with_reducible exact impl_TellCounts.mono _ _)
      | (with_reducible exact laws_qLess.mono _ _ _)
      | (with_reducible exact laws_qSame.mono _ _ _)
      | (with_reducible exact laws_qSameRows.mono _ _ _)
      | (with_reducible exact laws_qSum.mono _ _)
      | (with_reducible exact spec_DrawIsSelfTelling.mono _ _)
      | (with_reducible exact spec_IsSelfTelling.mono _ _)
      | (with_reducible exact spec_SelfTelling.mono _ _)
      | (with_reducible exact spec_TellCounts.mono _ _)
      | (with_reducible exact LeO.refl _)
      | (with_reducible exact LeO.none _)
      | (with_reducible refine LeO.ite ?_ ?_)
      | (with_reducible refine LeO.bind ?_ (fun _ => ?_))
      | exact ih0 _ _ _ _ _
      | exact ih1 _ _ _ _ _ _ _
      | exact ih2 _ _ _ _
      | exact ih3 _
      | exact impl_IsSelfTelling.mono _ _
      | exact impl_SelfTelling.mono _ _
      | exact impl_TellCounts.mono _ _
      | exact laws_qLess.mono _ _ _
      | exact laws_qSame.mono _ _ _
      | exact laws_qSameRows.mono _ _ _
      | exact laws_qSum.mono _ _
      | exact spec_DrawIsSelfTelling.mono _ _
      | exact spec_IsSelfTelling.mono _ _
      | exact spec_SelfTelling.mono _ _
      | exact spec_TellCounts.mono _ _
      | exact LeO.none _
      | refine LeO.ite ?_ ?_
      | refine LeO.bind ?_ (fun _ => ?_)
theorem laws_FnSelfTellingLists.mono : ∀ a0 a1 k, LeO (laws_FnSelfTellingLists.f k a0 a1) (laws_FnSelfTellingLists.f (k + 1) a0 a1) := by
  intro a0 a1 k
  obtain ⟨ih0, ih1, ih2, ih3⟩ := laws_FnSelfTellingLists.mono_l k
  unfold laws_FnSelfTellingLists.f
  repeat' first
      | (with_reducible exact ih0 _ _ _ _ _)
      | (with_reducible exact ih1 _ _ _ _ _ _ _)
      | (with_reducible exact ih2 _ _ _ _)
      | (with_reducible exact ih3 _)
      | (with_reducible exact impl_IsSelfTelling.mono _ _)
      | (with_reducible exact impl_SelfTelling.mono _ _)
      | (with_reducible exact impl_TellCounts.mono _ _)
      | (with_reducible exact laws_qLess.mono _ _ _)
      | (with_reducible exact laws_qSame.mono _ _ _)
      | (with_reducible exact laws_qSameRows.mono _ _ _)
      | (with_reducible exact laws_qSum.mono _ _)
      | (with_reducible exact spec_DrawIsSelfTelling.mono _ _)
      | (with_reducible exact spec_IsSelfTelling.mono _ _)
      | (with_reducible exact spec_SelfTelling.mono _ _)
      | (with_reducible exact spec_TellCounts.mono _ _)
      | (with_reducible exact LeO.refl _)
      | (with_reducible exact LeO.none _)
      | (with_reducible refine LeO.ite ?_ ?_)
      | (with_reducible refine LeO.bind ?_ (fun _ => ?_))
      | exact ih0 _ _ _ _ _
      | exact ih1 _ _ _ _ _ _ _
      | exact ih2 _ _ _ _
      | exact ih3 _
      | exact impl_IsSelfTelling.mono _ _
      | exact impl_SelfTelling.mono _ _
      | exact impl_TellCounts.mono _ _
      | exact laws_qLess.mono _ _ _
      | exact laws_qSame.mono _ _ _
      | exact laws_qSameRows.mono _ _ _
      | exact laws_qSum.mono _ _
      | exact spec_DrawIsSelfTelling.mono _ _
      | exact spec_IsSelfTelling.mono _ _
      | exact spec_SelfTelling.mono _ _
      | exact spec_TellCounts.mono _ _
      | exact LeO.none _
      | refine LeO.ite ?_ ?_
      | refine LeO.bind ?_ (fun _ => ?_)
theorem laws_FnSelfTellingLists.j0_no {r : Bool} (hr : r = true) (k : Nat) (x1 : List Int) (x5 : Int) (x6 : List (List Int)) (x7 : Bool) (h : laws_FnSelfTellingLists.j0 k x1 x5 x6 x7 true = some r) : False := by
  subst hr
  cases k with
  | zero => simp [laws_FnSelfTellingLists.j0] at h
  | succ k => simp [laws_FnSelfTellingLists.j0] at h
set_option maxHeartbeats 8000000 in
set_option maxRecDepth 100000 in
theorem laws_FnSelfTellingLists.calls (k : Nat) (A0 : Option Addr) (c0 : Nat) (l0 : List Int) (A1 : Option Addr) (c1 : Nat) (l1 : List Int) (r : Bool) (w : World) (hr0 : Kd.C (Kd.int .u8) w A0 l0.length l0) (hc0 : l0.length ≤ c0) (hr1 : Kd.C (Kd.int .u8) w A1 l1.length l1) (hc1 : l1.length ≤ c1) (h : laws_FnSelfTellingLists.f k l0 l1 = some r) (hr_ : r = true) :
    Calls Try.prog 4 #[.slice A0 l0.length c0, .slice A1 l1.length c1] w fun e w' => e = .returned (.bool r) ∧ Below w.heap.size w w' := by
  have HR0 := Aside0.mk hr0
  have HC0 := Aside0.mk hc0
  clear hr0 hc0
  have HR1 := Aside0.mk hr1
  have HC1 := Aside0.mk hc1
  clear hr1 hc1
  have HB := Aside0.mk (Below.refl w.heap.size w)
  have H : ((laws_big.f l0 l1).bind fun t237 => (if t237 = true then (some true) else ((spec_DrawSelfTelling.f l0).bind fun t238 => ((impl_SelfTelling.f k t238).bind fun bt239 => ((spec_SelfTelling.f k t238).bind fun bt243 => (if (bt239.2 != bt243.2) = true then (laws_FnSelfTellingLists.j0 k l1 t238 bt239.1 bt239.2 true) else ((laws_qSameRows.f k bt239.1 bt243.1).bind fun t247 => (laws_FnSelfTellingLists.j0 k l1 t238 bt239.1 bt239.2 (!t247))))))))) = some r := h
  clear h
  have HR_ := Aside0.mk hr_
  clear hr_
  replace H := Option.bind_eq_some_iff.mp H
  obtain ⟨t237, A30, H⟩ := H
  replace H : (if t237 = true then (some true) else ((spec_DrawSelfTelling.f l0).bind fun t238 => ((impl_SelfTelling.f k t238).bind fun bt239 => ((spec_SelfTelling.f k t238).bind fun bt243 => (if (bt239.2 != bt243.2) = true then (laws_FnSelfTellingLists.j0 k l1 t238 bt239.1 bt239.2 true) else ((laws_qSameRows.f k bt239.1 bt243.1).bind fun t247 => (laws_FnSelfTellingLists.j0 k l1 t238 bt239.1 bt239.2 (!t247)))))))) = some r := H
  have A3 := Aside0.mk A30
  clear A30
  by_cases c4 : t237 = true
  · subst c4
    have H1 : (some true) = some r := by rw [if_pos rfl] at H; exact H
    clear H
    have H := H1
    clear H1
    as_aux_lemma =>
      obtain rfl := Option.some.inj H
      go_enter Try.func4, Try.ntmps4
      go_wp2_with (first | ((with_reducible refine gate_callee (f := 10) rfl ?_); refine goesL_ (some 28) rfl rfl Try.func10 (by kernel_rfl) rfl #[.slice A0 l0.length c0, .slice A1 l1.length c1] rfl (by (try simp only [List.map_toArray, List.map_cons, List.map_nil]); first | done | rfl | (simp only [List.length_drop, List.length_take]; rfl)) ?_; (with_reducible refine (laws_big.calls _ _ l0 _ _ l1 true _ ?side1 ?side2 ?side3 ?side4 A3.out).mono ?_); (case side1 => repeat (first | exact HR0.out | (with_reducible refine Kd.C_alloc ?_ _) | (with_reducible refine Kd.C_drewN ?_ _) | (with_reducible refine Kd.C_drew ?_))); (case side2 => exact HC0.out); (case side3 => repeat (first | exact HR1.out | (with_reducible refine Kd.C_alloc ?_ _) | (with_reducible refine Kd.C_drewN ?_ _) | (with_reducible refine Kd.C_drew ?_))); (case side4 => exact HC1.out); rintro e w' ⟨rfl, ⟨nd, rfl⟩⟩; refine ⟨_, rfl, ?_⟩))
      go_ret
      exact ⟨by first | rfl | (simp [errW_none, errW_some] <;> rfl) | (simp [*, errW_none, errW_some] <;> rfl), by repeat (first | (with_reducible first | exact HB.out | apply below_alloc | apply pw_below_drewN | apply below_drew1) | exact HB.out)⟩
  · replace c4 := Bool.eq_false_iff.mpr c4
    subst c4
    have H1 : ((spec_DrawSelfTelling.f l0).bind fun t238 => ((impl_SelfTelling.f k t238).bind fun bt239 => ((spec_SelfTelling.f k t238).bind fun bt243 => (if (bt239.2 != bt243.2) = true then (laws_FnSelfTellingLists.j0 k l1 t238 bt239.1 bt239.2 true) else ((laws_qSameRows.f k bt239.1 bt243.1).bind fun t247 => (laws_FnSelfTellingLists.j0 k l1 t238 bt239.1 bt239.2 (!t247))))))) = some r := by rw [if_neg (show ¬ (false = true) by decide)] at H; exact H
    clear H
    have H := H1
    clear H1
    replace H := Option.bind_eq_some_iff.mp H
    obtain ⟨t238, A50, H⟩ := H
    replace H : ((impl_SelfTelling.f k t238).bind fun bt239 => ((spec_SelfTelling.f k t238).bind fun bt243 => (if (bt239.2 != bt243.2) = true then (laws_FnSelfTellingLists.j0 k l1 t238 bt239.1 bt239.2 true) else ((laws_qSameRows.f k bt239.1 bt243.1).bind fun t247 => (laws_FnSelfTellingLists.j0 k l1 t238 bt239.1 bt239.2 (!t247)))))) = some r := H
    have A5 := Aside0.mk A50
    clear A50
    replace H := Option.bind_eq_some_iff.mp H
    obtain ⟨⟨t239, t240⟩, A60, H⟩ := H
    replace H : ((spec_SelfTelling.f k t238).bind fun bt243 => (if (t240 != bt243.2) = true then (laws_FnSelfTellingLists.j0 k l1 t238 t239 t240 true) else ((laws_qSameRows.f k t239 bt243.1).bind fun t247 => (laws_FnSelfTellingLists.j0 k l1 t238 t239 t240 (!t247))))) = some r := H
    have A6 := Aside0.mk A60
    clear A60
    replace H := Option.bind_eq_some_iff.mp H
    obtain ⟨⟨t243, t246⟩, A70, H⟩ := H
    replace H : (if (t240 != t246) = true then (laws_FnSelfTellingLists.j0 k l1 t238 t239 t240 true) else ((laws_qSameRows.f k t239 t243).bind fun t247 => (laws_FnSelfTellingLists.j0 k l1 t238 t239 t240 (!t247)))) = some r := H
    have A7 := Aside0.mk A70
    clear A70
    have HC8 := Aside0.mk H
    clear H
    go_enter Try.func4, Try.ntmps4
    go_upto_region 6 with (first | ((with_reducible refine gate_callee (f := 10) rfl ?_); refine goesL_ (some 28) rfl rfl Try.func10 (by kernel_rfl) rfl #[.slice A0 l0.length c0, .slice A1 l1.length c1] rfl (by (try simp only [List.map_toArray, List.map_cons, List.map_nil]); first | done | rfl | (simp only [List.length_drop, List.length_take]; rfl)) ?_; (with_reducible refine (laws_big.calls _ _ l0 _ _ l1 false _ ?side1 ?side2 ?side3 ?side4 A3.out).mono ?_); (case side1 => repeat (first | exact HR0.out | (with_reducible refine Kd.C_alloc ?_ _) | (with_reducible refine Kd.C_drewN ?_ _) | (with_reducible refine Kd.C_drew ?_))); (case side2 => exact HC0.out); (case side3 => repeat (first | exact HR1.out | (with_reducible refine Kd.C_alloc ?_ _) | (with_reducible refine Kd.C_drewN ?_ _) | (with_reducible refine Kd.C_drew ?_))); (case side4 => exact HC1.out); rintro e w' ⟨rfl, ⟨nd, rfl⟩⟩; refine ⟨_, rfl, ?_⟩) | ((with_reducible refine gate_callee (f := 11) rfl ?_); refine goesL_ (some 30) rfl rfl Try.func11 (by kernel_rfl) rfl #[.slice A0 l0.length c0] rfl (by (try simp only [List.map_toArray, List.map_cons, List.map_nil]); first | done | rfl | (simp only [List.length_drop, List.length_take]; rfl)) ?_; (with_reducible refine (spec_DrawSelfTelling.calls _ _ l0 t238 _ ?side1 ?side2 A5.out).mono ?_); (case side1 => repeat (first | exact HR0.out | (with_reducible refine Kd.C_alloc ?_ _) | (with_reducible refine Kd.C_drewN ?_ _) | (with_reducible refine Kd.C_drew ?_))); (case side2 => exact HC0.out); rintro e w9 ⟨rfl, hb⟩; refine ⟨_, rfl, ?_⟩; have n0_ := Aside0.mk (below_step (by repeat (first | (with_reducible first | exact HB.out | apply below_alloc | apply pw_below_drewN | apply below_drew1) | exact HB.out)) hb); clear HB; have HB := n0_; clear n0_; (try clear hb); (try clear hb2); (try clear hk); (try clear hi)) | ((with_reducible refine gate_callee (f := 6) rfl ?_); refine goesL_ (some 33) rfl rfl Try.func6 (by kernel_rfl) rfl #[.int .i64 t238] rfl (by (try simp only [List.map_toArray, List.map_cons, List.map_nil]); first | done | rfl | (simp only [List.length_drop, List.length_take]; rfl)) ?_; (with_reducible refine (impl_SelfTelling.calls k t238 t239 t240 _ A6.out).mono ?_); rintro e w10 ⟨v241, rfl, ho0, hb⟩; refine ⟨_, rfl, ?_⟩; have n0_ := Aside0.mk (Kd.N_lower (Kd.N_mono (ok' := fun k_ => True) (Kd.S_N (Kd.S_bound ho0)) (fun k_ hk_ => trivial)) (below_size (by repeat (first | (with_reducible first | exact HB.out | apply below_alloc | apply pw_below_drewN | apply below_drew1) | exact HB.out)))); have n1_ := Aside0.mk (below_step (by repeat (first | (with_reducible first | exact HB.out | apply below_alloc | apply pw_below_drewN | apply below_drew1) | exact HB.out)) hb); clear HB; have HO242 := n0_; have HB := n1_; clear n0_ n1_; (try clear hb); (try clear hb2); (try clear hk); (try clear hi); (try clear ho0)) | ((with_reducible refine gate_callee (f := 5) rfl ?_); refine goesL_ (some 38) rfl rfl Try.func5 (by kernel_rfl) rfl #[.int .i64 t238] rfl (by (try simp only [List.map_toArray, List.map_cons, List.map_nil]); first | done | rfl | (simp only [List.length_drop, List.length_take]; rfl)) ?_; (with_reducible refine (spec_SelfTelling.calls k t238 t243 t246 _ A7.out).mono ?_); rintro e w11 ⟨v244, rfl, ho0, hb⟩; refine ⟨_, rfl, ?_⟩; have n0_ := Aside0.mk (Kd.N_elder' (by (with_reducible repeat (first | apply Kd.N_alloc | apply Kd.N_drewN | apply Kd.N_drew)); exact HO242.out) (Kd.N_base ho0) hb); have n1_ := Aside0.mk (Kd.N_lower (Kd.N_mono (ok' := fun k_ => some k_ ≠ (v241 : Value).ownBlock) ho0 (fun k_ hk_ => (Kd.fresh' (Kd.N_lt (by (with_reducible repeat (first | apply Kd.N_alloc | apply Kd.N_drewN | apply Kd.N_drew)); exact HO242.out)) k_ hk_))) (below_size (by repeat (first | (with_reducible first | exact HB.out | apply below_alloc | apply pw_below_drewN | apply below_drew1) | exact HB.out)))); have n2_ := Aside0.mk (below_step (by repeat (first | (with_reducible first | exact HB.out | apply below_alloc | apply pw_below_drewN | apply below_drew1) | exact HB.out)) hb); clear HO242; clear HB; have HO242 := n0_; have HO245 := n1_; have HB := n2_; clear n0_ n1_ n2_; (try clear hb); (try clear hb2); (try clear hk); (try clear hi); (try clear ho0)))
    (try simp only [Act.put, List.setIfInBounds_toArray, List.set_cons_zero, List.set_cons_succ])
    go_cut [49] (fun v49 wc => ∃ (kq : Nat) (x49_7 : Bool), v49 = .bool x49_7 ∧ Aside0 (laws_FnSelfTellingLists.j0 kq l1 t238 t239 t240 x49_7 = some r) ∧ Aside0 (kq ≤ k) ∧ Aside0 (Kd.N (Kd.slice 3 (Kd.int .i64)) 31 wc w.heap.size (fun _ => True) v241 t239) ∧ Aside0 (Below w.heap.size w wc))
    case first =>
      as_aux_lemma =>
      have H := HC8.out
      clear HC8
      by_cases c12 : (t240 != t246) = true
      · rw [if_pos c12] at H
        have c12b0 : (t240 != t246) = true := c12
        (try (have c12b1 : decide (t240 = t246) = false := by simpa using c12))
        (try (have c12b2 : (t240 == t246) = false := by simpa using c12))
        (try (have c12b3 : ¬ (t240 = t246) := by simpa using c12))
        clear c12
        (first | rw [c12b0] | (simp only [i64_w, i32_w]; rw [c12b0]) | skip)
        exact (laws_FnSelfTellingLists.j0_no HR_.out _ _ _ _ _ H).elim
      · rw [if_neg c12] at H
        have c12b0 : (t240 != t246) = false := by simpa using c12
        (try (have c12b1 : decide (t240 = t246) = true := by simpa using c12))
        (try (have c12b2 : (t240 == t246) = true := by simpa using c12))
        clear c12
        (first | rw [c12b0] | (simp only [i64_w, i32_w]; rw [c12b0]) | skip)
        replace H := Option.bind_eq_some_iff.mp H
        obtain ⟨t247, A130, H⟩ := H
        replace H : (laws_FnSelfTellingLists.j0 k l1 t238 t239 t240 (!t247)) = some r := H
        have A13 := Aside0.mk A130
        clear A130
        as_aux_lemma =>
          have H' := Aside0.mk H
          clear H
          obtain ⟨Ao14, co14, eo14⟩ := Kd.N_slice HO242.out
          subst eo14
          obtain ⟨Ao15, co15, eo15⟩ := Kd.N_slice HO245.out
          subst eo15
          go_wp2_with (first | (go_at_call 12; (with_reducible refine (laws_qSameRows.calls k _ _ t239 _ _ t243 t247 _ ?side1 ?side2 ?side3 ?side4 A13.out).mono ?_); (case side1 => repeat (first | exact (Kd.N_reads' HO242.out).2.2 | (with_reducible refine Kd.C_alloc ?_ _) | (with_reducible refine Kd.C_drewN ?_ _) | (with_reducible refine Kd.C_drew ?_))); (case side2 => exact (Kd.N_reads' HO242.out).2.1); (case side3 => repeat (first | exact (Kd.N_reads' HO245.out).2.2 | (with_reducible refine Kd.C_alloc ?_ _) | (with_reducible refine Kd.C_drewN ?_ _) | (with_reducible refine Kd.C_drew ?_))); (case side4 => exact (Kd.N_reads' HO245.out).2.1); rintro e w' ⟨rfl, ⟨nd, rfl⟩⟩))
          go_meet
          case rel => exact ⟨_, (!t247), (by first | rfl | (simp; done) | (simp [*]; done)), H', ⟨by first | omega | exact Nat.le_refl _⟩, ⟨by (with_reducible repeat (first | apply Kd.N_alloc | apply Kd.N_drewN | apply Kd.N_drew)); exact Kd.N_mono HO242.out (fun _ hk => trivial)⟩, ⟨by repeat (first | (with_reducible first | exact HB.out | apply below_alloc | apply pw_below_drewN | apply below_drew1) | exact HB.out)⟩⟩
    case rest =>
      as_aux_lemma =>
      clear HC8
      try clear c1
      try clear p2
      try clear c4
      try clear c5
      try clear c6
      try clear c10
      try clear c11
      try clear c12
      try clear c12b0
      try clear c12b1
      try clear c12b2
      obtain ⟨kq, x49_7, rfl, HA, HJ7, HO_6, HB⟩ := hcut
      cases kq with
      | zero => exact absurd HA.out (by simp [laws_FnSelfTellingLists.j0])
      | succ kj7 =>
        have H := HA.out
        clear HA
        simp only [laws_FnSelfTellingLists.j0] at H
        by_cases c16 : x49_7 = true
        · subst c16
          have H1 : (some false) = some r := by rw [if_pos rfl] at H; exact H
          clear H
          have H := H1
          clear H1
          exact absurd (Option.some.inj H) (by rw [HR_.out]; decide)
        · replace c16 := Bool.eq_false_iff.mpr c16
          subst c16
          have H1 : (laws_FnSelfTellingLists.l0 kj7 l1 t238 t239 t240 t239 (t239.length : Int) 0) = some r := by rw [if_neg (show ¬ (false = true) by decide)] at H; exact H
          clear H
          have H := H1
          clear H1
          have H' := Aside0.mk H
          clear H
          obtain ⟨Ao17, co17, eo17⟩ := Kd.N_slice HO_6.out
          subst eo17
          go_wp2
          go_loopg [52] kj7 (fun kq v52 w' => ∃ (x52_2 : Int), v52 = .int .i64 x52_2 ∧ Aside0 (laws_FnSelfTellingLists.l0 kq l1 t238 t239 t240 t239 (t239.length : Int) x52_2 = some r) ∧ Aside0 (kq ≤ kj7) ∧ Aside0 (Kd.N (Kd.slice 3 (Kd.int .i64)) 31 w' w.heap.size (fun _ => True) (.slice Ao17 t239.length co17) t239) ∧ Aside0 (Kd.N (Kd.slice 3 (Kd.int .i64)) 31 w' w.heap.size (fun _ => True) (.slice Ao17 t239.length co17) t239) ∧ Aside0 (Below w.heap.size w w'))
          case atStart => exact ⟨(0), (by first | rfl | (simp; done) | (simp [*]; done)), H', ⟨Nat.le_refl _⟩, ⟨by (with_reducible repeat (first | apply Kd.N_alloc | apply Kd.N_drewN | apply Kd.N_drew)); exact HO_6.out⟩, ⟨by (with_reducible repeat (first | apply Kd.N_alloc | apply Kd.N_drewN | apply Kd.N_drew)); exact HO_6.out⟩, ⟨by repeat (first | (with_reducible first | exact HB.out | apply below_alloc | apply pw_below_drewN | apply below_drew1) | exact HB.out)⟩⟩
          case round =>
            as_aux_lemma =>
            clear H'
            try clear c1
            try clear p2
            try clear c4
            try clear c5
            try clear c6
            try clear c10
            try clear c11
            try clear c12
            try clear c12b0
            try clear c12b1
            try clear c12b2
            try clear c16
            try clear p2
            obtain ⟨x52_2, rfl, HA, HK2, HO_6, HO_50, HB⟩ := hrel
            cases gk with
            | zero => exact absurd HA.out (by simp [laws_FnSelfTellingLists.l0])
            | succ k2 =>
              have H := HA.out
              clear HA
              simp only [laws_FnSelfTellingLists.l0] at H
              by_cases c18 : x52_2 < (t239.length : Int)
              · rw [if_pos c18] at H
                have c18b0 : decide (x52_2 < (t239.length : Int)) = true := decide_eq_true c18
                clear c18
                by_cases c19 : 0 ≤ x52_2
                · rw [if_pos c19] at H
                  have c19b0 : decide (0 ≤ x52_2) = true := decide_eq_true c19
                  clear c19
                  by_cases c20 : x52_2 < (t239.length : Int)
                  · rw [if_pos c20] at H
                    have c20b0 : decide (x52_2 < (t239.length : Int)) = true := decide_eq_true c20
                    clear c20
                    replace H := Option.bind_eq_some_iff.mp H
                    obtain ⟨⟨t249, t250⟩, A210, H⟩ := H
                    replace H : ((impl_TellCounts.f k2 (rd_L2 t239 x52_2)).bind fun bt251 => (if t250 = true then (if t249 = true then (if bt251.2 = true then ((laws_qSame.f k2 bt251.1 (rd_L2 t239 x52_2)).bind fun t255 => (if t255 = true then (if ((rd_L2 t239 x52_2).length : Int) = t238 then ((laws_qSum.f k2 (rd_L2 t239 x52_2)).bind fun t256 => (if t256 = t238 then (if x52_2 > 0 then (if 0 ≤ (wrap64 (x52_2 - 1)) then (if (wrap64 (x52_2 - 1)) < (t239.length : Int) then ((laws_qLess.f k2 (rd_L2 t239 (wrap64 (x52_2 - 1))) (rd_L2 t239 x52_2)).bind fun t258 => (if t258 = true then (laws_FnSelfTellingLists.l0 k2 l1 t238 t239 t240 t239 (t239.length : Int) (wrap64 (x52_2 + 1))) else (some false))) else (none)) else (none)) else (laws_FnSelfTellingLists.l0 k2 l1 t238 t239 t240 t239 (t239.length : Int) (wrap64 (x52_2 + 1)))) else (some false))) else (some false)) else (some false))) else (some false)) else (some false)) else (some false))) = some r := H
                    have A21 := Aside0.mk A210
                    clear A210
                    replace H := Option.bind_eq_some_iff.mp H
                    obtain ⟨⟨t251, t252⟩, A220, H⟩ := H
                    replace H : (if t250 = true then (if t249 = true then (if t252 = true then ((laws_qSame.f k2 t251 (rd_L2 t239 x52_2)).bind fun t255 => (if t255 = true then (if ((rd_L2 t239 x52_2).length : Int) = t238 then ((laws_qSum.f k2 (rd_L2 t239 x52_2)).bind fun t256 => (if t256 = t238 then (if x52_2 > 0 then (if 0 ≤ (wrap64 (x52_2 - 1)) then (if (wrap64 (x52_2 - 1)) < (t239.length : Int) then ((laws_qLess.f k2 (rd_L2 t239 (wrap64 (x52_2 - 1))) (rd_L2 t239 x52_2)).bind fun t258 => (if t258 = true then (laws_FnSelfTellingLists.l0 k2 l1 t238 t239 t240 t239 (t239.length : Int) (wrap64 (x52_2 + 1))) else (some false))) else (none)) else (none)) else (laws_FnSelfTellingLists.l0 k2 l1 t238 t239 t240 t239 (t239.length : Int) (wrap64 (x52_2 + 1)))) else (some false))) else (some false)) else (some false))) else (some false)) else (some false)) else (some false)) = some r := H
                    have A22 := Aside0.mk A220
                    clear A220
                    by_cases c23 : t250 = true
                    · subst c23
                      have H1 : (if t249 = true then (if t252 = true then ((laws_qSame.f k2 t251 (rd_L2 t239 x52_2)).bind fun t255 => (if t255 = true then (if ((rd_L2 t239 x52_2).length : Int) = t238 then ((laws_qSum.f k2 (rd_L2 t239 x52_2)).bind fun t256 => (if t256 = t238 then (if x52_2 > 0 then (if 0 ≤ (wrap64 (x52_2 - 1)) then (if (wrap64 (x52_2 - 1)) < (t239.length : Int) then ((laws_qLess.f k2 (rd_L2 t239 (wrap64 (x52_2 - 1))) (rd_L2 t239 x52_2)).bind fun t258 => (if t258 = true then (laws_FnSelfTellingLists.l0 k2 l1 t238 t239 t240 t239 (t239.length : Int) (wrap64 (x52_2 + 1))) else (some false))) else (none)) else (none)) else (laws_FnSelfTellingLists.l0 k2 l1 t238 t239 t240 t239 (t239.length : Int) (wrap64 (x52_2 + 1)))) else (some false))) else (some false)) else (some false))) else (some false)) else (some false)) = some r := by rw [if_pos rfl] at H; exact H
                      clear H
                      have H := H1
                      clear H1
                      by_cases c24 : t249 = true
                      · subst c24
                        have H1 : (if t252 = true then ((laws_qSame.f k2 t251 (rd_L2 t239 x52_2)).bind fun t255 => (if t255 = true then (if ((rd_L2 t239 x52_2).length : Int) = t238 then ((laws_qSum.f k2 (rd_L2 t239 x52_2)).bind fun t256 => (if t256 = t238 then (if x52_2 > 0 then (if 0 ≤ (wrap64 (x52_2 - 1)) then (if (wrap64 (x52_2 - 1)) < (t239.length : Int) then ((laws_qLess.f k2 (rd_L2 t239 (wrap64 (x52_2 - 1))) (rd_L2 t239 x52_2)).bind fun t258 => (if t258 = true then (laws_FnSelfTellingLists.l0 k2 l1 t238 t239 t240 t239 (t239.length : Int) (wrap64 (x52_2 + 1))) else (some false))) else (none)) else (none)) else (laws_FnSelfTellingLists.l0 k2 l1 t238 t239 t240 t239 (t239.length : Int) (wrap64 (x52_2 + 1)))) else (some false))) else (some false)) else (some false))) else (some false)) = some r := by rw [if_pos rfl] at H; exact H
                        clear H
                        have H := H1
                        clear H1
                        by_cases c25 : t252 = true
                        · subst c25
                          have H1 : ((laws_qSame.f k2 t251 (rd_L2 t239 x52_2)).bind fun t255 => (if t255 = true then (if ((rd_L2 t239 x52_2).length : Int) = t238 then ((laws_qSum.f k2 (rd_L2 t239 x52_2)).bind fun t256 => (if t256 = t238 then (if x52_2 > 0 then (if 0 ≤ (wrap64 (x52_2 - 1)) then (if (wrap64 (x52_2 - 1)) < (t239.length : Int) then ((laws_qLess.f k2 (rd_L2 t239 (wrap64 (x52_2 - 1))) (rd_L2 t239 x52_2)).bind fun t258 => (if t258 = true then (laws_FnSelfTellingLists.l0 k2 l1 t238 t239 t240 t239 (t239.length : Int) (wrap64 (x52_2 + 1))) else (some false))) else (none)) else (none)) else (laws_FnSelfTellingLists.l0 k2 l1 t238 t239 t240 t239 (t239.length : Int) (wrap64 (x52_2 + 1)))) else (some false))) else (some false)) else (some false))) = some r := by rw [if_pos rfl] at H; exact H
                          clear H
                          have H := H1
                          clear H1
                          replace H := Option.bind_eq_some_iff.mp H
                          obtain ⟨t255, A260, H⟩ := H
                          replace H : (if t255 = true then (if ((rd_L2 t239 x52_2).length : Int) = t238 then ((laws_qSum.f k2 (rd_L2 t239 x52_2)).bind fun t256 => (if t256 = t238 then (if x52_2 > 0 then (if 0 ≤ (wrap64 (x52_2 - 1)) then (if (wrap64 (x52_2 - 1)) < (t239.length : Int) then ((laws_qLess.f k2 (rd_L2 t239 (wrap64 (x52_2 - 1))) (rd_L2 t239 x52_2)).bind fun t258 => (if t258 = true then (laws_FnSelfTellingLists.l0 k2 l1 t238 t239 t240 t239 (t239.length : Int) (wrap64 (x52_2 + 1))) else (some false))) else (none)) else (none)) else (laws_FnSelfTellingLists.l0 k2 l1 t238 t239 t240 t239 (t239.length : Int) (wrap64 (x52_2 + 1)))) else (some false))) else (some false)) else (some false)) = some r := H
                          have A26 := Aside0.mk A260
                          clear A260
                          by_cases c27 : t255 = true
                          · subst c27
                            have H1 : (if ((rd_L2 t239 x52_2).length : Int) = t238 then ((laws_qSum.f k2 (rd_L2 t239 x52_2)).bind fun t256 => (if t256 = t238 then (if x52_2 > 0 then (if 0 ≤ (wrap64 (x52_2 - 1)) then (if (wrap64 (x52_2 - 1)) < (t239.length : Int) then ((laws_qLess.f k2 (rd_L2 t239 (wrap64 (x52_2 - 1))) (rd_L2 t239 x52_2)).bind fun t258 => (if t258 = true then (laws_FnSelfTellingLists.l0 k2 l1 t238 t239 t240 t239 (t239.length : Int) (wrap64 (x52_2 + 1))) else (some false))) else (none)) else (none)) else (laws_FnSelfTellingLists.l0 k2 l1 t238 t239 t240 t239 (t239.length : Int) (wrap64 (x52_2 + 1)))) else (some false))) else (some false)) = some r := by rw [if_pos rfl] at H; exact H
                            clear H
                            have H := H1
                            clear H1
                            by_cases c28 : ((rd_L2 t239 x52_2).length : Int) = t238
                            · rw [if_pos c28] at H
                              have c28b0 : (((rd_L2 t239 x52_2).length : Int) == t238) = true := beq_iff_eq.mpr c28
                              have c28b1 : (((rd_L2 t239 x52_2).length : Int) != t238) = false := bne_eq_false_iff_eq.mpr c28
                              clear c28
                              replace H := Option.bind_eq_some_iff.mp H
                              obtain ⟨t256, A290, H⟩ := H
                              replace H : (if t256 = t238 then (if x52_2 > 0 then (if 0 ≤ (wrap64 (x52_2 - 1)) then (if (wrap64 (x52_2 - 1)) < (t239.length : Int) then ((laws_qLess.f k2 (rd_L2 t239 (wrap64 (x52_2 - 1))) (rd_L2 t239 x52_2)).bind fun t258 => (if t258 = true then (laws_FnSelfTellingLists.l0 k2 l1 t238 t239 t240 t239 (t239.length : Int) (wrap64 (x52_2 + 1))) else (some false))) else (none)) else (none)) else (laws_FnSelfTellingLists.l0 k2 l1 t238 t239 t240 t239 (t239.length : Int) (wrap64 (x52_2 + 1)))) else (some false)) = some r := H
                              have A29 := Aside0.mk A290
                              clear A290
                              by_cases c30 : t256 = t238
                              · rw [if_pos c30] at H
                                have c30b0 : (t256 == t238) = true := beq_iff_eq.mpr c30
                                have c30b1 : (t256 != t238) = false := bne_eq_false_iff_eq.mpr c30
                                clear c30
                                by_cases c31 : x52_2 > 0
                                · rw [if_pos c31] at H
                                  have c31b0 : decide (0 < x52_2) = true := decide_eq_true c31
                                  clear c31
                                  obtain ⟨ji32, hji32⟩ : ∃ j_ : Int, (wrap64 (x52_2 - 1)) = j_ := ⟨_, rfl⟩
                                  replace H : (if 0 ≤ (ji32) then (if (ji32) < (t239.length : Int) then ((laws_qLess.f k2 (rd_L2 t239 (ji32)) (rd_L2 t239 x52_2)).bind fun t258 => (if t258 = true then (laws_FnSelfTellingLists.l0 k2 l1 t238 t239 t240 t239 (t239.length : Int) (wrap64 (x52_2 + 1))) else (some false))) else (none)) else (none)) = some r := by first | (rw [hji32] at H; exact H) | (simp only [hji32] at H ⊢; exact H)
                                  (try rw [hji32] at A21)
                                  (try rw [hji32] at A22)
                                  (try rw [hji32] at A26)
                                  (try rw [hji32] at A29)
                                  have hji32w : (IntKind.i64.wrap (x52_2 - 1)) = ji32 := (i64_w _).trans hji32
                                  by_cases c33 : 0 ≤ (ji32)
                                  · rw [if_pos c33] at H
                                    have c33b0 : decide (0 ≤ (ji32)) = true := decide_eq_true c33
                                    clear c33
                                    by_cases c34 : (ji32) < (t239.length : Int)
                                    · rw [if_pos c34] at H
                                      have c34b0 : decide ((ji32) < (t239.length : Int)) = true := decide_eq_true c34
                                      clear c34
                                      replace H := Option.bind_eq_some_iff.mp H
                                      obtain ⟨t258, A350, H⟩ := H
                                      replace H : (if t258 = true then (laws_FnSelfTellingLists.l0 k2 l1 t238 t239 t240 t239 (t239.length : Int) (wrap64 (x52_2 + 1))) else (some false)) = some r := H
                                      have A35 := Aside0.mk A350
                                      clear A350
                                      by_cases c36 : t258 = true
                                      · subst c36
                                        have H1 : (laws_FnSelfTellingLists.l0 k2 l1 t238 t239 t240 t239 (t239.length : Int) (wrap64 (x52_2 + 1))) = some r := by rw [if_pos rfl] at H; exact H
                                        clear H
                                        have H := H1
                                        clear H1
                                        as_aux_lemma =>
                                          have H' := Aside0.mk H
                                          clear H
                                          have p248 : 0 ≤ (x52_2 : Int) := of_decide_eq_true (by first | (with_reducible assumption) | assumption)
                                          have q248 : x52_2 < (t239.length : Int) := of_decide_eq_true (by first | (with_reducible assumption) | assumption)
                                          obtain ⟨ad248, A248_0, c248_0, e248, hx248_0, hl248_0, hi248_0⟩ := at_L2 (Kd.N_reads' HO_50.out).2.2 x52_2 p248 q248
                                          cases e248
                                          obtain ⟨ce248, hce248, hMe248, hcc248⟩ := Kd.N_get HO_50.out [] x52_2 p248 (by first | exact q248 | exact of_decide_eq_true (by first | (with_reducible assumption) | assumption) | (have e_ := (Kd.N_reads' HO_50.out).1; omega))
                                          obtain ⟨ua248_0, uc248_0, rfl, ul248_0, ge248_0⟩ := Kd.FK_slice_open hMe248
                                          have hv248_0 := hcc248 0 _ rfl
                                          rw [Nat.add_zero, show ((Kd.slice 3 (Kd.int .i64))).sz = 1 from rfl, Nat.mul_one] at hv248_0
                                          replace hv248_0 := Option.some.inj (hv248_0.symm.trans hx248_0)
                                          injection hv248_0 with hva_ hvn_ hvc_
                                          rw [hva_] at ge248_0
                                          rw [hvc_] at ul248_0
                                          have HL248_0 := Aside0.mk (show Kd.V (Kd.int .i64) 3 _ w.heap.size _ _ (rd_L2 t239 x52_2) from Kd.V_mk ul248_0 ge248_0)
                                          clear hva_ hvn_ hvc_ ge248_0 ul248_0
                                          clear hcc248 hce248
                                          have HR248_0 := Aside0.mk hi248_0
                                          have HC248_0 := Aside0.mk hl248_0
                                          clear hi248_0 hl248_0
                                          replace p248 := eq_true p248
                                          replace q248 := eq_true q248
                                          go_wp2_with (first | ((with_reducible refine gate_callee (f := 13) rfl ?_); refine goesL_ (some 59) rfl rfl Try.func13 (by kernel_rfl) rfl #[.slice A248_0 (rd_L2 t239 x52_2).length c248_0] rfl (by (try simp only [List.map_toArray, List.map_cons, List.map_nil]); first | done | rfl | (simp only [List.length_drop, List.length_take]; rfl)) ?_; (with_reducible refine (impl_IsSelfTelling.calls k2 _ _ (rd_L2 t239 x52_2) true true _ ?side1 ?side2 A21.out).mono ?_); (case side1 => repeat (first | exact (by repeat (first | (with_reducible exact HR248_0.out) | (with_reducible refine Kd.C_alloc ?_ _) | (with_reducible refine Kd.C_drewN ?_ _) | (with_reducible refine Kd.C_drew ?_) | exact HR248_0.out)) | (with_reducible refine Kd.C_alloc ?_ _) | (with_reducible refine Kd.C_drewN ?_ _) | (with_reducible refine Kd.C_drew ?_))); (case side2 => exact HC248_0.out); rintro e w37 ⟨rfl, hb⟩; refine ⟨_, rfl, ?_⟩; have n0_ := Aside0.mk (Kd.N_below (by (with_reducible repeat (first | apply Kd.N_alloc | apply Kd.N_drewN | apply Kd.N_drew)); exact HO_6.out) hb); have n1_ := Aside0.mk (Kd.N_below (by (with_reducible repeat (first | apply Kd.N_alloc | apply Kd.N_drewN | apply Kd.N_drew)); exact HO_50.out) hb); have n2_ := Aside0.mk (Kd.V_below (by (with_reducible repeat (first | apply Kd.V_alloc | apply Kd.V_drewN | apply Kd.V_drew)); exact HL248_0.out) hb); have n3_ := Aside0.mk (Kd.C_below (by repeat (first | (with_reducible exact HR248_0.out) | (with_reducible refine Kd.C_alloc ?_ _) | (with_reducible refine Kd.C_drewN ?_ _) | (with_reducible refine Kd.C_drew ?_) | exact HR248_0.out)) hb); have n4_ := Aside0.mk (below_step (by repeat (first | (with_reducible first | exact HB.out | apply below_alloc | apply pw_below_drewN | apply below_drew1) | exact HB.out)) hb); clear HO_6; clear HO_50; clear HL248_0; clear HR248_0; clear HB; have HO_6 := n0_; have HO_50 := n1_; have HL248_0 := n2_; have HR248_0 := n3_; have HB := n4_; clear n0_ n1_ n2_ n3_ n4_; (try clear hb); (try clear hb2); (try clear hk); (try clear hi)) | ((with_reducible refine gate_callee (f := 14) rfl ?_); refine goesL_ (some 64) rfl rfl Try.func14 (by kernel_rfl) rfl #[.slice A248_0 (rd_L2 t239 x52_2).length c248_0] rfl (by (try simp only [List.map_toArray, List.map_cons, List.map_nil]); first | done | rfl | (simp only [List.length_drop, List.length_take]; rfl)) ?_; (with_reducible refine (impl_TellCounts.calls k2 _ _ (rd_L2 t239 x52_2) t251 true _ ?side1 ?side2 A22.out).mono ?_); (case side1 => repeat (first | exact (by repeat (first | (with_reducible exact HR248_0.out) | (with_reducible refine Kd.C_alloc ?_ _) | (with_reducible refine Kd.C_drewN ?_ _) | (with_reducible refine Kd.C_drew ?_) | exact HR248_0.out)) | (with_reducible refine Kd.C_alloc ?_ _) | (with_reducible refine Kd.C_drewN ?_ _) | (with_reducible refine Kd.C_drew ?_))); (case side2 => exact HC248_0.out); rintro e w38 ⟨v253, rfl, ho0, hb⟩; refine ⟨_, rfl, ?_⟩; have n0_ := Aside0.mk (Kd.N_elder' (by (with_reducible repeat (first | apply Kd.N_alloc | apply Kd.N_drewN | apply Kd.N_drew)); exact HO_6.out) (Kd.R_base ho0) hb); have n1_ := Aside0.mk (Kd.N_elder' (by (with_reducible repeat (first | apply Kd.N_alloc | apply Kd.N_drewN | apply Kd.N_drew)); exact HO_50.out) (Kd.R_base ho0) hb); have n2_ := Aside0.mk (Kd.V_elder' (by (with_reducible repeat (first | apply Kd.V_alloc | apply Kd.V_drewN | apply Kd.V_drew)); exact HL248_0.out) (Kd.R_base ho0) hb); have n3_ := Aside0.mk (Kd.R_lower ho0 (below_size (by repeat (first | (with_reducible first | exact HB.out | apply below_alloc | apply pw_below_drewN | apply below_drew1) | exact HB.out)))); have n4_ := Aside0.mk (Kd.C_below (by repeat (first | (with_reducible exact HR248_0.out) | (with_reducible refine Kd.C_alloc ?_ _) | (with_reducible refine Kd.C_drewN ?_ _) | (with_reducible refine Kd.C_drew ?_) | exact HR248_0.out)) hb); have n5_ := Aside0.mk (below_step (by repeat (first | (with_reducible first | exact HB.out | apply below_alloc | apply pw_below_drewN | apply below_drew1) | exact HB.out)) hb); clear HO_6; clear HO_50; clear HL248_0; clear HR248_0; clear HB; have HO_6 := n0_; have HO_50 := n1_; have HL248_0 := n2_; have HO254 := n3_; have HR248_0 := n4_; have HB := n5_; clear n0_ n1_ n2_ n3_ n4_ n5_; (try clear hb); (try clear hb2); (try clear hk); (try clear hi); (try clear ho0); obtain ⟨Ao39, co39, eo39⟩ := Kd.R_slice HO254.out; subst eo39) | (go_at_call 15; (with_reducible refine (laws_qSame.calls k2 _ _ t251 _ _ (rd_L2 t239 x52_2) true _ ?side1 ?side2 ?side3 ?side4 A26.out).mono ?_); (case side1 => repeat (first | exact (Kd.R_reads' HO254.out).2.2 | (with_reducible refine Kd.C_alloc ?_ _) | (with_reducible refine Kd.C_drewN ?_ _) | (with_reducible refine Kd.C_drew ?_))); (case side2 => exact (Kd.R_reads' HO254.out).2.1); (case side3 => repeat (first | exact (by repeat (first | (with_reducible exact HR248_0.out) | (with_reducible refine Kd.C_alloc ?_ _) | (with_reducible refine Kd.C_drewN ?_ _) | (with_reducible refine Kd.C_drew ?_) | exact HR248_0.out)) | (with_reducible refine Kd.C_alloc ?_ _) | (with_reducible refine Kd.C_drewN ?_ _) | (with_reducible refine Kd.C_drew ?_))); (case side4 => exact HC248_0.out); rintro e w' ⟨rfl, ⟨nd, rfl⟩⟩) | (go_at_call 16; (with_reducible refine (laws_qSum.calls k2 _ _ (rd_L2 t239 x52_2) t256 _ ?side1 ?side2 A29.out).mono ?_); (case side1 => repeat (first | exact (by repeat (first | (with_reducible exact HR248_0.out) | (with_reducible refine Kd.C_alloc ?_ _) | (with_reducible refine Kd.C_drewN ?_ _) | (with_reducible refine Kd.C_drew ?_) | exact HR248_0.out)) | (with_reducible refine Kd.C_alloc ?_ _) | (with_reducible refine Kd.C_drewN ?_ _) | (with_reducible refine Kd.C_drew ?_))); (case side2 => exact HC248_0.out); rintro e w' ⟨rfl, ⟨nd, rfl⟩⟩; have p257 : 0 ≤ ((ji32) : Int) := of_decide_eq_true (by first | (with_reducible assumption) | assumption); have q257 : (ji32) < (t239.length : Int) := of_decide_eq_true (by first | (with_reducible assumption) | assumption); obtain ⟨ad257, A257_0, c257_0, e257, hx257_0, hl257_0, hi257_0⟩ := at_L2 (Kd.N_reads' HO_6.out).2.2 (ji32) p257 q257; obtain rfl : ad248 = ad257 := (by injection e257); obtain ⟨ce257, hce257, hMe257, hcc257⟩ := Kd.N_get HO_6.out [] (ji32) p257 (by first | exact q257 | exact of_decide_eq_true (by first | (with_reducible assumption) | assumption) | (have e_ := (Kd.N_reads' HO_6.out).1; omega)); obtain ⟨ua257_0, uc257_0, rfl, ul257_0, ge257_0⟩ := Kd.FK_slice_open hMe257; have hv257_0 := hcc257 0 _ rfl; rw [Nat.add_zero, show ((Kd.slice 3 (Kd.int .i64))).sz = 1 from rfl, Nat.mul_one] at hv257_0; replace hv257_0 := Option.some.inj (hv257_0.symm.trans hx257_0); injection hv257_0 with hva_ hvn_ hvc_; rw [hva_] at ge257_0; rw [hvc_] at ul257_0; have HL257_0 := Aside0.mk (show Kd.V (Kd.int .i64) 3 _ w.heap.size _ _ (rd_L2 t239 (ji32)) from Kd.V_mk ul257_0 ge257_0); clear hva_ hvn_ hvc_ ge257_0 ul257_0; clear hcc257 hce257; have HR257_0 := Aside0.mk hi257_0; have HC257_0 := Aside0.mk hl257_0; clear hi257_0 hl257_0; replace p257 := eq_true p257; replace q257 := eq_true q257) | (go_at_call 17; (with_reducible refine (laws_qLess.calls k2 _ _ (rd_L2 t239 (ji32)) _ _ (rd_L2 t239 x52_2) true _ ?side1 ?side2 ?side3 ?side4 A35.out).mono ?_); (case side1 => repeat (first | exact (by repeat (first | (with_reducible exact HR257_0.out) | (with_reducible refine Kd.C_alloc ?_ _) | (with_reducible refine Kd.C_drewN ?_ _) | (with_reducible refine Kd.C_drew ?_) | exact HR257_0.out)) | (with_reducible refine Kd.C_alloc ?_ _) | (with_reducible refine Kd.C_drewN ?_ _) | (with_reducible refine Kd.C_drew ?_))); (case side2 => exact HC257_0.out); (case side3 => repeat (first | exact (by repeat (first | (with_reducible exact HR248_0.out) | (with_reducible refine Kd.C_alloc ?_ _) | (with_reducible refine Kd.C_drewN ?_ _) | (with_reducible refine Kd.C_drew ?_) | exact HR248_0.out)) | (with_reducible refine Kd.C_alloc ?_ _) | (with_reducible refine Kd.C_drewN ?_ _) | (with_reducible refine Kd.C_drew ?_))); (case side4 => exact HC248_0.out); rintro e w' ⟨rfl, ⟨nd, rfl⟩⟩))
                                          go_roundg k2
                                          case measure => have := HJ7.out; have := HK2.out; omega
                                          case rel => exact ⟨(wrap64 (x52_2 + 1)), (by first | rfl | (simp; done) | (simp [*]; done)), H', ⟨by have := HJ7.out; have := HK2.out; omega⟩, ⟨by (with_reducible repeat (first | apply Kd.N_alloc | apply Kd.N_drewN | apply Kd.N_drew)); exact Kd.N_mono HO_6.out (fun _ hk => trivial)⟩, ⟨by (with_reducible repeat (first | apply Kd.N_alloc | apply Kd.N_drewN | apply Kd.N_drew)); exact Kd.N_mono HO_50.out (fun _ hk => trivial)⟩, ⟨by repeat (first | (with_reducible first | exact HB.out | apply below_alloc | apply pw_below_drewN | apply below_drew1) | exact HB.out)⟩⟩
                                      · replace c36 := Bool.eq_false_iff.mpr c36
                                        subst c36
                                        have H1 : (some false) = some r := by rw [if_neg (show ¬ (false = true) by decide)] at H; exact H
                                        clear H
                                        have H := H1
                                        clear H1
                                        exact absurd (Option.some.inj H) (by rw [HR_.out]; decide)
                                    · rw [if_neg c34] at H
                                      exact absurd H (by simp)
                                  · rw [if_neg c33] at H
                                    exact absurd H (by simp)
                                · rw [if_neg c31] at H
                                  have c31b0 : decide (0 < x52_2) = false := decide_eq_false c31
                                  clear c31
                                  as_aux_lemma =>
                                    have H' := Aside0.mk H
                                    clear H
                                    have p248 : 0 ≤ (x52_2 : Int) := of_decide_eq_true (by first | (with_reducible assumption) | assumption)
                                    have q248 : x52_2 < (t239.length : Int) := of_decide_eq_true (by first | (with_reducible assumption) | assumption)
                                    obtain ⟨ad248, A248_0, c248_0, e248, hx248_0, hl248_0, hi248_0⟩ := at_L2 (Kd.N_reads' HO_50.out).2.2 x52_2 p248 q248
                                    cases e248
                                    obtain ⟨ce248, hce248, hMe248, hcc248⟩ := Kd.N_get HO_50.out [] x52_2 p248 (by first | exact q248 | exact of_decide_eq_true (by first | (with_reducible assumption) | assumption) | (have e_ := (Kd.N_reads' HO_50.out).1; omega))
                                    obtain ⟨ua248_0, uc248_0, rfl, ul248_0, ge248_0⟩ := Kd.FK_slice_open hMe248
                                    have hv248_0 := hcc248 0 _ rfl
                                    rw [Nat.add_zero, show ((Kd.slice 3 (Kd.int .i64))).sz = 1 from rfl, Nat.mul_one] at hv248_0
                                    replace hv248_0 := Option.some.inj (hv248_0.symm.trans hx248_0)
                                    injection hv248_0 with hva_ hvn_ hvc_
                                    rw [hva_] at ge248_0
                                    rw [hvc_] at ul248_0
                                    have HL248_0 := Aside0.mk (show Kd.V (Kd.int .i64) 3 _ w.heap.size _ _ (rd_L2 t239 x52_2) from Kd.V_mk ul248_0 ge248_0)
                                    clear hva_ hvn_ hvc_ ge248_0 ul248_0
                                    clear hcc248 hce248
                                    have HR248_0 := Aside0.mk hi248_0
                                    have HC248_0 := Aside0.mk hl248_0
                                    clear hi248_0 hl248_0
                                    replace p248 := eq_true p248
                                    replace q248 := eq_true q248
                                    go_wp2_with (first | ((with_reducible refine gate_callee (f := 13) rfl ?_); refine goesL_ (some 59) rfl rfl Try.func13 (by kernel_rfl) rfl #[.slice A248_0 (rd_L2 t239 x52_2).length c248_0] rfl (by (try simp only [List.map_toArray, List.map_cons, List.map_nil]); first | done | rfl | (simp only [List.length_drop, List.length_take]; rfl)) ?_; (with_reducible refine (impl_IsSelfTelling.calls k2 _ _ (rd_L2 t239 x52_2) true true _ ?side1 ?side2 A21.out).mono ?_); (case side1 => repeat (first | exact (by repeat (first | (with_reducible exact HR248_0.out) | (with_reducible refine Kd.C_alloc ?_ _) | (with_reducible refine Kd.C_drewN ?_ _) | (with_reducible refine Kd.C_drew ?_) | exact HR248_0.out)) | (with_reducible refine Kd.C_alloc ?_ _) | (with_reducible refine Kd.C_drewN ?_ _) | (with_reducible refine Kd.C_drew ?_))); (case side2 => exact HC248_0.out); rintro e w40 ⟨rfl, hb⟩; refine ⟨_, rfl, ?_⟩; have n0_ := Aside0.mk (Kd.N_below (by (with_reducible repeat (first | apply Kd.N_alloc | apply Kd.N_drewN | apply Kd.N_drew)); exact HO_6.out) hb); have n1_ := Aside0.mk (Kd.N_below (by (with_reducible repeat (first | apply Kd.N_alloc | apply Kd.N_drewN | apply Kd.N_drew)); exact HO_50.out) hb); have n2_ := Aside0.mk (Kd.V_below (by (with_reducible repeat (first | apply Kd.V_alloc | apply Kd.V_drewN | apply Kd.V_drew)); exact HL248_0.out) hb); have n3_ := Aside0.mk (Kd.C_below (by repeat (first | (with_reducible exact HR248_0.out) | (with_reducible refine Kd.C_alloc ?_ _) | (with_reducible refine Kd.C_drewN ?_ _) | (with_reducible refine Kd.C_drew ?_) | exact HR248_0.out)) hb); have n4_ := Aside0.mk (below_step (by repeat (first | (with_reducible first | exact HB.out | apply below_alloc | apply pw_below_drewN | apply below_drew1) | exact HB.out)) hb); clear HO_6; clear HO_50; clear HL248_0; clear HR248_0; clear HB; have HO_6 := n0_; have HO_50 := n1_; have HL248_0 := n2_; have HR248_0 := n3_; have HB := n4_; clear n0_ n1_ n2_ n3_ n4_; (try clear hb); (try clear hb2); (try clear hk); (try clear hi)) | ((with_reducible refine gate_callee (f := 14) rfl ?_); refine goesL_ (some 64) rfl rfl Try.func14 (by kernel_rfl) rfl #[.slice A248_0 (rd_L2 t239 x52_2).length c248_0] rfl (by (try simp only [List.map_toArray, List.map_cons, List.map_nil]); first | done | rfl | (simp only [List.length_drop, List.length_take]; rfl)) ?_; (with_reducible refine (impl_TellCounts.calls k2 _ _ (rd_L2 t239 x52_2) t251 true _ ?side1 ?side2 A22.out).mono ?_); (case side1 => repeat (first | exact (by repeat (first | (with_reducible exact HR248_0.out) | (with_reducible refine Kd.C_alloc ?_ _) | (with_reducible refine Kd.C_drewN ?_ _) | (with_reducible refine Kd.C_drew ?_) | exact HR248_0.out)) | (with_reducible refine Kd.C_alloc ?_ _) | (with_reducible refine Kd.C_drewN ?_ _) | (with_reducible refine Kd.C_drew ?_))); (case side2 => exact HC248_0.out); rintro e w41 ⟨v253, rfl, ho0, hb⟩; refine ⟨_, rfl, ?_⟩; have n0_ := Aside0.mk (Kd.N_elder' (by (with_reducible repeat (first | apply Kd.N_alloc | apply Kd.N_drewN | apply Kd.N_drew)); exact HO_6.out) (Kd.R_base ho0) hb); have n1_ := Aside0.mk (Kd.N_elder' (by (with_reducible repeat (first | apply Kd.N_alloc | apply Kd.N_drewN | apply Kd.N_drew)); exact HO_50.out) (Kd.R_base ho0) hb); have n2_ := Aside0.mk (Kd.V_elder' (by (with_reducible repeat (first | apply Kd.V_alloc | apply Kd.V_drewN | apply Kd.V_drew)); exact HL248_0.out) (Kd.R_base ho0) hb); have n3_ := Aside0.mk (Kd.R_lower ho0 (below_size (by repeat (first | (with_reducible first | exact HB.out | apply below_alloc | apply pw_below_drewN | apply below_drew1) | exact HB.out)))); have n4_ := Aside0.mk (Kd.C_below (by repeat (first | (with_reducible exact HR248_0.out) | (with_reducible refine Kd.C_alloc ?_ _) | (with_reducible refine Kd.C_drewN ?_ _) | (with_reducible refine Kd.C_drew ?_) | exact HR248_0.out)) hb); have n5_ := Aside0.mk (below_step (by repeat (first | (with_reducible first | exact HB.out | apply below_alloc | apply pw_below_drewN | apply below_drew1) | exact HB.out)) hb); clear HO_6; clear HO_50; clear HL248_0; clear HR248_0; clear HB; have HO_6 := n0_; have HO_50 := n1_; have HL248_0 := n2_; have HO254 := n3_; have HR248_0 := n4_; have HB := n5_; clear n0_ n1_ n2_ n3_ n4_ n5_; (try clear hb); (try clear hb2); (try clear hk); (try clear hi); (try clear ho0); obtain ⟨Ao42, co42, eo42⟩ := Kd.R_slice HO254.out; subst eo42) | (go_at_call 15; (with_reducible refine (laws_qSame.calls k2 _ _ t251 _ _ (rd_L2 t239 x52_2) true _ ?side1 ?side2 ?side3 ?side4 A26.out).mono ?_); (case side1 => repeat (first | exact (Kd.R_reads' HO254.out).2.2 | (with_reducible refine Kd.C_alloc ?_ _) | (with_reducible refine Kd.C_drewN ?_ _) | (with_reducible refine Kd.C_drew ?_))); (case side2 => exact (Kd.R_reads' HO254.out).2.1); (case side3 => repeat (first | exact (by repeat (first | (with_reducible exact HR248_0.out) | (with_reducible refine Kd.C_alloc ?_ _) | (with_reducible refine Kd.C_drewN ?_ _) | (with_reducible refine Kd.C_drew ?_) | exact HR248_0.out)) | (with_reducible refine Kd.C_alloc ?_ _) | (with_reducible refine Kd.C_drewN ?_ _) | (with_reducible refine Kd.C_drew ?_))); (case side4 => exact HC248_0.out); rintro e w' ⟨rfl, ⟨nd, rfl⟩⟩) | (go_at_call 16; (with_reducible refine (laws_qSum.calls k2 _ _ (rd_L2 t239 x52_2) t256 _ ?side1 ?side2 A29.out).mono ?_); (case side1 => repeat (first | exact (by repeat (first | (with_reducible exact HR248_0.out) | (with_reducible refine Kd.C_alloc ?_ _) | (with_reducible refine Kd.C_drewN ?_ _) | (with_reducible refine Kd.C_drew ?_) | exact HR248_0.out)) | (with_reducible refine Kd.C_alloc ?_ _) | (with_reducible refine Kd.C_drewN ?_ _) | (with_reducible refine Kd.C_drew ?_))); (case side2 => exact HC248_0.out); rintro e w' ⟨rfl, ⟨nd, rfl⟩⟩))
                                    go_roundg k2
                                    case measure => have := HJ7.out; have := HK2.out; omega
                                    case rel => exact ⟨(wrap64 (x52_2 + 1)), (by first | rfl | (simp; done) | (simp [*]; done)), H', ⟨by have := HJ7.out; have := HK2.out; omega⟩, ⟨by (with_reducible repeat (first | apply Kd.N_alloc | apply Kd.N_drewN | apply Kd.N_drew)); exact Kd.N_mono HO_6.out (fun _ hk => trivial)⟩, ⟨by (with_reducible repeat (first | apply Kd.N_alloc | apply Kd.N_drewN | apply Kd.N_drew)); exact Kd.N_mono HO_50.out (fun _ hk => trivial)⟩, ⟨by repeat (first | (with_reducible first | exact HB.out | apply below_alloc | apply pw_below_drewN | apply below_drew1) | exact HB.out)⟩⟩
                              · rw [if_neg c30] at H
                                have c30b0 : (t256 == t238) = false := beq_eq_false_iff_ne.mpr c30
                                have c30b1 : (t256 != t238) = true := bne_iff_ne.mpr c30
                                exact absurd (Option.some.inj H) (by rw [HR_.out]; decide)
                            · rw [if_neg c28] at H
                              have c28b0 : (((rd_L2 t239 x52_2).length : Int) == t238) = false := beq_eq_false_iff_ne.mpr c28
                              have c28b1 : (((rd_L2 t239 x52_2).length : Int) != t238) = true := bne_iff_ne.mpr c28
                              exact absurd (Option.some.inj H) (by rw [HR_.out]; decide)
                          · replace c27 := Bool.eq_false_iff.mpr c27
                            subst c27
                            have H1 : (some false) = some r := by rw [if_neg (show ¬ (false = true) by decide)] at H; exact H
                            clear H
                            have H := H1
                            clear H1
                            exact absurd (Option.some.inj H) (by rw [HR_.out]; decide)
                        · replace c25 := Bool.eq_false_iff.mpr c25
                          subst c25
                          have H1 : (some false) = some r := by rw [if_neg (show ¬ (false = true) by decide)] at H; exact H
                          clear H
                          have H := H1
                          clear H1
                          exact absurd (Option.some.inj H) (by rw [HR_.out]; decide)
                      · replace c24 := Bool.eq_false_iff.mpr c24
                        subst c24
                        have H1 : (some false) = some r := by rw [if_neg (show ¬ (false = true) by decide)] at H; exact H
                        clear H
                        have H := H1
                        clear H1
                        exact absurd (Option.some.inj H) (by rw [HR_.out]; decide)
                    · replace c23 := Bool.eq_false_iff.mpr c23
                      subst c23
                      have H1 : (some false) = some r := by rw [if_neg (show ¬ (false = true) by decide)] at H; exact H
                      clear H
                      have H := H1
                      clear H1
                      exact absurd (Option.some.inj H) (by rw [HR_.out]; decide)
                  · rw [if_neg c20] at H
                    exact absurd H (by simp)
                · rw [if_neg c19] at H
                  exact absurd H (by simp)
              · rw [if_neg c18] at H
                have c18b0 : decide (x52_2 < (t239.length : Int)) = false := decide_eq_false c18
                clear c18
                have HC43 := Aside0.mk H
                clear H
                go_upto_region 16 with (fail)
                go_cut [114] (fun v114 wc => ∃ (kq : Nat) (x114_42 : Bool), v114 = .bool x114_42 ∧ Aside0 (laws_FnSelfTellingLists.j2 kq l1 t238 t239 x114_42 = some r) ∧ Aside0 (kq ≤ k2) ∧ Aside0 (Kd.N (Kd.slice 3 (Kd.int .i64)) 31 wc w.heap.size (fun _ => True) (.slice Ao17 t239.length co17) t239) ∧ Aside0 (Below w.heap.size w wc))
                case first =>
                  as_aux_lemma =>
                  have H := HC43.out
                  clear HC43
                  by_cases c44 : t240 = true
                  · subst c44
                    have H1 : (laws_FnSelfTellingLists.j2 k2 l1 t238 t239 (decide (t238 ≥ 7))) = some r := by rw [if_pos rfl] at H; exact H
                    clear H
                    have H := H1
                    clear H1
                    as_aux_lemma =>
                      have H' := Aside0.mk H
                      clear H
                      go_wp2
                      go_meet
                      case rel => exact ⟨_, (decide (t238 ≥ 7)), (by first | rfl | (simp; done) | (simp [*]; done)), H', ⟨by have := HJ7.out; have := HK2.out; first | omega | exact Nat.le_refl _⟩, ⟨by (with_reducible repeat (first | apply Kd.N_alloc | apply Kd.N_drewN | apply Kd.N_drew)); exact HO_6.out⟩, ⟨by repeat (first | (with_reducible first | exact HB.out | apply below_alloc | apply pw_below_drewN | apply below_drew1) | exact HB.out)⟩⟩
                  · replace c44 := Bool.eq_false_iff.mpr c44
                    subst c44
                    have H1 : (laws_FnSelfTellingLists.j2 k2 l1 t238 t239 false) = some r := by rw [if_neg (show ¬ (false = true) by decide)] at H; exact H
                    clear H
                    have H := H1
                    clear H1
                    as_aux_lemma =>
                      have H' := Aside0.mk H
                      clear H
                      go_wp2
                      go_meet
                      case rel => exact ⟨_, (false), (by first | rfl | (simp; done) | (simp [*]; done)), H', ⟨by have := HJ7.out; have := HK2.out; first | omega | exact Nat.le_refl _⟩, ⟨by (with_reducible repeat (first | apply Kd.N_alloc | apply Kd.N_drewN | apply Kd.N_drew)); exact HO_6.out⟩, ⟨by repeat (first | (with_reducible first | exact HB.out | apply below_alloc | apply pw_below_drewN | apply below_drew1) | exact HB.out)⟩⟩
                case rest =>
                  as_aux_lemma =>
                  clear HC43
                  try clear c1
                  try clear c2
                  try clear p2
                  try clear q2
                  try clear hx2
                  try clear c3
                  try clear c4
                  try clear c5
                  try clear c6
                  try clear p6
                  try clear c10
                  try clear c11
                  try clear c12
                  try clear c12b0
                  try clear c12b1
                  try clear c12b2
                  try clear c13
                  try clear c14
                  try clear c16
                  try clear c18
                  try clear c18b0
                  try clear c19
                  try clear c19b0
                  try clear c20
                  try clear c20b0
                  try clear c23
                  try clear c24
                  try clear p24
                  try clear q24
                  try clear hx24
                  try clear c25
                  try clear p25
                  try clear q25
                  try clear hx25
                  try clear c27
                  try clear c28
                  try clear c28b0
                  try clear c28b1
                  try clear c30
                  try clear c30b0
                  try clear c30b1
                  try clear c31
                  try clear c31b0
                  try clear c33
                  try clear c33b0
                  try clear c34
                  try clear c34b0
                  try clear c36
                  try clear c44
                  try clear hx248_0
                  try clear hx257_0
                  try clear p2
                  try clear p248
                  try clear p257
                  try clear q248
                  try clear q257
                  obtain ⟨kq, x114_42, rfl, HA, HJ42, HO_6, HB⟩ := hcut
                  cases kq with
                  | zero => exact absurd HA.out (by simp [laws_FnSelfTellingLists.j2])
                  | succ kj42 =>
                    have H := HA.out
                    clear HA
                    simp only [laws_FnSelfTellingLists.j2] at H
                    have HC45 := Aside0.mk H
                    clear H
                    go_upto_if 114 with (fail)
                    go_cut [] (fun wc => ∃ (kq : Nat), Aside0 (laws_FnSelfTellingLists.j3 kq l1 = some r) ∧ Aside0 (kq ≤ kj42) ∧ Aside0 (Below w.heap.size w wc))
                    case first =>
                      as_aux_lemma =>
                      have H := HC45.out
                      clear HC45
                      by_cases c46 : x114_42 = true
                      · subst c46
                        have H1 : (if 0 ≤ t238 then (if (t238 : Int).toNat ≤ 35184372088832 then ((some (List.replicate (t238 : Int).toNat 0 : List Int)).bind fun y259 => (if 0 < (y259.length : Int) then (if 1 < (y259.length : Int) then (if 2 < (y259.length : Int) then (if 0 ≤ (wrap64 (t238 - 4)) then (if (wrap64 (t238 - 4)) < (y259.length : Int) then (if (t239.length : Int) = 1 then (if 0 < (t239.length : Int) then ((laws_qSame.f kj42 (rd_L2 t239 0) ((((y259.set (0 : Int).toNat (wrap64 (t238 - 4))).set (1 : Int).toNat 2).set (2 : Int).toNat 1).set ((wrap64 (t238 - 4)) : Int).toNat 1)).bind fun t267 => (if t267 = true then (laws_FnSelfTellingLists.j3 kj42 l1) else (some false))) else (none)) else (some false)) else (none)) else (none)) else (none)) else (none)) else (none))) else (none)) else (none)) = some r := by rw [if_pos rfl] at H; exact H
                        clear H
                        have H := H1
                        clear H1
                        by_cases c47 : 0 ≤ t238
                        · rw [if_pos c47] at H
                          have c47b0 := eq_true c47
                          have c47b1 : decide (0 ≤ t238) = true := decide_eq_true c47
                          clear c47
                          by_cases c48 : (t238 : Int).toNat ≤ 35184372088832
                          · rw [if_pos c48] at H
                            have c48b0 := eq_true c48
                            have c48b1 : decide ((t238 : Int).toNat ≤ 35184372088832) = true := decide_eq_true c48
                            clear c48
                            obtain ⟨y259, hy259⟩ : ∃ y_ : List Int, y_ = (List.replicate (t238 : Int).toNat 0) := ⟨_, rfl⟩
                            replace H : (if 0 < (y259.length : Int) then (if 1 < (y259.length : Int) then (if 2 < (y259.length : Int) then (if 0 ≤ (wrap64 (t238 - 4)) then (if (wrap64 (t238 - 4)) < (y259.length : Int) then (if (t239.length : Int) = 1 then (if 0 < (t239.length : Int) then ((laws_qSame.f kj42 (rd_L2 t239 0) ((((y259.set (0 : Int).toNat (wrap64 (t238 - 4))).set (1 : Int).toNat 2).set (2 : Int).toNat 1).set ((wrap64 (t238 - 4)) : Int).toNat 1)).bind fun t267 => (if t267 = true then (laws_FnSelfTellingLists.j3 kj42 l1) else (some false))) else (none)) else (some false)) else (none)) else (none)) else (none)) else (none)) else (none)) = some r := by first | (rw [hy259]; with_reducible exact H) | (have H2_ := (Option.bind_some _ _).symm.trans H; rw [hy259]; with_reducible exact H2_) | (have H2_ := (Option.bind_some _ _).symm.trans H; with_reducible exact H2_) | with_reducible exact H | (rw [hy259]; exact H) | exact H
                            have Ny259 := Aside0.mk hy259
                            clear hy259
                            by_cases c49 : 0 < (y259.length : Int)
                            · rw [if_pos c49] at H
                              have c49b0 : decide (0 < (y259.length : Int)) = true := decide_eq_true c49
                              have c49b1 : decide (0 < y259.length) = true := decide_eq_true (by omega)
                              clear c49
                              (first | rw [c49b0] | (simp only [i64_w, i32_w]; rw [c49b0]) | skip)
                              obtain ⟨y262, hy262⟩ : ∃ y_ : List Int, y_ = (y259.set (0 : Int).toNat (wrap64 (t238 - 4))) := ⟨_, rfl⟩
                              replace H : (if 1 < (y259.length : Int) then (if 2 < (y259.length : Int) then (if 0 ≤ (wrap64 (t238 - 4)) then (if (wrap64 (t238 - 4)) < (y259.length : Int) then (if (t239.length : Int) = 1 then (if 0 < (t239.length : Int) then ((laws_qSame.f kj42 (rd_L2 t239 0) (((y262.set (1 : Int).toNat 2).set (2 : Int).toNat 1).set ((wrap64 (t238 - 4)) : Int).toNat 1)).bind fun t267 => (if t267 = true then (laws_FnSelfTellingLists.j3 kj42 l1) else (some false))) else (none)) else (some false)) else (none)) else (none)) else (none)) else (none)) = some r := by first | (rw [hy262]; with_reducible exact H) | (have H2_ := (Option.bind_some _ _).symm.trans H; rw [hy262]; with_reducible exact H2_) | (have H2_ := (Option.bind_some _ _).symm.trans H; with_reducible exact H2_) | with_reducible exact H | (rw [hy262]; exact H) | exact H
                              have Ny262 := Aside0.mk hy262
                              clear hy262
                              by_cases c51 : 1 < (y259.length : Int)
                              · rw [if_pos c51] at H
                                have c51b0 : decide (1 < (y259.length : Int)) = true := decide_eq_true c51
                                have c51b1 : decide (1 < y259.length) = true := decide_eq_true (by omega)
                                clear c51
                                obtain ⟨y263, hy263⟩ : ∃ y_ : List Int, y_ = (y262.set (1 : Int).toNat 2) := ⟨_, rfl⟩
                                replace H : (if 2 < (y259.length : Int) then (if 0 ≤ (wrap64 (t238 - 4)) then (if (wrap64 (t238 - 4)) < (y259.length : Int) then (if (t239.length : Int) = 1 then (if 0 < (t239.length : Int) then ((laws_qSame.f kj42 (rd_L2 t239 0) ((y263.set (2 : Int).toNat 1).set ((wrap64 (t238 - 4)) : Int).toNat 1)).bind fun t267 => (if t267 = true then (laws_FnSelfTellingLists.j3 kj42 l1) else (some false))) else (none)) else (some false)) else (none)) else (none)) else (none)) = some r := by first | (rw [hy263]; with_reducible exact H) | (have H2_ := (Option.bind_some _ _).symm.trans H; rw [hy263]; with_reducible exact H2_) | (have H2_ := (Option.bind_some _ _).symm.trans H; with_reducible exact H2_) | with_reducible exact H | (rw [hy263]; exact H) | exact H
                                have Ny263 := Aside0.mk hy263
                                clear hy263
                                by_cases c53 : 2 < (y259.length : Int)
                                · rw [if_pos c53] at H
                                  have c53b0 : decide (2 < (y259.length : Int)) = true := decide_eq_true c53
                                  have c53b1 : decide (2 < y259.length) = true := decide_eq_true (by omega)
                                  clear c53
                                  obtain ⟨y264, hy264⟩ : ∃ y_ : List Int, y_ = (y263.set (2 : Int).toNat 1) := ⟨_, rfl⟩
                                  replace H : (if 0 ≤ (wrap64 (t238 - 4)) then (if (wrap64 (t238 - 4)) < (y259.length : Int) then (if (t239.length : Int) = 1 then (if 0 < (t239.length : Int) then ((laws_qSame.f kj42 (rd_L2 t239 0) (y264.set ((wrap64 (t238 - 4)) : Int).toNat 1)).bind fun t267 => (if t267 = true then (laws_FnSelfTellingLists.j3 kj42 l1) else (some false))) else (none)) else (some false)) else (none)) else (none)) = some r := by first | (rw [hy264]; with_reducible exact H) | (have H2_ := (Option.bind_some _ _).symm.trans H; rw [hy264]; with_reducible exact H2_) | (have H2_ := (Option.bind_some _ _).symm.trans H; with_reducible exact H2_) | with_reducible exact H | (rw [hy264]; exact H) | exact H
                                  have Ny264 := Aside0.mk hy264
                                  clear hy264
                                  obtain ⟨ji55, hji55⟩ : ∃ j_ : Int, (wrap64 (t238 - 4)) = j_ := ⟨_, rfl⟩
                                  replace H : (if 0 ≤ (ji55) then (if (ji55) < (y259.length : Int) then (if (t239.length : Int) = 1 then (if 0 < (t239.length : Int) then ((laws_qSame.f kj42 (rd_L2 t239 0) (y264.set ((ji55) : Int).toNat 1)).bind fun t267 => (if t267 = true then (laws_FnSelfTellingLists.j3 kj42 l1) else (some false))) else (none)) else (some false)) else (none)) else (none)) = some r := by first | (rw [hji55] at H; exact H) | (simp only [hji55] at H ⊢; exact H)
                                  (try rw [hji55] at Ny262)
                                  (try rw [hji55] at Ny262)
                                  (try rw [hji55] at Ny262)
                                  have hji55w : (IntKind.i64.wrap (t238 - 4)) = ji55 := (i64_w _).trans hji55
                                  by_cases c56 : 0 ≤ (ji55)
                                  · rw [if_pos c56] at H
                                    have c56b0 : decide (0 ≤ (ji55)) = true := decide_eq_true c56
                                    clear c56
                                    by_cases c57 : (ji55) < (y259.length : Int)
                                    · rw [if_pos c57] at H
                                      have c57b0 : decide ((ji55) < (y259.length : Int)) = true := decide_eq_true c57
                                      clear c57
                                      obtain ⟨y265, hy265⟩ : ∃ y_ : List Int, y_ = (y264.set ((ji55) : Int).toNat 1) := ⟨_, rfl⟩
                                      replace H : (if (t239.length : Int) = 1 then (if 0 < (t239.length : Int) then ((laws_qSame.f kj42 (rd_L2 t239 0) y265).bind fun t267 => (if t267 = true then (laws_FnSelfTellingLists.j3 kj42 l1) else (some false))) else (none)) else (some false)) = some r := by first | (rw [hy265]; with_reducible exact H) | (have H2_ := (Option.bind_some _ _).symm.trans H; rw [hy265]; with_reducible exact H2_) | (have H2_ := (Option.bind_some _ _).symm.trans H; with_reducible exact H2_) | with_reducible exact H | (rw [hy265]; exact H) | exact H
                                      have Ny265 := Aside0.mk hy265
                                      clear hy265
                                      by_cases c59 : (t239.length : Int) = 1
                                      · rw [if_pos c59] at H
                                        have c59b0 : ((t239.length : Int) == 1) = true := beq_iff_eq.mpr c59
                                        have c59b1 : ((t239.length : Int) != 1) = false := bne_eq_false_iff_eq.mpr c59
                                        clear c59
                                        by_cases c60 : 0 < (t239.length : Int)
                                        · rw [if_pos c60] at H
                                          have c60b0 : decide (0 < (t239.length : Int)) = true := decide_eq_true c60
                                          have c60b1 : decide (0 < t239.length) = true := decide_eq_true (by omega)
                                          clear c60
                                          replace H := Option.bind_eq_some_iff.mp H
                                          obtain ⟨t267, A610, H⟩ := H
                                          replace H : (if t267 = true then (laws_FnSelfTellingLists.j3 kj42 l1) else (some false)) = some r := H
                                          have A61 := Aside0.mk A610
                                          clear A610
                                          by_cases c62 : t267 = true
                                          · subst c62
                                            have H1 : (laws_FnSelfTellingLists.j3 kj42 l1) = some r := by rw [if_pos rfl] at H; exact H
                                            clear H
                                            have H := H1
                                            clear H1
                                            as_aux_lemma =>
                                              have H' := Aside0.mk H
                                              clear H
                                              go_wp2_with (first | ((with_reducible refine gate_dst (N := 116) rfl ?_); (try (refine gate_guard (by rfl) ?_; dsimp only)); refine Kd.R_make (Kd.int .i64) _ 3 rfl (N := 116) rfl 31 _ _ rfl t238 rfl rfl Try.underlying31 (.int .i64 0) 8 info3 rfl (by decide) (by omega) 0 (ok := fun _ => True) (okp := fun _ => True) rfl (fun _ hk => hk) trivial (of_decide_eq_true (by first | (with_reducible assumption) | assumption)) (Nat.le_trans (Nat.mul_le_mul_right _ (of_decide_eq_true (by first | (with_reducible assumption) | assumption) : t238.toNat ≤ 35184372088832)) (by omega)) (Below.refl _ _) (Nat.le_refl _) ?_; intro v260 w63 ho64 hb hg_ hnew_; clear hg_ hnew_; (first | rw [← Ny259.out] at ho64 | (simp only [Int.reduceToNat] at ho64; rw [← Ny259.out] at ho64)); have n0_ := Aside0.mk (Kd.N_elder' (by (with_reducible repeat (first | apply Kd.N_alloc | apply Kd.N_drewN | apply Kd.N_drew)); exact HO_6.out) (Kd.R_base ho64) hb); have n1_ := Aside0.mk (Kd.R_lower ho64 (below_size (by repeat (first | (with_reducible first | exact HB.out | apply below_alloc | apply pw_below_drewN | apply below_drew1) | exact HB.out)))); have n2_ := Aside0.mk (below_step (by repeat (first | (with_reducible first | exact HB.out | apply below_alloc | apply pw_below_drewN | apply below_drew1) | exact HB.out)) hb); clear HO_6; clear HB; have HO_6 := n0_; have HO261 := n1_; have HB := n2_; clear n0_ n1_ n2_; clear hb ho64; have p50 : 0 ≤ (0 : Int) := (by omega); have q50 : (0 : Int) < ((y259.length : Int) : Int) := of_decide_eq_true (by first | (with_reducible assumption) | assumption); have qi50 : (0 < y259.length) = True := eq_true (by omega); obtain ⟨go50, co50, eo50, gb50, gl50, cl50, HG50⟩ := Kd.R_form HO261.out (by omega); (first | cases eo50 | (injection eo50 with ea_ en_ ec_; (first | subst ea_ | (injection ea_ with ea_; subst ea_)); subst ec_; clear en_)); have GB50 := Aside0.mk gb50; have GG50 := Aside0.mk HG50; clear gb50 gl50 HG50; obtain ⟨hx50_0, hf50_0⟩ := Kd.R_celln 0 HO261.out (0 : Int) p50 q50; (try rw [show ((0 : Int)).toNat = 0 from rfl] at hx50_0); (try simp only [Nat.reduceMul, Nat.zero_mul, Nat.zero_add, Nat.reduceAdd] at hx50_0); (try rw [show ((0 : Int)).toNat = 0 from rfl] at hf50_0); (try simp only [Nat.reduceMul, Nat.zero_mul, Nat.zero_add, Nat.reduceAdd] at hf50_0); replace p50 := eq_true p50; replace q50 := eq_true q50; obtain ⟨hy65_, hz65_⟩ := Kd.R_celln 0 HO261.out (0 : Int) (by omega) (of_decide_eq_true (by first | (with_reducible assumption) | assumption)); (try simp only [Int.reduceToNat, Int.toNat_zero, Int.toNat_ofNat, Nat.reduceMul, Nat.zero_mul, Nat.zero_add] at hy65_ hz65_); (try rw [show ((0 : Int)).toNat = 0 from rfl] at hy65_); (try rw [show ((0 : Int)).toNat = 0 from rfl] at hz65_); have HP65 := Kd.R_putg HO261.out (0 : Int) ji55) | ((with_reducible refine gate_store (t := 3) (p := 120) rfl ?_); refine store_event (t := 3) (p := 120) (v := ?vo_w66) (w1 := (w63.setCell ⟨go50, (0 : Int).toNat, none⟩ (.int .i64 ji55))) ?hg ?ho ?hn ?hr ?_; (case ho => rfl); (case hg => rfl); (case hn => rfl); (case hr => first | (go_simp; done) | (go_simp; rfl)); intro w66 hw; have hg : w63.grownBy w66 (some go50) := (by rw [hw]; exact HP65.2); have hp_ : Kd.R (Kd.int .i64) 3 w66 w.heap.size (fun _ => True) (.slice (some ⟨go50, 0, none⟩) y259.length co50) y262 := (by rw [hw, Ny262.out]; exact HP65.1); clear HP65; have n0_ := Aside0.mk (Kd.N_afterv (v := (.slice (some ⟨go50, 0, none⟩) y259.length co50)) (v1 := (.slice (some ⟨go50, 0, none⟩) y259.length co50)) (ok := (fun _ => True)) (by (with_reducible repeat (first | apply Kd.N_alloc | apply Kd.N_drewN | apply Kd.N_drew)); exact HO_6.out) hg (.inl rfl)); have n1_ := Aside0.mk (hp_); have n2_ := Aside0.mk ((by rw [hw]; exact below_set (HB.out) GB50.out : Below w.heap.size w w66)); clear HO_6; clear HO261; clear HB; have HO_6 := n0_; have HO261 := n1_; have HB := n2_; clear n0_ n1_ n2_; clear hg hw hp_; have p52 : 0 ≤ (1 : Int) := (by omega); have q52 : (1 : Int) < ((y259.length : Int) : Int) := of_decide_eq_true (by first | (with_reducible assumption) | assumption); have qi52 : (1 < y259.length) = True := eq_true (by omega); obtain ⟨hx52_0, hf52_0⟩ := Kd.R_celln 0 HO261.out (1 : Int) p52 q52; (try rw [show ((1 : Int)).toNat = 1 from rfl] at hx52_0); (try simp only [Nat.reduceMul, Nat.zero_mul, Nat.zero_add, Nat.reduceAdd] at hx52_0); (try rw [show ((1 : Int)).toNat = 1 from rfl] at hf52_0); (try simp only [Nat.reduceMul, Nat.zero_mul, Nat.zero_add, Nat.reduceAdd] at hf52_0); replace p52 := eq_true p52; replace q52 := eq_true q52; obtain ⟨hy67_, hz67_⟩ := Kd.R_celln 0 HO261.out (1 : Int) (by omega) (of_decide_eq_true (by first | (with_reducible assumption) | assumption)); (try simp only [Int.reduceToNat, Int.toNat_zero, Int.toNat_ofNat, Nat.reduceMul, Nat.zero_mul, Nat.zero_add] at hy67_ hz67_); (try rw [show ((1 : Int)).toNat = 1 from rfl] at hy67_); (try rw [show ((1 : Int)).toNat = 1 from rfl] at hz67_); have HP67 := Kd.R_putg HO261.out (1 : Int) 2) | ((with_reducible refine gate_store (t := 3) (p := 122) rfl ?_); refine store_event (t := 3) (p := 122) (v := ?vo_w68) (w1 := (w66.setCell ⟨go50, (1 : Int).toNat, none⟩ (.int .i64 2))) ?hg ?ho ?hn ?hr ?_; (case ho => rfl); (case hg => rfl); (case hn => rfl); (case hr => first | (go_simp; done) | (go_simp; rfl)); intro w68 hw; have hg : w66.grownBy w68 (some go50) := (by rw [hw]; exact HP67.2); have hp_ : Kd.R (Kd.int .i64) 3 w68 w.heap.size (fun _ => True) (.slice (some ⟨go50, 0, none⟩) y259.length co50) y263 := (by rw [hw, Ny263.out]; exact HP67.1); clear HP67; have n0_ := Aside0.mk (Kd.N_afterv (v := (.slice (some ⟨go50, 0, none⟩) y259.length co50)) (v1 := (.slice (some ⟨go50, 0, none⟩) y259.length co50)) (ok := (fun _ => True)) (by (with_reducible repeat (first | apply Kd.N_alloc | apply Kd.N_drewN | apply Kd.N_drew)); exact HO_6.out) hg (.inl rfl)); have n1_ := Aside0.mk (hp_); have n2_ := Aside0.mk ((by rw [hw]; exact below_set (HB.out) GB50.out : Below w.heap.size w w68)); clear HO_6; clear HO261; clear HB; have HO_6 := n0_; have HO261 := n1_; have HB := n2_; clear n0_ n1_ n2_; clear hg hw hp_; have p54 : 0 ≤ (2 : Int) := (by omega); have q54 : (2 : Int) < ((y259.length : Int) : Int) := of_decide_eq_true (by first | (with_reducible assumption) | assumption); have qi54 : (2 < y259.length) = True := eq_true (by omega); obtain ⟨hx54_0, hf54_0⟩ := Kd.R_celln 0 HO261.out (2 : Int) p54 q54; (try rw [show ((2 : Int)).toNat = 2 from rfl] at hx54_0); (try simp only [Nat.reduceMul, Nat.zero_mul, Nat.zero_add, Nat.reduceAdd] at hx54_0); (try rw [show ((2 : Int)).toNat = 2 from rfl] at hf54_0); (try simp only [Nat.reduceMul, Nat.zero_mul, Nat.zero_add, Nat.reduceAdd] at hf54_0); replace p54 := eq_true p54; replace q54 := eq_true q54; obtain ⟨hy69_, hz69_⟩ := Kd.R_celln 0 HO261.out (2 : Int) (by omega) (of_decide_eq_true (by first | (with_reducible assumption) | assumption)); (try simp only [Int.reduceToNat, Int.toNat_zero, Int.toNat_ofNat, Nat.reduceMul, Nat.zero_mul, Nat.zero_add] at hy69_ hz69_); (try rw [show ((2 : Int)).toNat = 2 from rfl] at hy69_); (try rw [show ((2 : Int)).toNat = 2 from rfl] at hz69_); have HP69 := Kd.R_putg HO261.out (2 : Int) 1) | ((with_reducible refine gate_store (t := 3) (p := 124) rfl ?_); refine store_event (t := 3) (p := 124) (v := ?vo_w70) (w1 := (w68.setCell ⟨go50, (2 : Int).toNat, none⟩ (.int .i64 1))) ?hg ?ho ?hn ?hr ?_; (case ho => rfl); (case hg => rfl); (case hn => rfl); (case hr => first | (go_simp; done) | (go_simp; rfl)); intro w70 hw; have hg : w68.grownBy w70 (some go50) := (by rw [hw]; exact HP69.2); have hp_ : Kd.R (Kd.int .i64) 3 w70 w.heap.size (fun _ => True) (.slice (some ⟨go50, 0, none⟩) y259.length co50) y264 := (by rw [hw, Ny264.out]; exact HP69.1); clear HP69; have n0_ := Aside0.mk (Kd.N_afterv (v := (.slice (some ⟨go50, 0, none⟩) y259.length co50)) (v1 := (.slice (some ⟨go50, 0, none⟩) y259.length co50)) (ok := (fun _ => True)) (by (with_reducible repeat (first | apply Kd.N_alloc | apply Kd.N_drewN | apply Kd.N_drew)); exact HO_6.out) hg (.inl rfl)); have n1_ := Aside0.mk (hp_); have n2_ := Aside0.mk ((by rw [hw]; exact below_set (HB.out) GB50.out : Below w.heap.size w w70)); clear HO_6; clear HO261; clear HB; have HO_6 := n0_; have HO261 := n1_; have HB := n2_; clear n0_ n1_ n2_; clear hg hw hp_; have p58 : 0 ≤ ((ji55) : Int) := of_decide_eq_true (by first | (with_reducible assumption) | assumption); have q58 : ((ji55) : Int) < ((y259.length : Int) : Int) := of_decide_eq_true (by first | (with_reducible assumption) | assumption); obtain ⟨hx58_0, hf58_0⟩ := Kd.R_celln 0 HO261.out ((ji55) : Int) p58 q58; replace p58 := eq_true p58; replace q58 := eq_true q58; obtain ⟨hy71_, hz71_⟩ := Kd.R_celln 0 HO261.out ((ji55) : Int) (of_decide_eq_true (by first | (with_reducible assumption) | assumption)) (of_decide_eq_true (by first | (with_reducible assumption) | assumption)); have HP71 := Kd.R_putg HO261.out ((ji55) : Int) 1) | ((with_reducible refine gate_store (t := 3) (p := 128) rfl ?_); refine store_event (t := 3) (p := 128) (v := ?vo_w72) (w1 := (w70.setCell ⟨go50, ((ji55) : Int).toNat, none⟩ (.int .i64 1))) ?hg ?ho ?hn ?hr ?_; (case ho => rfl); (case hg => rfl); (case hn => rfl); (case hr => first | (go_simp; done) | (go_simp; rfl)); intro w72 hw; have hg : w70.grownBy w72 (some go50) := (by rw [hw]; exact HP71.2); have hp_ : Kd.R (Kd.int .i64) 3 w72 w.heap.size (fun _ => True) (.slice (some ⟨go50, 0, none⟩) y259.length co50) y265 := (by rw [hw, Ny265.out]; exact HP71.1); clear HP71; have n0_ := Aside0.mk (Kd.N_afterv (v := (.slice (some ⟨go50, 0, none⟩) y259.length co50)) (v1 := (.slice (some ⟨go50, 0, none⟩) y259.length co50)) (ok := (fun _ => True)) (by (with_reducible repeat (first | apply Kd.N_alloc | apply Kd.N_drewN | apply Kd.N_drew)); exact HO_6.out) hg (.inl rfl)); have n1_ := Aside0.mk (hp_); have n2_ := Aside0.mk ((by rw [hw]; exact below_set (HB.out) GB50.out : Below w.heap.size w w72)); clear HO_6; clear HO261; clear HB; have HO_6 := n0_; have HO261 := n1_; have HB := n2_; clear n0_ n1_ n2_; clear hg hw hp_; have p266 : 0 ≤ (0 : Int) := (by omega); have q266 : 0 < (t239.length : Int) := of_decide_eq_true (by first | (with_reducible assumption) | assumption); obtain ⟨ad266, A266_0, c266_0, e266, hx266_0, hl266_0, hi266_0⟩ := at_L2 (Kd.N_reads' HO_6.out).2.2 0 p266 q266; cases e266; obtain ⟨ce266, hce266, hMe266, hcc266⟩ := Kd.N_get HO_6.out [] 0 p266 (by first | exact q266 | exact of_decide_eq_true (by first | (with_reducible assumption) | assumption) | (have e_ := (Kd.N_reads' HO_6.out).1; omega)); obtain ⟨ua266_0, uc266_0, rfl, ul266_0, ge266_0⟩ := Kd.FK_slice_open hMe266; have hv266_0 := hcc266 0 _ rfl; rw [Nat.add_zero, show ((Kd.slice 3 (Kd.int .i64))).sz = 1 from rfl, Nat.mul_one] at hv266_0; replace hv266_0 := Option.some.inj (hv266_0.symm.trans hx266_0); injection hv266_0 with hva_ hvn_ hvc_; rw [hva_] at ge266_0; rw [hvc_] at ul266_0; have HL266_0 := Aside0.mk (show Kd.V (Kd.int .i64) 3 _ w.heap.size _ _ (rd_L2 t239 0) from Kd.V_mk ul266_0 ge266_0); clear hva_ hvn_ hvc_ ge266_0 ul266_0; clear hcc266 hce266; have qi266 : (0 < t239.length) = True := eq_true (by omega); (try rw [show ((0 : Int)).toNat = 0 from rfl] at hx266_0); (try rw [Addr.add_zero'] at hx266_0); have HR266_0 := Aside0.mk hi266_0; have HC266_0 := Aside0.mk hl266_0; clear hi266_0 hl266_0; replace p266 := eq_true p266; replace q266 := eq_true q266) | (go_at_call 15; refine calls_of_args (args' := #[.slice A266_0 (rd_L2 t239 0).length c266_0, .slice (some ⟨go50, 0, none⟩) y265.length co50]) (by first | (rw [show y265.length = y259.length from (Kd.R_reads' HO261.out).1.symm] <;> rfl) | rfl) ?_; (with_reducible refine (laws_qSame.calls kj42 _ _ (rd_L2 t239 0) _ _ y265 true _ ?side1 ?side2 ?side3 ?side4 A61.out).mono ?_); (case side1 => repeat (first | exact (by repeat (first | (with_reducible exact HR266_0.out) | (with_reducible refine Kd.C_alloc ?_ _) | (with_reducible refine Kd.C_drewN ?_ _) | (with_reducible refine Kd.C_drew ?_) | exact HR266_0.out)) | (with_reducible refine Kd.C_alloc ?_ _) | (with_reducible refine Kd.C_drewN ?_ _) | (with_reducible refine Kd.C_drew ?_))); (case side2 => exact HC266_0.out); (case side3 => repeat (first | exact (Kd.R_reads' HO261.out).2.2 | (with_reducible refine Kd.C_alloc ?_ _) | (with_reducible refine Kd.C_drewN ?_ _) | (with_reducible refine Kd.C_drew ?_))); (case side4 => rw [show y265.length = y259.length from (Kd.R_reads' HO261.out).1.symm]; exact (Kd.R_reads' HO261.out).2.1); rintro e w' ⟨rfl, ⟨nd, rfl⟩⟩))
                                              go_meet
                                              case rel => exact ⟨_, H', ⟨by have := HJ7.out; have := HK2.out; have := HJ42.out; first | omega | exact Nat.le_refl _⟩, ⟨by repeat (first | (with_reducible first | exact HB.out | apply below_alloc | apply pw_below_drewN | apply below_drew1) | exact HB.out)⟩⟩
                                          · replace c62 := Bool.eq_false_iff.mpr c62
                                            subst c62
                                            have H1 : (some false) = some r := by rw [if_neg (show ¬ (false = true) by decide)] at H; exact H
                                            clear H
                                            have H := H1
                                            clear H1
                                            exact absurd (Option.some.inj H) (by rw [HR_.out]; decide)
                                        · rw [if_neg c60] at H
                                          exact absurd H (by simp)
                                      · rw [if_neg c59] at H
                                        have c59b0 : ((t239.length : Int) == 1) = false := beq_eq_false_iff_ne.mpr c59
                                        have c59b1 : ((t239.length : Int) != 1) = true := bne_iff_ne.mpr c59
                                        exact absurd (Option.some.inj H) (by rw [HR_.out]; decide)
                                    · rw [if_neg c57] at H
                                      exact absurd H (by simp)
                                  · rw [if_neg c56] at H
                                    exact absurd H (by simp)
                                · rw [if_neg c53] at H
                                  exact absurd H (by simp)
                              · rw [if_neg c51] at H
                                exact absurd H (by simp)
                            · rw [if_neg c49] at H
                              exact absurd H (by simp)
                          · rw [if_neg c48] at H
                            exact absurd H (by simp)
                        · rw [if_neg c47] at H
                          exact absurd H (by simp)
                      · replace c46 := Bool.eq_false_iff.mpr c46
                        subst c46
                        have H1 : (laws_FnSelfTellingLists.j3 kj42 l1) = some r := by rw [if_neg (show ¬ (false = true) by decide)] at H; exact H
                        clear H
                        have H := H1
                        clear H1
                        as_aux_lemma =>
                          have H' := Aside0.mk H
                          clear H
                          go_wp2
                          go_meet
                          case rel => exact ⟨_, H', ⟨by have := HJ7.out; have := HK2.out; have := HJ42.out; first | omega | exact Nat.le_refl _⟩, ⟨by repeat (first | (with_reducible first | exact HB.out | apply below_alloc | apply pw_below_drewN | apply below_drew1) | exact HB.out)⟩⟩
                    case rest =>
                      as_aux_lemma =>
                      clear HC45
                      try clear c1
                      try clear c2
                      try clear p2
                      try clear q2
                      try clear hx2
                      try clear qi2
                      try clear c3
                      try clear c4
                      try clear c5
                      try clear p5
                      try clear q5
                      try clear hx5
                      try clear qi5
                      try clear hf5
                      try clear c6
                      try clear p6
                      try clear c10
                      try clear c11
                      try clear c12
                      try clear c12b0
                      try clear c12b1
                      try clear c12b2
                      try clear c13
                      try clear c14
                      try clear c16
                      try clear c18
                      try clear c18b0
                      try clear c19
                      try clear c19b0
                      try clear c20
                      try clear c20b0
                      try clear c23
                      try clear c24
                      try clear p24
                      try clear q24
                      try clear hx24
                      try clear c25
                      try clear p25
                      try clear q25
                      try clear hx25
                      try clear c26
                      try clear p26
                      try clear q26
                      try clear hx26
                      try clear qi26
                      try clear c27
                      try clear c28
                      try clear c28b0
                      try clear c28b1
                      try clear c30
                      try clear c30b0
                      try clear c30b1
                      try clear c31
                      try clear c31b0
                      try clear c33
                      try clear c33b0
                      try clear c34
                      try clear c34b0
                      try clear c36
                      try clear c44
                      try clear c46
                      try clear c47
                      try clear c47b0
                      try clear c47b1
                      try clear c48
                      try clear c48b0
                      try clear c48b1
                      try clear c49
                      try clear c49b0
                      try clear c49b1
                      try clear p50
                      try clear q50
                      try clear hx50
                      try clear qi50
                      try clear hf50
                      try clear c51
                      try clear c51b0
                      try clear c51b1
                      try clear p52
                      try clear q52
                      try clear hx52
                      try clear qi52
                      try clear hf52
                      try clear c53
                      try clear c53b0
                      try clear c53b1
                      try clear p54
                      try clear q54
                      try clear hx54
                      try clear qi54
                      try clear hf54
                      try clear c56
                      try clear c56b0
                      try clear c57
                      try clear c57b0
                      try clear p58
                      try clear q58
                      try clear hx58
                      try clear hf58
                      try clear c59
                      try clear c59b0
                      try clear c59b1
                      try clear c60
                      try clear c60b0
                      try clear c60b1
                      try clear c62
                      try clear p64
                      try clear hx248_0
                      try clear hx257_0
                      try clear hx266_0
                      try clear hx50_0
                      try clear hx52_0
                      try clear hx54_0
                      try clear hx58_0
                      try clear p2
                      try clear p24
                      try clear p248
                      try clear p25
                      try clear p257
                      try clear p266
                      try clear p50
                      try clear p52
                      try clear p54
                      try clear p58
                      try clear p6
                      try clear q2
                      try clear q24
                      try clear q248
                      try clear q25
                      try clear q257
                      try clear q266
                      try clear q50
                      try clear q52
                      try clear q54
                      try clear q58
                      obtain ⟨kq, HA, HJ44, HB⟩ := hcut
                      cases kq with
                      | zero => exact absurd HA.out (by simp [laws_FnSelfTellingLists.j3])
                      | succ kj44 =>
                        have H := HA.out
                        clear HA
                        simp only [laws_FnSelfTellingLists.j3] at H
                        replace H := Option.bind_eq_some_iff.mp H
                        obtain ⟨t268, A730, H⟩ := H
                        replace H : ((impl_IsSelfTelling.f kj44 t268).bind fun bt271 => ((spec_IsSelfTelling.f kj44 t268).bind fun bt273 => ((impl_TellCounts.f kj44 t268).bind fun bt275 => ((spec_TellCounts.f kj44 t268).bind fun bt279 => (if (bt271.2 == bt273.2) = true then (if (bt271.1 == bt273.1) = true then (if (bt275.2 == bt279.2) = true then ((laws_qSame.f kj44 bt275.1 bt279.1).bind fun t283 => (if t283 = true then (if (bt275.2 == bt271.2) = true then (if bt271.2 = true then ((laws_qSame.f kj44 bt275.1 t268).bind fun t284 => (some (bt271.1 == t284))) else (some true)) else (some false)) else (some false))) else (some false)) else (some false)) else (some false)))))) = some r := H
                        have A73 := Aside0.mk A730
                        clear A730
                        replace H := Option.bind_eq_some_iff.mp H
                        obtain ⟨⟨t271, t272⟩, A740, H⟩ := H
                        replace H : ((spec_IsSelfTelling.f kj44 t268).bind fun bt273 => ((impl_TellCounts.f kj44 t268).bind fun bt275 => ((spec_TellCounts.f kj44 t268).bind fun bt279 => (if (t272 == bt273.2) = true then (if (t271 == bt273.1) = true then (if (bt275.2 == bt279.2) = true then ((laws_qSame.f kj44 bt275.1 bt279.1).bind fun t283 => (if t283 = true then (if (bt275.2 == t272) = true then (if t272 = true then ((laws_qSame.f kj44 bt275.1 t268).bind fun t284 => (some (t271 == t284))) else (some true)) else (some false)) else (some false))) else (some false)) else (some false)) else (some false))))) = some r := H
                        have A74 := Aside0.mk A740
                        clear A740
                        replace H := Option.bind_eq_some_iff.mp H
                        obtain ⟨⟨t273, t274⟩, A750, H⟩ := H
                        replace H : ((impl_TellCounts.f kj44 t268).bind fun bt275 => ((spec_TellCounts.f kj44 t268).bind fun bt279 => (if (t272 == t274) = true then (if (t271 == t273) = true then (if (bt275.2 == bt279.2) = true then ((laws_qSame.f kj44 bt275.1 bt279.1).bind fun t283 => (if t283 = true then (if (bt275.2 == t272) = true then (if t272 = true then ((laws_qSame.f kj44 bt275.1 t268).bind fun t284 => (some (t271 == t284))) else (some true)) else (some false)) else (some false))) else (some false)) else (some false)) else (some false)))) = some r := H
                        have A75 := Aside0.mk A750
                        clear A750
                        replace H := Option.bind_eq_some_iff.mp H
                        obtain ⟨⟨t275, t276⟩, A760, H⟩ := H
                        replace H : ((spec_TellCounts.f kj44 t268).bind fun bt279 => (if (t272 == t274) = true then (if (t271 == t273) = true then (if (t276 == bt279.2) = true then ((laws_qSame.f kj44 t275 bt279.1).bind fun t283 => (if t283 = true then (if (t276 == t272) = true then (if t272 = true then ((laws_qSame.f kj44 t275 t268).bind fun t284 => (some (t271 == t284))) else (some true)) else (some false)) else (some false))) else (some false)) else (some false)) else (some false))) = some r := H
                        have A76 := Aside0.mk A760
                        clear A760
                        replace H := Option.bind_eq_some_iff.mp H
                        obtain ⟨⟨t279, t280⟩, A770, H⟩ := H
                        replace H : (if (t272 == t274) = true then (if (t271 == t273) = true then (if (t276 == t280) = true then ((laws_qSame.f kj44 t275 t279).bind fun t283 => (if t283 = true then (if (t276 == t272) = true then (if t272 = true then ((laws_qSame.f kj44 t275 t268).bind fun t284 => (some (t271 == t284))) else (some true)) else (some false)) else (some false))) else (some false)) else (some false)) else (some false)) = some r := H
                        have A77 := Aside0.mk A770
                        clear A770
                        by_cases c78 : (t272 == t274) = true
                        · rw [if_pos c78] at H
                          have c78b0 : (t272 == t274) = true := c78
                          (try (have c78b1 : decide (t272 = t274) = true := by simpa using c78))
                          (try (have c78b2 : (t272 == t274) = true := by simpa using c78))
                          clear c78
                          by_cases c79 : (t271 == t273) = true
                          · rw [if_pos c79] at H
                            have c79b0 : (t271 == t273) = true := c79
                            (try (have c79b1 : decide (t271 = t273) = true := by simpa using c79))
                            (try (have c79b2 : (t271 == t273) = true := by simpa using c79))
                            clear c79
                            by_cases c80 : (t276 == t280) = true
                            · rw [if_pos c80] at H
                              have c80b0 : (t276 == t280) = true := c80
                              (try (have c80b1 : decide (t276 = t280) = true := by simpa using c80))
                              (try (have c80b2 : (t276 == t280) = true := by simpa using c80))
                              clear c80
                              replace H := Option.bind_eq_some_iff.mp H
                              obtain ⟨t283, A810, H⟩ := H
                              replace H : (if t283 = true then (if (t276 == t272) = true then (if t272 = true then ((laws_qSame.f kj44 t275 t268).bind fun t284 => (some (t271 == t284))) else (some true)) else (some false)) else (some false)) = some r := H
                              have A81 := Aside0.mk A810
                              clear A810
                              by_cases c82 : t283 = true
                              · subst c82
                                have H1 : (if (t276 == t272) = true then (if t272 = true then ((laws_qSame.f kj44 t275 t268).bind fun t284 => (some (t271 == t284))) else (some true)) else (some false)) = some r := by rw [if_pos rfl] at H; exact H
                                clear H
                                have H := H1
                                clear H1
                                by_cases c83 : (t276 == t272) = true
                                · rw [if_pos c83] at H
                                  have c83b0 : (t276 == t272) = true := c83
                                  (try (have c83b1 : decide (t276 = t272) = true := by simpa using c83))
                                  (try (have c83b2 : (t276 == t272) = true := by simpa using c83))
                                  clear c83
                                  by_cases c84 : t272 = true
                                  · subst c84
                                    have H1 : ((laws_qSame.f kj44 t275 t268).bind fun t284 => (some (t271 == t284))) = some r := by rw [if_pos rfl] at H; exact H
                                    clear H
                                    have H := H1
                                    clear H1
                                    replace H := Option.bind_eq_some_iff.mp H
                                    obtain ⟨t284, A850, H⟩ := H
                                    replace H : (some (t271 == t284)) = some r := H
                                    have A85 := Aside0.mk A850
                                    clear A850
                                    as_aux_lemma =>
                                      obtain rfl := Option.some.inj H
                                      go_wp2_with (first | ((with_reducible refine gate_callee (f := 18) rfl ?_); refine goesL_ (some 141) rfl rfl Try.func18 (by kernel_rfl) rfl #[.slice A1 l1.length c1] rfl (by (try simp only [List.map_toArray, List.map_cons, List.map_nil]); first | done | rfl | (simp only [List.length_drop, List.length_take]; rfl)) ?_; (with_reducible refine (spec_DrawIsSelfTelling.calls kj44 _ _ l1 t268 _ ?side1 ?side2 A73.out).mono ?_); (case side1 => repeat (first | exact (Kd.C_below HR1.out HB.out) | (with_reducible refine Kd.C_alloc ?_ _) | (with_reducible refine Kd.C_drewN ?_ _) | (with_reducible refine Kd.C_drew ?_))); (case side2 => exact HC1.out); rintro e w86 ⟨v269, rfl, ho0, hb⟩; refine ⟨_, rfl, ?_⟩; have n0_ := Aside0.mk (Kd.V_lower (Kd.V_mono (ok' := fun k_ => True) ho0 (fun k_ hk_ => trivial)) (below_size (by repeat (first | (with_reducible first | exact HB.out | apply below_alloc | apply pw_below_drewN | apply below_drew1) | exact HB.out)))); have n1_ := Aside0.mk (below_step (by repeat (first | (with_reducible first | exact HB.out | apply below_alloc | apply pw_below_drewN | apply below_drew1) | exact HB.out)) hb); clear HB; have HO270 := n0_; have HB := n1_; clear n0_ n1_; (try clear hb); (try clear hb2); (try clear hk); (try clear hi); (try clear ho0); obtain ⟨Ao87, co87, eo87⟩ := Kd.V_slice HO270.out; subst eo87) | ((with_reducible refine gate_callee (f := 13) rfl ?_); refine goesL_ (some 144) rfl rfl Try.func13 (by kernel_rfl) rfl #[.slice Ao87 t268.length co87] rfl (by (try simp only [List.map_toArray, List.map_cons, List.map_nil]); first | done | rfl | (simp only [List.length_drop, List.length_take]; rfl)) ?_; (with_reducible refine (impl_IsSelfTelling.calls kj44 _ _ t268 t271 true _ ?side1 ?side2 A74.out).mono ?_); (case side1 => repeat (first | exact (Kd.V_reads' HO270.out).2.2 | (with_reducible refine Kd.C_alloc ?_ _) | (with_reducible refine Kd.C_drewN ?_ _) | (with_reducible refine Kd.C_drew ?_))); (case side2 => exact (Kd.V_reads' HO270.out).2.1); rintro e w88 ⟨rfl, hb⟩; refine ⟨_, rfl, ?_⟩; have n0_ := Aside0.mk (Kd.V_below (by (with_reducible repeat (first | apply Kd.V_alloc | apply Kd.V_drewN | apply Kd.V_drew)); exact HO270.out) hb); have n1_ := Aside0.mk (below_step (by repeat (first | (with_reducible first | exact HB.out | apply below_alloc | apply pw_below_drewN | apply below_drew1) | exact HB.out)) hb); clear HO270; clear HB; have HO270 := n0_; have HB := n1_; clear n0_ n1_; (try clear hb); (try clear hb2); (try clear hk); (try clear hi)) | ((with_reducible refine gate_callee (f := 19) rfl ?_); refine goesL_ (some 149) rfl rfl Try.func19 (by kernel_rfl) rfl #[.slice Ao87 t268.length co87] rfl (by (try simp only [List.map_toArray, List.map_cons, List.map_nil]); first | done | rfl | (simp only [List.length_drop, List.length_take]; rfl)) ?_; (with_reducible refine (spec_IsSelfTelling.calls kj44 _ _ t268 t273 t274 _ ?side1 ?side2 A75.out).mono ?_); (case side1 => repeat (first | exact (Kd.V_reads' HO270.out).2.2 | (with_reducible refine Kd.C_alloc ?_ _) | (with_reducible refine Kd.C_drewN ?_ _) | (with_reducible refine Kd.C_drew ?_))); (case side2 => exact (Kd.V_reads' HO270.out).2.1); rintro e w89 ⟨rfl, hb⟩; refine ⟨_, rfl, ?_⟩; have n0_ := Aside0.mk (Kd.V_below (by (with_reducible repeat (first | apply Kd.V_alloc | apply Kd.V_drewN | apply Kd.V_drew)); exact HO270.out) hb); have n1_ := Aside0.mk (below_step (by repeat (first | (with_reducible first | exact HB.out | apply below_alloc | apply pw_below_drewN | apply below_drew1) | exact HB.out)) hb); clear HO270; clear HB; have HO270 := n0_; have HB := n1_; clear n0_ n1_; (try clear hb); (try clear hb2); (try clear hk); (try clear hi)) | ((with_reducible refine gate_callee (f := 14) rfl ?_); refine goesL_ (some 154) rfl rfl Try.func14 (by kernel_rfl) rfl #[.slice Ao87 t268.length co87] rfl (by (try simp only [List.map_toArray, List.map_cons, List.map_nil]); first | done | rfl | (simp only [List.length_drop, List.length_take]; rfl)) ?_; (with_reducible refine (impl_TellCounts.calls kj44 _ _ t268 t275 t276 _ ?side1 ?side2 A76.out).mono ?_); (case side1 => repeat (first | exact (Kd.V_reads' HO270.out).2.2 | (with_reducible refine Kd.C_alloc ?_ _) | (with_reducible refine Kd.C_drewN ?_ _) | (with_reducible refine Kd.C_drew ?_))); (case side2 => exact (Kd.V_reads' HO270.out).2.1); rintro e w90 ⟨v277, rfl, ho0, hb⟩; refine ⟨_, rfl, ?_⟩; have n0_ := Aside0.mk (Kd.V_elder' (by (with_reducible repeat (first | apply Kd.V_alloc | apply Kd.V_drewN | apply Kd.V_drew)); exact HO270.out) (Kd.R_base ho0) hb); have n1_ := Aside0.mk (Kd.R_lower ho0 (below_size (by repeat (first | (with_reducible first | exact HB.out | apply below_alloc | apply pw_below_drewN | apply below_drew1) | exact HB.out)))); have n2_ := Aside0.mk (below_step (by repeat (first | (with_reducible first | exact HB.out | apply below_alloc | apply pw_below_drewN | apply below_drew1) | exact HB.out)) hb); clear HO270; clear HB; have HO270 := n0_; have HO278 := n1_; have HB := n2_; clear n0_ n1_ n2_; (try clear hb); (try clear hb2); (try clear hk); (try clear hi); (try clear ho0)) | ((with_reducible refine gate_callee (f := 20) rfl ?_); refine goesL_ (some 159) rfl rfl Try.func20 (by kernel_rfl) rfl #[.slice Ao87 t268.length co87] rfl (by (try simp only [List.map_toArray, List.map_cons, List.map_nil]); first | done | rfl | (simp only [List.length_drop, List.length_take]; rfl)) ?_; (with_reducible refine (spec_TellCounts.calls kj44 _ _ t268 t279 t280 _ ?side1 ?side2 A77.out).mono ?_); (case side1 => repeat (first | exact (Kd.V_reads' HO270.out).2.2 | (with_reducible refine Kd.C_alloc ?_ _) | (with_reducible refine Kd.C_drewN ?_ _) | (with_reducible refine Kd.C_drew ?_))); (case side2 => exact (Kd.V_reads' HO270.out).2.1); rintro e w91 ⟨v281, rfl, ho0, hb⟩; refine ⟨_, rfl, ?_⟩; have n0_ := Aside0.mk (Kd.V_elder' (by (with_reducible repeat (first | apply Kd.V_alloc | apply Kd.V_drewN | apply Kd.V_drew)); exact HO270.out) (Kd.R_base ho0) hb); have n1_ := Aside0.mk (Kd.R_elder' (by (with_reducible repeat (first | apply Kd.R_alloc | apply Kd.R_drewN | apply Kd.R_drew)); exact HO278.out) (Kd.R_base ho0) hb); have n2_ := Aside0.mk (Kd.R_lower (Kd.R_new' ho0 (Kd.R_lt (by (with_reducible repeat (first | apply Kd.R_alloc | apply Kd.R_drewN | apply Kd.R_drew)); exact HO278.out))) (below_size (by repeat (first | (with_reducible first | exact HB.out | apply below_alloc | apply pw_below_drewN | apply below_drew1) | exact HB.out)))); have n3_ := Aside0.mk (below_step (by repeat (first | (with_reducible first | exact HB.out | apply below_alloc | apply pw_below_drewN | apply below_drew1) | exact HB.out)) hb); clear HO270; clear HO278; clear HB; have HO270 := n0_; have HO278 := n1_; have HO282 := n2_; have HB := n3_; clear n0_ n1_ n2_ n3_; (try clear hb); (try clear hb2); (try clear hk); (try clear hi); (try clear ho0); obtain ⟨Ao92, co92, eo92⟩ := Kd.R_slice HO278.out; subst eo92; obtain ⟨Ao93, co93, eo93⟩ := Kd.R_slice HO282.out; subst eo93) | (go_at_call 15; (with_reducible refine (laws_qSame.calls kj44 _ _ t275 _ _ t279 true _ ?side1 ?side2 ?side3 ?side4 A81.out).mono ?_); (case side1 => repeat (first | exact (Kd.R_reads' HO278.out).2.2 | (with_reducible refine Kd.C_alloc ?_ _) | (with_reducible refine Kd.C_drewN ?_ _) | (with_reducible refine Kd.C_drew ?_))); (case side2 => exact (Kd.R_reads' HO278.out).2.1); (case side3 => repeat (first | exact (Kd.R_reads' HO282.out).2.2 | (with_reducible refine Kd.C_alloc ?_ _) | (with_reducible refine Kd.C_drewN ?_ _) | (with_reducible refine Kd.C_drew ?_))); (case side4 => exact (Kd.R_reads' HO282.out).2.1); rintro e w' ⟨rfl, ⟨nd, rfl⟩⟩) | (go_at_call 15; (with_reducible refine (laws_qSame.calls kj44 _ _ t275 _ _ t268 t284 _ ?side1 ?side2 ?side3 ?side4 A85.out).mono ?_); (case side1 => repeat (first | exact (Kd.R_reads' HO278.out).2.2 | (with_reducible refine Kd.C_alloc ?_ _) | (with_reducible refine Kd.C_drewN ?_ _) | (with_reducible refine Kd.C_drew ?_))); (case side2 => exact (Kd.R_reads' HO278.out).2.1); (case side3 => repeat (first | exact (Kd.V_reads' HO270.out).2.2 | (with_reducible refine Kd.C_alloc ?_ _) | (with_reducible refine Kd.C_drewN ?_ _) | (with_reducible refine Kd.C_drew ?_))); (case side4 => exact (Kd.V_reads' HO270.out).2.1); rintro e w' ⟨rfl, ⟨nd, rfl⟩⟩))
                                      go_ret
                                      exact ⟨by first | rfl | (simp [errW_none, errW_some] <;> rfl) | (simp [*, errW_none, errW_some] <;> rfl), by repeat (first | (with_reducible first | exact HB.out | apply below_alloc | apply pw_below_drewN | apply below_drew1) | exact HB.out)⟩
                                  · replace c84 := Bool.eq_false_iff.mpr c84
                                    subst c84
                                    have H1 : (some true) = some r := by rw [if_neg (show ¬ (false = true) by decide)] at H; exact H
                                    clear H
                                    have H := H1
                                    clear H1
                                    as_aux_lemma =>
                                      obtain rfl := Option.some.inj H
                                      go_wp2_with (first | ((with_reducible refine gate_callee (f := 18) rfl ?_); refine goesL_ (some 141) rfl rfl Try.func18 (by kernel_rfl) rfl #[.slice A1 l1.length c1] rfl (by (try simp only [List.map_toArray, List.map_cons, List.map_nil]); first | done | rfl | (simp only [List.length_drop, List.length_take]; rfl)) ?_; (with_reducible refine (spec_DrawIsSelfTelling.calls kj44 _ _ l1 t268 _ ?side1 ?side2 A73.out).mono ?_); (case side1 => repeat (first | exact (Kd.C_below HR1.out HB.out) | (with_reducible refine Kd.C_alloc ?_ _) | (with_reducible refine Kd.C_drewN ?_ _) | (with_reducible refine Kd.C_drew ?_))); (case side2 => exact HC1.out); rintro e w94 ⟨v269, rfl, ho0, hb⟩; refine ⟨_, rfl, ?_⟩; have n0_ := Aside0.mk (Kd.V_lower (Kd.V_mono (ok' := fun k_ => True) ho0 (fun k_ hk_ => trivial)) (below_size (by repeat (first | (with_reducible first | exact HB.out | apply below_alloc | apply pw_below_drewN | apply below_drew1) | exact HB.out)))); have n1_ := Aside0.mk (below_step (by repeat (first | (with_reducible first | exact HB.out | apply below_alloc | apply pw_below_drewN | apply below_drew1) | exact HB.out)) hb); clear HB; have HO270 := n0_; have HB := n1_; clear n0_ n1_; (try clear hb); (try clear hb2); (try clear hk); (try clear hi); (try clear ho0); obtain ⟨Ao95, co95, eo95⟩ := Kd.V_slice HO270.out; subst eo95) | ((with_reducible refine gate_callee (f := 13) rfl ?_); refine goesL_ (some 144) rfl rfl Try.func13 (by kernel_rfl) rfl #[.slice Ao95 t268.length co95] rfl (by (try simp only [List.map_toArray, List.map_cons, List.map_nil]); first | done | rfl | (simp only [List.length_drop, List.length_take]; rfl)) ?_; (with_reducible refine (impl_IsSelfTelling.calls kj44 _ _ t268 t271 false _ ?side1 ?side2 A74.out).mono ?_); (case side1 => repeat (first | exact (Kd.V_reads' HO270.out).2.2 | (with_reducible refine Kd.C_alloc ?_ _) | (with_reducible refine Kd.C_drewN ?_ _) | (with_reducible refine Kd.C_drew ?_))); (case side2 => exact (Kd.V_reads' HO270.out).2.1); rintro e w96 ⟨rfl, hb⟩; refine ⟨_, rfl, ?_⟩; have n0_ := Aside0.mk (Kd.V_below (by (with_reducible repeat (first | apply Kd.V_alloc | apply Kd.V_drewN | apply Kd.V_drew)); exact HO270.out) hb); have n1_ := Aside0.mk (below_step (by repeat (first | (with_reducible first | exact HB.out | apply below_alloc | apply pw_below_drewN | apply below_drew1) | exact HB.out)) hb); clear HO270; clear HB; have HO270 := n0_; have HB := n1_; clear n0_ n1_; (try clear hb); (try clear hb2); (try clear hk); (try clear hi)) | ((with_reducible refine gate_callee (f := 19) rfl ?_); refine goesL_ (some 149) rfl rfl Try.func19 (by kernel_rfl) rfl #[.slice Ao95 t268.length co95] rfl (by (try simp only [List.map_toArray, List.map_cons, List.map_nil]); first | done | rfl | (simp only [List.length_drop, List.length_take]; rfl)) ?_; (with_reducible refine (spec_IsSelfTelling.calls kj44 _ _ t268 t273 t274 _ ?side1 ?side2 A75.out).mono ?_); (case side1 => repeat (first | exact (Kd.V_reads' HO270.out).2.2 | (with_reducible refine Kd.C_alloc ?_ _) | (with_reducible refine Kd.C_drewN ?_ _) | (with_reducible refine Kd.C_drew ?_))); (case side2 => exact (Kd.V_reads' HO270.out).2.1); rintro e w97 ⟨rfl, hb⟩; refine ⟨_, rfl, ?_⟩; have n0_ := Aside0.mk (Kd.V_below (by (with_reducible repeat (first | apply Kd.V_alloc | apply Kd.V_drewN | apply Kd.V_drew)); exact HO270.out) hb); have n1_ := Aside0.mk (below_step (by repeat (first | (with_reducible first | exact HB.out | apply below_alloc | apply pw_below_drewN | apply below_drew1) | exact HB.out)) hb); clear HO270; clear HB; have HO270 := n0_; have HB := n1_; clear n0_ n1_; (try clear hb); (try clear hb2); (try clear hk); (try clear hi)) | ((with_reducible refine gate_callee (f := 14) rfl ?_); refine goesL_ (some 154) rfl rfl Try.func14 (by kernel_rfl) rfl #[.slice Ao95 t268.length co95] rfl (by (try simp only [List.map_toArray, List.map_cons, List.map_nil]); first | done | rfl | (simp only [List.length_drop, List.length_take]; rfl)) ?_; (with_reducible refine (impl_TellCounts.calls kj44 _ _ t268 t275 t276 _ ?side1 ?side2 A76.out).mono ?_); (case side1 => repeat (first | exact (Kd.V_reads' HO270.out).2.2 | (with_reducible refine Kd.C_alloc ?_ _) | (with_reducible refine Kd.C_drewN ?_ _) | (with_reducible refine Kd.C_drew ?_))); (case side2 => exact (Kd.V_reads' HO270.out).2.1); rintro e w98 ⟨v277, rfl, ho0, hb⟩; refine ⟨_, rfl, ?_⟩; have n0_ := Aside0.mk (Kd.V_elder' (by (with_reducible repeat (first | apply Kd.V_alloc | apply Kd.V_drewN | apply Kd.V_drew)); exact HO270.out) (Kd.R_base ho0) hb); have n1_ := Aside0.mk (Kd.R_lower ho0 (below_size (by repeat (first | (with_reducible first | exact HB.out | apply below_alloc | apply pw_below_drewN | apply below_drew1) | exact HB.out)))); have n2_ := Aside0.mk (below_step (by repeat (first | (with_reducible first | exact HB.out | apply below_alloc | apply pw_below_drewN | apply below_drew1) | exact HB.out)) hb); clear HO270; clear HB; have HO270 := n0_; have HO278 := n1_; have HB := n2_; clear n0_ n1_ n2_; (try clear hb); (try clear hb2); (try clear hk); (try clear hi); (try clear ho0)) | ((with_reducible refine gate_callee (f := 20) rfl ?_); refine goesL_ (some 159) rfl rfl Try.func20 (by kernel_rfl) rfl #[.slice Ao95 t268.length co95] rfl (by (try simp only [List.map_toArray, List.map_cons, List.map_nil]); first | done | rfl | (simp only [List.length_drop, List.length_take]; rfl)) ?_; (with_reducible refine (spec_TellCounts.calls kj44 _ _ t268 t279 t280 _ ?side1 ?side2 A77.out).mono ?_); (case side1 => repeat (first | exact (Kd.V_reads' HO270.out).2.2 | (with_reducible refine Kd.C_alloc ?_ _) | (with_reducible refine Kd.C_drewN ?_ _) | (with_reducible refine Kd.C_drew ?_))); (case side2 => exact (Kd.V_reads' HO270.out).2.1); rintro e w99 ⟨v281, rfl, ho0, hb⟩; refine ⟨_, rfl, ?_⟩; have n0_ := Aside0.mk (Kd.V_elder' (by (with_reducible repeat (first | apply Kd.V_alloc | apply Kd.V_drewN | apply Kd.V_drew)); exact HO270.out) (Kd.R_base ho0) hb); have n1_ := Aside0.mk (Kd.R_elder' (by (with_reducible repeat (first | apply Kd.R_alloc | apply Kd.R_drewN | apply Kd.R_drew)); exact HO278.out) (Kd.R_base ho0) hb); have n2_ := Aside0.mk (Kd.R_lower (Kd.R_new' ho0 (Kd.R_lt (by (with_reducible repeat (first | apply Kd.R_alloc | apply Kd.R_drewN | apply Kd.R_drew)); exact HO278.out))) (below_size (by repeat (first | (with_reducible first | exact HB.out | apply below_alloc | apply pw_below_drewN | apply below_drew1) | exact HB.out)))); have n3_ := Aside0.mk (below_step (by repeat (first | (with_reducible first | exact HB.out | apply below_alloc | apply pw_below_drewN | apply below_drew1) | exact HB.out)) hb); clear HO270; clear HO278; clear HB; have HO270 := n0_; have HO278 := n1_; have HO282 := n2_; have HB := n3_; clear n0_ n1_ n2_ n3_; (try clear hb); (try clear hb2); (try clear hk); (try clear hi); (try clear ho0); obtain ⟨Ao100, co100, eo100⟩ := Kd.R_slice HO278.out; subst eo100; obtain ⟨Ao101, co101, eo101⟩ := Kd.R_slice HO282.out; subst eo101) | (go_at_call 15; (with_reducible refine (laws_qSame.calls kj44 _ _ t275 _ _ t279 true _ ?side1 ?side2 ?side3 ?side4 A81.out).mono ?_); (case side1 => repeat (first | exact (Kd.R_reads' HO278.out).2.2 | (with_reducible refine Kd.C_alloc ?_ _) | (with_reducible refine Kd.C_drewN ?_ _) | (with_reducible refine Kd.C_drew ?_))); (case side2 => exact (Kd.R_reads' HO278.out).2.1); (case side3 => repeat (first | exact (Kd.R_reads' HO282.out).2.2 | (with_reducible refine Kd.C_alloc ?_ _) | (with_reducible refine Kd.C_drewN ?_ _) | (with_reducible refine Kd.C_drew ?_))); (case side4 => exact (Kd.R_reads' HO282.out).2.1); rintro e w' ⟨rfl, ⟨nd, rfl⟩⟩))
                                      go_ret
                                      exact ⟨by first | rfl | (simp [errW_none, errW_some] <;> rfl) | (simp [*, errW_none, errW_some] <;> rfl), by repeat (first | (with_reducible first | exact HB.out | apply below_alloc | apply pw_below_drewN | apply below_drew1) | exact HB.out)⟩
                                · rw [if_neg c83] at H
                                  have c83b0 : (t276 == t272) = false := by simpa using c83
                                  (try (have c83b1 : decide (t276 = t272) = false := by simpa using c83))
                                  (try (have c83b2 : (t276 == t272) = false := by simpa using c83))
                                  (try (have c83b3 : ¬ (t276 = t272) := by simpa using c83))
                                  clear c83
                                  exact absurd (Option.some.inj H) (by rw [HR_.out]; decide)
                              · replace c82 := Bool.eq_false_iff.mpr c82
                                subst c82
                                have H1 : (some false) = some r := by rw [if_neg (show ¬ (false = true) by decide)] at H; exact H
                                clear H
                                have H := H1
                                clear H1
                                exact absurd (Option.some.inj H) (by rw [HR_.out]; decide)
                            · rw [if_neg c80] at H
                              have c80b0 : (t276 == t280) = false := by simpa using c80
                              (try (have c80b1 : decide (t276 = t280) = false := by simpa using c80))
                              (try (have c80b2 : (t276 == t280) = false := by simpa using c80))
                              (try (have c80b3 : ¬ (t276 = t280) := by simpa using c80))
                              clear c80
                              exact absurd (Option.some.inj H) (by rw [HR_.out]; decide)
                          · rw [if_neg c79] at H
                            have c79b0 : (t271 == t273) = false := by simpa using c79
                            (try (have c79b1 : decide (t271 = t273) = false := by simpa using c79))
                            (try (have c79b2 : (t271 == t273) = false := by simpa using c79))
                            (try (have c79b3 : ¬ (t271 = t273) := by simpa using c79))
                            clear c79
                            exact absurd (Option.some.inj H) (by rw [HR_.out]; decide)
                        · rw [if_neg c78] at H
                          have c78b0 : (t272 == t274) = false := by simpa using c78
                          (try (have c78b1 : decide (t272 = t274) = false := by simpa using c78))
                          (try (have c78b2 : (t272 == t274) = false := by simpa using c78))
                          (try (have c78b3 : ¬ (t272 = t274) := by simpa using c78))
                          clear c78
                          exact absurd (Option.some.inj H) (by rw [HR_.out]; decide)

/-- THE ONE PURE STATEMENT of laws_FnSelfTellingLists: yours. -/
def laws_FnSelfTellingLists.Pure : Prop := ∀ (l0 : List Int) (l1 : List Int), l0.length ≤ maxLen → l0.length * 1 ≤ 140737488351232 → (∀ x ∈ l0, (Lit.int .u8 x).wf = true) → l1.length ≤ maxLen → l1.length * 1 ≤ 140737488351232 → (∀ x ∈ l1, (Lit.int .u8 x).wf = true) → ∃ k, laws_FnSelfTellingLists.f k l0 l1 = some true
theorem laws_FnSelfTellingLists.walk (P : laws_FnSelfTellingLists.Pure) (a0 : Option Addr) (len0 cap0 : Nat) (z0 : List Int) (a1 : Option Addr) (len1 cap1 : Nat) (z1 : List Int) (w : World) (w0 : (a0 = none ∧ len0 = 0 ∧ cap0 = 0 ∧ z0 = []) ∨ ∃ x, a0 = some x ∧ len0 ≤ cap0 ∧ cap0 ≤ maxLen ∧ z0.length = cap0 ∧ (∀ i, i < z0.length → w.cell? (x.add i) = some (.int .u8 (z0.getD i 0))) ∧ ∀ n ∈ z0, (Lit.int .u8 n).wf = true) (y0 : len0 * 1 ≤ 140737488351232) (w1 : (a1 = none ∧ len1 = 0 ∧ cap1 = 0 ∧ z1 = []) ∨ ∃ x, a1 = some x ∧ len1 ≤ cap1 ∧ cap1 ≤ maxLen ∧ z1.length = cap1 ∧ (∀ i, i < z1.length → w.cell? (x.add i) = some (.int .u8 (z1.getD i 0))) ∧ ∀ n ∈ z1, (Lit.int .u8 n).wf = true) (y1 : len1 * 1 ≤ 140737488351232) :
    Calls Try.prog 4 #[.slice a0 len0 cap0, .slice a1 len1 cap1] w fun e w' => e = .returned (.bool true) ∧ Below w.heap.size w w' := by
  obtain ⟨l0, rfl, hr0, hm0, hw0, hc0⟩ := ReadsInt.ofRowC w0
  obtain ⟨l1, rfl, hr1, hm1, hw1, hc1⟩ := ReadsInt.ofRowC w1
  obtain ⟨k, h⟩ := P l0 l1 hm0 y0 hw0 hm1 y1 hw1
  refine (laws_FnSelfTellingLists.calls k _ _ l0 _ _ l1 true w (Kd.C_of_reads (d := (0 : Int)) (h1 := fun _ => rfl) hr0) hc0 (Kd.C_of_reads (d := (0 : Int)) (h1 := fun _ => rfl) hr1) hc1 h rfl).mono ?_
  rintro e w' ⟨rfl, hd⟩
  exact ⟨rfl, hd⟩

end Go.Proofs.Ytiedpgebceeplaa.PFnSelfTellingLists
