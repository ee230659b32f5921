-- out of the kit's print, turned by wip/own_print.py
import Derived.Test.YtnhohachlieglaaPFnExactHalvesOfx0
import Derived.Test.YtnhohachlieglaaPFnExactHalvesOfx1
import Derived.Test.YtnhohachlieglaaPFnExactHalvesOfx2
import Derived.Test.YtnhohachlieglaaPFnExactHalvesOfx4
namespace Go.Proofs.Ytnhohachlieglaa.PFnExactHalvesOf
open Go.RowKit Go.Proofs.YtnhohachlieglaaW.PrintWords Go.Proofs.YtnhohachlieglaaW.PrintLast Go.Proofs.YtnhohachlieglaaW.PrintMore
attribute [local go_sem] max2_int min2_int max_two min_two max_three min_three max_four min_four   -- for this text's walks alone
set_option linter.unusedVariables false
set_option linter.unusedSimpArgs false

/-! ### laws_FnExactHalvesOf: function 11 -/
mutual
def laws_FnExactHalvesOf.j0 : Nat → Int → Int → Int → List Int → List Int → Bool → List Int → List Int → Bool → Option (Bool)
  | 0, _, _, _, _, _, _, _, _, _ => none
  | k + 1, x0, x1, x2, x7, x8, x9, x10, x11, x48 => if x48 = true then (some false) else ((laws_markIntS.f k x10 1).bind fun bt226 => ((laws_markIntS.f k x11 bt226.1).bind fun bt228 => ((laws_heldIntS.f k bt226.2 1).bind fun t230 => (if t230 < 0 then (some false) else ((laws_heldIntS.f k bt228.2 t230).bind fun t231 => (if t231 < 0 then (some false) else (if t231 = bt228.1 then ((impl_HalvesOf.f k x0 x1 x2).bind fun bt232 => ((laws_eqIntS.f k bt232.1 x7).bind fun t239 => (if t239 = true then ((laws_eqIntS.f k bt232.2.1 x8).bind fun t240 => (if t240 = true then (laws_FnExactHalvesOf.j1 k bt226.2 bt228.2 bt228.1 (bt232.2.2 != x9)) else (laws_FnExactHalvesOf.j1 k bt226.2 bt228.2 bt228.1 true))) else (laws_FnExactHalvesOf.j1 k bt226.2 bt228.2 bt228.1 true)))) else (some false))))))))
def laws_FnExactHalvesOf.j1 : Nat → List Int → List Int → Int → Bool → Option (Bool)
  | 0, _, _, _, _ => none
  | k + 1, x10, x11, x13, x90 => if x90 = true then (some false) else ((laws_heldIntS.f k x10 1).bind fun t241 => (if t241 < 0 then (some false) else ((laws_heldIntS.f k x11 t241).bind fun t242 => (if t242 < 0 then (some false) else (if t242 = x13 then (some true) else (some false))))))
end
def laws_FnExactHalvesOf.f (k : Nat) (a0 : Int) (a1 : Int) (a2 : Int) : Option (Bool) := (spec_HalvesOf.f k a0 a1 a2).bind fun bt210 => ((impl_HalvesOf.f k a0 a1 a2).bind fun bt217 => ((laws_eqIntS.f k bt217.1 bt210.1).bind fun t224 => (if t224 = true then ((laws_eqIntS.f k bt217.2.1 bt210.2.1).bind fun t225 => (if t225 = true then (laws_FnExactHalvesOf.j0 k a0 a1 a2 bt210.1 bt210.2.1 bt210.2.2 bt217.1 bt217.2.1 (bt217.2.2 != bt210.2.2)) else (laws_FnExactHalvesOf.j0 k a0 a1 a2 bt210.1 bt210.2.1 bt210.2.2 bt217.1 bt217.2.1 true))) else (laws_FnExactHalvesOf.j0 k a0 a1 a2 bt210.1 bt210.2.1 bt210.2.2 bt217.1 bt217.2.1 true))))
theorem laws_FnExactHalvesOf.mono_l : ∀ k, (∀ y0 y1 y2 y3 y4 y5 y6 y7 y8, LeO (laws_FnExactHalvesOf.j0 k y0 y1 y2 y3 y4 y5 y6 y7 y8) (laws_FnExactHalvesOf.j0 (k + 1) y0 y1 y2 y3 y4 y5 y6 y7 y8)) ∧ (∀ y0 y1 y2 y3, LeO (laws_FnExactHalvesOf.j1 k y0 y1 y2 y3) (laws_FnExactHalvesOf.j1 (k + 1) y0 y1 y2 y3))
  | 0 => ⟨fun _ _ _ _ _ _ _ _ _ r h => by simp [laws_FnExactHalvesOf.j0] at h, fun _ _ _ _ r h => by simp [laws_FnExactHalvesOf.j1] at h⟩
  | k + 1 => by
    obtain ⟨ih0, ih1⟩ := laws_FnExactHalvesOf.mono_l k
    refine ⟨?_, ?_⟩
    · intro y0 y1 y2 y3 y4 y5 y6 y7 y8
      unfold laws_FnExactHalvesOf.j0
      repeat' first
      | (with_reducible exact ih0 _ _ _ _ _ _ _ _ _)
      | (with_reducible exact ih1 _ _ _ _)
      | (with_reducible exact impl_HalvesOf.mono _ _ _ _)
      | (with_reducible exact laws_eqIntS.mono _ _ _)
      | (with_reducible exact laws_heldIntS.mono _ _ _)
      | (with_reducible exact laws_markIntS.mono _ _ _)
      | (with_reducible exact spec_HalvesOf.mono _ _ _ _)
      | (with_reducible exact LeO.refl _)
      | (with_reducible exact LeO.none _)
      | (with_reducible refine LeO.ite ?_ ?_)
      | (with_reducible refine LeO.bind ?_ (fun _ => ?_))
      | exact ih0 _ _ _ _ _ _ _ _ _
      | exact ih1 _ _ _ _
      | exact impl_HalvesOf.mono _ _ _ _
      | exact laws_eqIntS.mono _ _ _
      | exact laws_heldIntS.mono _ _ _
      | exact laws_markIntS.mono _ _ _
      | exact spec_HalvesOf.mono _ _ _ _
      | exact LeO.none _
      | refine LeO.ite ?_ ?_
      | refine LeO.bind ?_ (fun _ => ?_)
    · intro y0 y1 y2 y3
      unfold laws_FnExactHalvesOf.j1
      repeat' first
      | (with_reducible exact ih0 _ _ _ _ _ _ _ _ _)
      | (with_reducible exact ih1 _ _ _ _)
      | (with_reducible exact impl_HalvesOf.mono _ _ _ _)
      | (with_reducible exact laws_eqIntS.mono _ _ _)
      | (with_reducible exact laws_heldIntS.mono _ _ _)
      | (with_reducible exact laws_markIntS.mono _ _ _)
      | (with_reducible exact spec_HalvesOf.mono _ _ _ _)
      | (with_reducible exact LeO.refl _)
      | (with_reducible exact LeO.none _)
      | (with_reducible refine LeO.ite ?_ ?_)
      | (with_reducible refine LeO.bind ?_ (fun _ => ?_))
      | exact ih0 _ _ _ _ _ _ _ _ _
      | exact ih1 _ _ _ _
      | exact impl_HalvesOf.mono _ _ _ _
      | exact laws_eqIntS.mono _ _ _
      | exact laws_heldIntS.mono _ _ _
      | exact laws_markIntS.mono _ _ _
      | exact spec_HalvesOf.mono _ _ _ _
      | exact LeO.none _
      | refine LeO.ite ?_ ?_
      | refine LeO.bind ?_ (fun _ => ?_)
theorem laws_FnExactHalvesOf.mono : ∀ a0 a1 a2 k, LeO (laws_FnExactHalvesOf.f k a0 a1 a2) (laws_FnExactHalvesOf.f (k + 1) a0 a1 a2) := by
  intro a0 a1 a2 k
  obtain ⟨ih0, ih1⟩ := laws_FnExactHalvesOf.mono_l k
  unfold laws_FnExactHalvesOf.f
  repeat' first
      | (with_reducible exact ih0 _ _ _ _ _ _ _ _ _)
      | (with_reducible exact ih1 _ _ _ _)
      | (with_reducible exact impl_HalvesOf.mono _ _ _ _)
      | (with_reducible exact laws_eqIntS.mono _ _ _)
      | (with_reducible exact laws_heldIntS.mono _ _ _)
      | (with_reducible exact laws_markIntS.mono _ _ _)
      | (with_reducible exact spec_HalvesOf.mono _ _ _ _)
      | (with_reducible exact LeO.refl _)
      | (with_reducible exact LeO.none _)
      | (with_reducible refine LeO.ite ?_ ?_)
      | (with_reducible refine LeO.bind ?_ (fun _ => ?_))
      | exact ih0 _ _ _ _ _ _ _ _ _
      | exact ih1 _ _ _ _
      | exact impl_HalvesOf.mono _ _ _ _
      | exact laws_eqIntS.mono _ _ _
      | exact laws_heldIntS.mono _ _ _
      | exact laws_markIntS.mono _ _ _
      | exact spec_HalvesOf.mono _ _ _ _
      | exact LeO.none _
      | refine LeO.ite ?_ ?_
      | refine LeO.bind ?_ (fun _ => ?_)
theorem laws_FnExactHalvesOf.j0_no {r : Bool} (hr : r = true) (k : Nat) (x0 : Int) (x1 : Int) (x2 : Int) (x7 : List Int) (x8 : List Int) (x9 : Bool) (x10 : List Int) (x11 : List Int) (h : laws_FnExactHalvesOf.j0 k x0 x1 x2 x7 x8 x9 x10 x11 true = some r) : False := by
  subst hr
  cases k with
  | zero => simp [laws_FnExactHalvesOf.j0] at h
  | succ k => simp [laws_FnExactHalvesOf.j0] at h
theorem laws_FnExactHalvesOf.j1_no {r : Bool} (hr : r = true) (k : Nat) (x10 : List Int) (x11 : List Int) (x13 : Int) (h : laws_FnExactHalvesOf.j1 k x10 x11 x13 true = some r) : False := by
  subst hr
  cases k with
  | zero => simp [laws_FnExactHalvesOf.j1] at h
  | succ k => simp [laws_FnExactHalvesOf.j1] at h
set_option maxHeartbeats 8000000 in
set_option maxRecDepth 100000 in
theorem laws_FnExactHalvesOf.calls (k : Nat) (a0 : Int) (a1 : Int) (a2 : Int) (r : Bool) (w : World) (h : laws_FnExactHalvesOf.f k a0 a1 a2 = some r) (hr_ : r = true) :
    Calls Try.prog 11 #[.int .i64 a0, .int .i64 a1, .int .i64 a2] w fun e w' => e = .returned (.bool r) ∧ Below w.heap.size w w' := by
  have HB := Aside0.mk (Below.refl w.heap.size w)
  have H : ((spec_HalvesOf.f k a0 a1 a2).bind fun bt210 => ((impl_HalvesOf.f k a0 a1 a2).bind fun bt217 => ((laws_eqIntS.f k bt217.1 bt210.1).bind fun t224 => (if t224 = true then ((laws_eqIntS.f k bt217.2.1 bt210.2.1).bind fun t225 => (if t225 = true then (laws_FnExactHalvesOf.j0 k a0 a1 a2 bt210.1 bt210.2.1 bt210.2.2 bt217.1 bt217.2.1 (bt217.2.2 != bt210.2.2)) else (laws_FnExactHalvesOf.j0 k a0 a1 a2 bt210.1 bt210.2.1 bt210.2.2 bt217.1 bt217.2.1 true))) else (laws_FnExactHalvesOf.j0 k a0 a1 a2 bt210.1 bt210.2.1 bt210.2.2 bt217.1 bt217.2.1 true))))) = some r := h
  clear h
  have HR_ := Aside0.mk hr_
  clear hr_
  replace H := Option.bind_eq_some_iff.mp H
  obtain ⟨⟨t210, t211, t212⟩, A40, H⟩ := H
  replace H : ((impl_HalvesOf.f k a0 a1 a2).bind fun bt217 => ((laws_eqIntS.f k bt217.1 t210).bind fun t224 => (if t224 = true then ((laws_eqIntS.f k bt217.2.1 t211).bind fun t225 => (if t225 = true then (laws_FnExactHalvesOf.j0 k a0 a1 a2 t210 t211 t212 bt217.1 bt217.2.1 (bt217.2.2 != t212)) else (laws_FnExactHalvesOf.j0 k a0 a1 a2 t210 t211 t212 bt217.1 bt217.2.1 true))) else (laws_FnExactHalvesOf.j0 k a0 a1 a2 t210 t211 t212 bt217.1 bt217.2.1 true)))) = some r := H
  have A4 := Aside0.mk A40
  clear A40
  replace H := Option.bind_eq_some_iff.mp H
  obtain ⟨⟨t217, t218, t219⟩, A50, H⟩ := H
  replace H : ((laws_eqIntS.f k t217 t210).bind fun t224 => (if t224 = true then ((laws_eqIntS.f k t218 t211).bind fun t225 => (if t225 = true then (laws_FnExactHalvesOf.j0 k a0 a1 a2 t210 t211 t212 t217 t218 (t219 != t212)) else (laws_FnExactHalvesOf.j0 k a0 a1 a2 t210 t211 t212 t217 t218 true))) else (laws_FnExactHalvesOf.j0 k a0 a1 a2 t210 t211 t212 t217 t218 true))) = some r := H
  have A5 := Aside0.mk A50
  clear A50
  have HC6 := Aside0.mk H
  clear H
  go_enter Try.func11, Try.ntmps11
  go_upto_region 3 with (first | ((with_reducible refine gate_callee (f := 35) rfl ?_); refine goesL_ (some 22) rfl rfl Try.func35 (by kernel_rfl) rfl #[.int .i64 a0, .int .i64 a1, .int .i64 a2] rfl (by (try simp only [List.map_toArray, List.map_cons, List.map_nil]); first | done | rfl | (simp only [List.length_drop, List.length_take]; rfl)) ?_; (with_reducible refine (spec_HalvesOf.calls k a0 a1 a2 t210 t211 t212 _ A4.out).mono ?_); rintro e w7 ⟨v213, v215, rfl, ho0, ho1, hb⟩; refine ⟨_, rfl, ?_⟩; have n0_ := Aside0.mk (Kd.R_lower ho0 (below_size (by repeat (first | (with_reducible first | exact HB.out | apply below_alloc | apply pw_below_drewN | apply below_drew1) | exact HB.out)))); have n1_ := Aside0.mk (Kd.R_lower ho1 (below_size (by repeat (first | (with_reducible first | exact HB.out | apply below_alloc | apply pw_below_drewN | apply below_drew1) | exact HB.out)))); have n2_ := Aside0.mk (below_step (by repeat (first | (with_reducible first | exact HB.out | apply below_alloc | apply pw_below_drewN | apply below_drew1) | exact HB.out)) hb); clear HB; have HO214 := n0_; have HO216 := n1_; have HB := n2_; clear n0_ n1_ n2_; (try clear hb); (try clear hb2); (try clear hk); (try clear hi); (try clear ho0); (try clear ho1)) | ((with_reducible refine gate_callee (f := 36) rfl ?_); refine goesL_ (some 30) rfl rfl Try.func36 (by kernel_rfl) rfl #[.int .i64 a0, .int .i64 a1, .int .i64 a2] rfl (by (try simp only [List.map_toArray, List.map_cons, List.map_nil]); first | done | rfl | (simp only [List.length_drop, List.length_take]; rfl)) ?_; (with_reducible refine (impl_HalvesOf.calls k a0 a1 a2 t217 t218 t219 _ A5.out).mono ?_); rintro e w8 ⟨v220, v222, rfl, ho0, ho1, hb⟩; refine ⟨_, rfl, ?_⟩; have n0_ := Aside0.mk (Kd.R_mono (Kd.R_told (Kd.R_told (Kd.R_old (by (with_reducible repeat (first | apply Kd.R_alloc | apply Kd.R_drewN | apply Kd.R_drew)); exact HO214.out) hb) (Kd.R_base ho0)) (Kd.R_base ho1)) (fun _ h_ => h_.1)); have n1_ := Aside0.mk (Kd.R_mono (Kd.R_told (Kd.R_told (Kd.R_old (by (with_reducible repeat (first | apply Kd.R_alloc | apply Kd.R_drewN | apply Kd.R_drew)); exact HO216.out) hb) (Kd.R_base ho0)) (Kd.R_base ho1)) (fun _ h_ => h_.1)); have n2_ := Aside0.mk (Kd.R_lower (Kd.R_new' (Kd.R_new' ho0 (Kd.R_lt (by (with_reducible repeat (first | apply Kd.R_alloc | apply Kd.R_drewN | apply Kd.R_drew)); exact HO214.out))) (Kd.R_lt (by (with_reducible repeat (first | apply Kd.R_alloc | apply Kd.R_drewN | apply Kd.R_drew)); exact HO216.out))) (below_size (by repeat (first | (with_reducible first | exact HB.out | apply below_alloc | apply pw_below_drewN | apply below_drew1) | exact HB.out)))); have n3_ := Aside0.mk (Kd.R_lower (Kd.R_new' (Kd.R_new' ho1 (Kd.R_lt (by (with_reducible repeat (first | apply Kd.R_alloc | apply Kd.R_drewN | apply Kd.R_drew)); exact HO214.out))) (Kd.R_lt (by (with_reducible repeat (first | apply Kd.R_alloc | apply Kd.R_drewN | apply Kd.R_drew)); exact HO216.out))) (below_size (by repeat (first | (with_reducible first | exact HB.out | apply below_alloc | apply pw_below_drewN | apply below_drew1) | exact HB.out)))); have n4_ := Aside0.mk (below_step (by repeat (first | (with_reducible first | exact HB.out | apply below_alloc | apply pw_below_drewN | apply below_drew1) | exact HB.out)) hb); clear HO214; clear HO216; clear HB; have HO214 := n0_; have HO216 := n1_; have HO221 := n2_; have HO223 := n3_; have HB := n4_; clear n0_ n1_ n2_ n3_ n4_; (try clear hb); (try clear hb2); (try clear hk); (try clear hi); (try clear ho0); (try clear ho1)))
  (try simp only [Act.put, List.setIfInBounds_toArray, List.set_cons_zero, List.set_cons_succ])
  go_cut [48] (fun v48 wc => ∃ (kq : Nat) (x48_5 : Bool), v48 = .bool x48_5 ∧ Aside0 (laws_FnExactHalvesOf.j0 kq a0 a1 a2 t210 t211 t212 t217 t218 x48_5 = some r) ∧ Aside0 (kq ≤ k) ∧ Aside0 (Kd.R (Kd.int .i64) 3 wc w.heap.size (fun k_ => some k_ ≠ (v215 : Value).ownBlock ∧ some k_ ≠ (v220 : Value).ownBlock ∧ some k_ ≠ (v222 : Value).ownBlock) v213 t210) ∧ Aside0 (Kd.R (Kd.int .i64) 3 wc w.heap.size (fun k_ => some k_ ≠ (v213 : Value).ownBlock ∧ some k_ ≠ (v220 : Value).ownBlock ∧ some k_ ≠ (v222 : Value).ownBlock) v215 t211) ∧ Aside0 (Kd.R (Kd.int .i64) 3 wc w.heap.size (fun k_ => some k_ ≠ (v213 : Value).ownBlock ∧ some k_ ≠ (v215 : Value).ownBlock ∧ some k_ ≠ (v222 : Value).ownBlock) v220 t217) ∧ Aside0 (Kd.R (Kd.int .i64) 3 wc w.heap.size (fun k_ => some k_ ≠ (v213 : Value).ownBlock ∧ some k_ ≠ (v215 : Value).ownBlock ∧ some k_ ≠ (v220 : Value).ownBlock) v222 t218) ∧ Aside0 (Below w.heap.size w wc))
  case first =>
    have H := HC6.out
    clear HC6
    replace H := Option.bind_eq_some_iff.mp H
    obtain ⟨t224, A90, H⟩ := H
    replace H : (if t224 = true then ((laws_eqIntS.f k t218 t211).bind fun t225 => (if t225 = true then (laws_FnExactHalvesOf.j0 k a0 a1 a2 t210 t211 t212 t217 t218 (t219 != t212)) else (laws_FnExactHalvesOf.j0 k a0 a1 a2 t210 t211 t212 t217 t218 true))) else (laws_FnExactHalvesOf.j0 k a0 a1 a2 t210 t211 t212 t217 t218 true)) = some r := H
    have A9 := Aside0.mk A90
    clear A90
    by_cases c10 : t224 = true
    · subst c10
      have H1 : ((laws_eqIntS.f k t218 t211).bind fun t225 => (if t225 = true then (laws_FnExactHalvesOf.j0 k a0 a1 a2 t210 t211 t212 t217 t218 (t219 != t212)) else (laws_FnExactHalvesOf.j0 k a0 a1 a2 t210 t211 t212 t217 t218 true))) = some r := by rw [if_pos rfl] at H; exact H
      clear H
      have H := H1
      clear H1
      replace H := Option.bind_eq_some_iff.mp H
      obtain ⟨t225, A110, H⟩ := H
      replace H : (if t225 = true then (laws_FnExactHalvesOf.j0 k a0 a1 a2 t210 t211 t212 t217 t218 (t219 != t212)) else (laws_FnExactHalvesOf.j0 k a0 a1 a2 t210 t211 t212 t217 t218 true)) = some r := H
      have A11 := Aside0.mk A110
      clear A110
      by_cases c12 : t225 = true
      · subst c12
        have H1 : (laws_FnExactHalvesOf.j0 k a0 a1 a2 t210 t211 t212 t217 t218 (t219 != t212)) = some r := by rw [if_pos rfl] at H; exact H
        clear H
        have H := H1
        clear H1
        have H' := Aside0.mk H
        clear H
        obtain ⟨Ao13, co13, eo13⟩ := Kd.R_slice HO221.out
        subst eo13
        obtain ⟨Ao14, co14, eo14⟩ := Kd.R_slice HO214.out
        subst eo14
        go_wp2_with (first | ((with_reducible refine gate_callee (f := 17) rfl ?_); refine goesL_ (some 36) rfl rfl Try.func17 (by kernel_rfl) rfl #[.slice Ao13 t217.length co13, .slice Ao14 t210.length co14] rfl (by (try simp only [List.map_toArray, List.map_cons, List.map_nil]); first | done | rfl | (simp only [List.length_drop, List.length_take]; rfl)) ?_; (with_reducible refine (laws_eqIntS.calls k _ _ t217 _ _ t210 true _ ?side1 ?side2 ?side3 ?side4 A9.out).mono ?_); (case side1 => repeat (first | exact (Kd.R_reads' HO221.out).2.2 | (with_reducible refine Kd.C_alloc ?_ _) | (with_reducible refine Kd.C_drewN ?_ _) | (with_reducible refine Kd.C_drew ?_))); (case side2 => exact (Kd.R_reads' HO221.out).2.1); (case side3 => repeat (first | exact (Kd.R_reads' HO214.out).2.2 | (with_reducible refine Kd.C_alloc ?_ _) | (with_reducible refine Kd.C_drewN ?_ _) | (with_reducible refine Kd.C_drew ?_))); (case side4 => exact (Kd.R_reads' HO214.out).2.1); rintro e w' ⟨rfl, ⟨nd, rfl⟩⟩; refine ⟨_, rfl, ?_⟩; obtain ⟨Ao15, co15, eo15⟩ := Kd.R_slice HO223.out; subst eo15; obtain ⟨Ao16, co16, eo16⟩ := Kd.R_slice HO216.out; subst eo16) | (go_at_call 17; (with_reducible refine (laws_eqIntS.calls k _ _ t218 _ _ t211 true _ ?side1 ?side2 ?side3 ?side4 A11.out).mono ?_); (case side1 => repeat (first | exact (Kd.R_reads' HO223.out).2.2 | (with_reducible refine Kd.C_alloc ?_ _) | (with_reducible refine Kd.C_drewN ?_ _) | (with_reducible refine Kd.C_drew ?_))); (case side2 => exact (Kd.R_reads' HO223.out).2.1); (case side3 => repeat (first | exact (Kd.R_reads' HO216.out).2.2 | (with_reducible refine Kd.C_alloc ?_ _) | (with_reducible refine Kd.C_drewN ?_ _) | (with_reducible refine Kd.C_drew ?_))); (case side4 => exact (Kd.R_reads' HO216.out).2.1); rintro e w' ⟨rfl, ⟨nd, rfl⟩⟩))
        go_meet
        case rel => exact ⟨_, ((t219 != t212)), (by first | rfl | (simp; done) | (simp [*]; done)), H', ⟨by first | omega | exact Nat.le_refl _⟩, ⟨by (with_reducible repeat (first | apply Kd.R_alloc | apply Kd.R_drewN | apply Kd.R_drew)); exact Kd.R_mono HO214.out (fun _ hk => ⟨hk.1.1, ⟨hk.1.2, hk.2⟩⟩)⟩, ⟨by (with_reducible repeat (first | apply Kd.R_alloc | apply Kd.R_drewN | apply Kd.R_drew)); exact Kd.R_mono HO216.out (fun _ hk => ⟨hk.1.1, ⟨hk.1.2, hk.2⟩⟩)⟩, ⟨by (with_reducible repeat (first | apply Kd.R_alloc | apply Kd.R_drewN | apply Kd.R_drew)); exact Kd.R_mono HO221.out (fun _ hk => ⟨hk.1.2, ⟨hk.2, hk.1.1⟩⟩)⟩, ⟨by (with_reducible repeat (first | apply Kd.R_alloc | apply Kd.R_drewN | apply Kd.R_drew)); exact Kd.R_mono HO223.out (fun _ hk => ⟨hk.1.2, ⟨hk.2, hk.1.1⟩⟩)⟩, ⟨by repeat (first | (with_reducible first | exact HB.out | apply below_alloc | apply pw_below_drewN | apply below_drew1) | exact HB.out)⟩⟩
      · replace c12 := Bool.eq_false_iff.mpr c12
        subst c12
        have H1 : (laws_FnExactHalvesOf.j0 k a0 a1 a2 t210 t211 t212 t217 t218 true) = some r := by rw [if_neg (show ¬ (false = true) by decide)] at H; exact H
        clear H
        have H := H1
        clear H1
        exact (laws_FnExactHalvesOf.j0_no HR_.out _ _ _ _ _ _ _ _ _ H).elim
    · replace c10 := Bool.eq_false_iff.mpr c10
      subst c10
      have H1 : (laws_FnExactHalvesOf.j0 k a0 a1 a2 t210 t211 t212 t217 t218 true) = some r := by rw [if_neg (show ¬ (false = true) by decide)] at H; exact H
      clear H
      have H := H1
      clear H1
      exact (laws_FnExactHalvesOf.j0_no HR_.out _ _ _ _ _ _ _ _ _ H).elim
  case rest =>
    clear HC6
    try clear c1
    try clear p2
    try clear c3
    try clear c10
    try clear c11
    try clear c12
    obtain ⟨kq, x48_5, rfl, HA, HJ5, HO_7, HO_8, HO_10, HO_11, HB⟩ := hcut
    cases kq with
    | zero => exact absurd HA.out (by simp [laws_FnExactHalvesOf.j0])
    | succ kj5 =>
      have H := HA.out
      clear HA
      simp only [laws_FnExactHalvesOf.j0] at H
      by_cases c17 : x48_5 = true
      · subst c17
        have H1 : (some false) = some r := by rw [if_pos rfl] at H; exact H
        clear H
        have H := H1
        clear H1
        exact absurd (Option.some.inj H) (by rw [HR_.out]; decide)
      · replace c17 := Bool.eq_false_iff.mpr c17
        subst c17
        have H1 : ((laws_markIntS.f kj5 t217 1).bind fun bt226 => ((laws_markIntS.f kj5 t218 bt226.1).bind fun bt228 => ((laws_heldIntS.f kj5 bt226.2 1).bind fun t230 => (if t230 < 0 then (some false) else ((laws_heldIntS.f kj5 bt228.2 t230).bind fun t231 => (if t231 < 0 then (some false) else (if t231 = bt228.1 then ((impl_HalvesOf.f kj5 a0 a1 a2).bind fun bt232 => ((laws_eqIntS.f kj5 bt232.1 t210).bind fun t239 => (if t239 = true then ((laws_eqIntS.f kj5 bt232.2.1 t211).bind fun t240 => (if t240 = true then (laws_FnExactHalvesOf.j1 kj5 bt226.2 bt228.2 bt228.1 (bt232.2.2 != t212)) else (laws_FnExactHalvesOf.j1 kj5 bt226.2 bt228.2 bt228.1 true))) else (laws_FnExactHalvesOf.j1 kj5 bt226.2 bt228.2 bt228.1 true)))) else (some false)))))))) = some r := by rw [if_neg (show ¬ (false = true) by decide)] at H; exact H
        clear H
        have H := H1
        clear H1
        replace H := Option.bind_eq_some_iff.mp H
        obtain ⟨⟨t226, t227⟩, A180, H⟩ := H
        replace H : ((laws_markIntS.f kj5 t218 t226).bind fun bt228 => ((laws_heldIntS.f kj5 t227 1).bind fun t230 => (if t230 < 0 then (some false) else ((laws_heldIntS.f kj5 bt228.2 t230).bind fun t231 => (if t231 < 0 then (some false) else (if t231 = bt228.1 then ((impl_HalvesOf.f kj5 a0 a1 a2).bind fun bt232 => ((laws_eqIntS.f kj5 bt232.1 t210).bind fun t239 => (if t239 = true then ((laws_eqIntS.f kj5 bt232.2.1 t211).bind fun t240 => (if t240 = true then (laws_FnExactHalvesOf.j1 kj5 t227 bt228.2 bt228.1 (bt232.2.2 != t212)) else (laws_FnExactHalvesOf.j1 kj5 t227 bt228.2 bt228.1 true))) else (laws_FnExactHalvesOf.j1 kj5 t227 bt228.2 bt228.1 true)))) else (some false))))))) = some r := H
        have A18 := Aside0.mk A180
        clear A180
        replace H := Option.bind_eq_some_iff.mp H
        obtain ⟨⟨t228, t229⟩, A190, H⟩ := H
        replace H : ((laws_heldIntS.f kj5 t227 1).bind fun t230 => (if t230 < 0 then (some false) else ((laws_heldIntS.f kj5 t229 t230).bind fun t231 => (if t231 < 0 then (some false) else (if t231 = t228 then ((impl_HalvesOf.f kj5 a0 a1 a2).bind fun bt232 => ((laws_eqIntS.f kj5 bt232.1 t210).bind fun t239 => (if t239 = true then ((laws_eqIntS.f kj5 bt232.2.1 t211).bind fun t240 => (if t240 = true then (laws_FnExactHalvesOf.j1 kj5 t227 t229 t228 (bt232.2.2 != t212)) else (laws_FnExactHalvesOf.j1 kj5 t227 t229 t228 true))) else (laws_FnExactHalvesOf.j1 kj5 t227 t229 t228 true)))) else (some false)))))) = some r := H
        have A19 := Aside0.mk A190
        clear A190
        replace H := Option.bind_eq_some_iff.mp H
        obtain ⟨t230, A200, H⟩ := H
        replace H : (if t230 < 0 then (some false) else ((laws_heldIntS.f kj5 t229 t230).bind fun t231 => (if t231 < 0 then (some false) else (if t231 = t228 then ((impl_HalvesOf.f kj5 a0 a1 a2).bind fun bt232 => ((laws_eqIntS.f kj5 bt232.1 t210).bind fun t239 => (if t239 = true then ((laws_eqIntS.f kj5 bt232.2.1 t211).bind fun t240 => (if t240 = true then (laws_FnExactHalvesOf.j1 kj5 t227 t229 t228 (bt232.2.2 != t212)) else (laws_FnExactHalvesOf.j1 kj5 t227 t229 t228 true))) else (laws_FnExactHalvesOf.j1 kj5 t227 t229 t228 true)))) else (some false))))) = some r := H
        have A20 := Aside0.mk A200
        clear A200
        by_cases c21 : t230 < 0
        · rw [if_pos c21] at H
          have c21b0 : decide (t230 < 0) = true := decide_eq_true c21
          clear c21
          exact absurd (Option.some.inj H) (by rw [HR_.out]; decide)
        · rw [if_neg c21] at H
          have c21b0 : decide (t230 < 0) = false := decide_eq_false c21
          clear c21
          replace H := Option.bind_eq_some_iff.mp H
          obtain ⟨t231, A220, H⟩ := H
          replace H : (if t231 < 0 then (some false) else (if t231 = t228 then ((impl_HalvesOf.f kj5 a0 a1 a2).bind fun bt232 => ((laws_eqIntS.f kj5 bt232.1 t210).bind fun t239 => (if t239 = true then ((laws_eqIntS.f kj5 bt232.2.1 t211).bind fun t240 => (if t240 = true then (laws_FnExactHalvesOf.j1 kj5 t227 t229 t228 (bt232.2.2 != t212)) else (laws_FnExactHalvesOf.j1 kj5 t227 t229 t228 true))) else (laws_FnExactHalvesOf.j1 kj5 t227 t229 t228 true)))) else (some false))) = some r := H
          have A22 := Aside0.mk A220
          clear A220
          by_cases c23 : t231 < 0
          · rw [if_pos c23] at H
            have c23b0 : decide (t231 < 0) = true := decide_eq_true c23
            clear c23
            exact absurd (Option.some.inj H) (by rw [HR_.out]; decide)
          · rw [if_neg c23] at H
            have c23b0 : decide (t231 < 0) = false := decide_eq_false c23
            clear c23
            by_cases c24 : t231 = t228
            · rw [if_pos c24] at H
              have c24b0 : (t231 == t228) = true := beq_iff_eq.mpr c24
              have c24b1 : (t231 != t228) = false := bne_eq_false_iff_eq.mpr c24
              clear c24
              replace H := Option.bind_eq_some_iff.mp H
              obtain ⟨⟨t232, t233, t234⟩, A250, H⟩ := H
              replace H : ((laws_eqIntS.f kj5 t232 t210).bind fun t239 => (if t239 = true then ((laws_eqIntS.f kj5 t233 t211).bind fun t240 => (if t240 = true then (laws_FnExactHalvesOf.j1 kj5 t227 t229 t228 (t234 != t212)) else (laws_FnExactHalvesOf.j1 kj5 t227 t229 t228 true))) else (laws_FnExactHalvesOf.j1 kj5 t227 t229 t228 true))) = some r := H
              have A25 := Aside0.mk A250
              clear A250
              have HC26 := Aside0.mk H
              clear H
              obtain ⟨Ao27, co27, eo27⟩ := Kd.R_slice HO_10.out
              subst eo27
              go_upto_region 18 with (first | ((with_reducible refine gate_callee (f := 18) rfl ?_); refine goesL_ (some 51) rfl rfl Try.func18 (by kernel_rfl) rfl #[.slice Ao27 t217.length co27, .int .i64 1] rfl (by (try simp only [List.map_toArray, List.map_cons, List.map_nil]); first | done | rfl | (simp only [List.length_drop, List.length_take]; rfl)) ?_; (with_reducible refine (laws_markIntS.calls kj5 (fun k_ => some k_ = (.slice Ao27 t217.length co27 : Value).ownBlock) (.slice Ao27 t217.length co27) t217 1 t226 t227 w _ ?side1 ?side2 A18.out).mono ?_); (case side1 => repeat (first | (with_reducible first | exact HB.out | apply below_alloc | apply pw_below_drewN | apply below_drew1) | exact HB.out)); (case side2 => exact Kd.R_tight rfl HO_10.out); rintro e w28 ⟨rfl, hy0, hb, hkp⟩; refine ⟨_, rfl, ?_⟩; have n0_ := Aside0.mk (Kd.R_mono (ok' := fun k_ => some k_ ≠ (v215 : Value).ownBlock ∧ some k_ ≠ (.slice Ao27 t217.length co27 : Value).ownBlock ∧ some k_ ≠ (v222 : Value).ownBlock) (Kd.R_keptB (HO_7.out) hkp (fun k_ hk_ hs_ => (hk_.2.1) hs_)) (fun k_ hk_ => ⟨hk_.1.1, hk_.1.2.1, hk_.1.2.2⟩)); have n1_ := Aside0.mk (Kd.R_mono (ok' := fun k_ => some k_ ≠ (v213 : Value).ownBlock ∧ some k_ ≠ (.slice Ao27 t217.length co27 : Value).ownBlock ∧ some k_ ≠ (v222 : Value).ownBlock) (Kd.R_keptB (HO_8.out) hkp (fun k_ hk_ hs_ => (hk_.2.1) hs_)) (fun k_ hk_ => ⟨hk_.1.1, hk_.1.2.1, hk_.1.2.2⟩)); have n2_ := Aside0.mk (Kd.R_reok rfl hy0 (fun k_ e_ => HO_10.out.1 k_ e_)); have n3_ := Aside0.mk (Kd.R_mono (ok' := fun k_ => some k_ ≠ (v213 : Value).ownBlock ∧ some k_ ≠ (v215 : Value).ownBlock ∧ some k_ ≠ (.slice Ao27 t217.length co27 : Value).ownBlock) (Kd.R_keptB (HO_11.out) hkp (fun k_ hk_ hs_ => (hk_.2.2) hs_)) (fun k_ hk_ => ⟨hk_.1.1, hk_.1.2.1, hk_.1.2.2⟩)); have n4_ := Aside0.mk (hb); clear HO_7; clear HO_8; clear HO_10; clear HO_11; clear HB; have HO_7 := n0_; have HO_8 := n1_; have HO_10 := n2_; have HO_11 := n3_; have HB := n4_; clear n0_ n1_ n2_ n3_ n4_; (try clear hb); (try clear hkp); (try clear hy0); obtain ⟨Ao29, co29, eo29⟩ := Kd.R_slice HO_11.out; subst eo29) | ((with_reducible refine gate_callee (f := 18) rfl ?_); refine goesL_ (some 54) rfl rfl Try.func18 (by kernel_rfl) rfl #[.slice Ao29 t218.length co29, .int .i64 t226] rfl (by (try simp only [List.map_toArray, List.map_cons, List.map_nil]); first | done | rfl | (simp only [List.length_drop, List.length_take]; rfl)) ?_; (with_reducible refine (laws_markIntS.calls kj5 (fun k_ => some k_ = (.slice Ao29 t218.length co29 : Value).ownBlock) (.slice Ao29 t218.length co29) t218 t226 t228 t229 w _ ?side1 ?side2 A19.out).mono ?_); (case side1 => repeat (first | (with_reducible first | exact HB.out | apply below_alloc | apply pw_below_drewN | apply below_drew1) | exact HB.out)); (case side2 => exact Kd.R_tight rfl HO_11.out); rintro e w30 ⟨rfl, hy0, hb, hkp⟩; refine ⟨_, rfl, ?_⟩; have n0_ := Aside0.mk (Kd.R_mono (ok' := fun k_ => some k_ ≠ (v215 : Value).ownBlock ∧ some k_ ≠ (.slice Ao27 t217.length co27 : Value).ownBlock ∧ some k_ ≠ (.slice Ao29 t218.length co29 : Value).ownBlock) (Kd.R_keptB (HO_7.out) hkp (fun k_ hk_ hs_ => (hk_.2.2) hs_)) (fun k_ hk_ => ⟨hk_.1.1, hk_.1.2.1, hk_.1.2.2⟩)); have n1_ := Aside0.mk (Kd.R_mono (ok' := fun k_ => some k_ ≠ (v213 : Value).ownBlock ∧ some k_ ≠ (.slice Ao27 t217.length co27 : Value).ownBlock ∧ some k_ ≠ (.slice Ao29 t218.length co29 : Value).ownBlock) (Kd.R_keptB (HO_8.out) hkp (fun k_ hk_ hs_ => (hk_.2.2) hs_)) (fun k_ hk_ => ⟨hk_.1.1, hk_.1.2.1, hk_.1.2.2⟩)); have n2_ := Aside0.mk (Kd.R_mono (ok' := fun k_ => some k_ ≠ (v213 : Value).ownBlock ∧ some k_ ≠ (v215 : Value).ownBlock ∧ some k_ ≠ (.slice Ao29 t218.length co29 : Value).ownBlock) (Kd.R_keptB (HO_10.out) hkp (fun k_ hk_ hs_ => (hk_.2.2) hs_)) (fun k_ hk_ => ⟨hk_.1.1, hk_.1.2.1, hk_.1.2.2⟩)); have n3_ := Aside0.mk (Kd.R_reok rfl hy0 (fun k_ e_ => HO_11.out.1 k_ e_)); have n4_ := Aside0.mk (hb); clear HO_7; clear HO_8; clear HO_10; clear HO_11; clear HB; have HO_7 := n0_; have HO_8 := n1_; have HO_10 := n2_; have HO_11 := n3_; have HB := n4_; clear n0_ n1_ n2_ n3_ n4_; (try clear hb); (try clear hkp); (try clear hy0)) | ((with_reducible refine gate_callee (f := 19) rfl ?_); refine goesL_ (some 57) rfl rfl Try.func19 (by kernel_rfl) rfl #[.slice Ao27 t227.length co27, .int .i64 1] rfl (by (try simp only [List.map_toArray, List.map_cons, List.map_nil]); first | done | (rw [show t227.length = t217.length from (Kd.R_reads' HO_10.out).1.symm] <;> rfl) | rfl | (simp only [List.length_drop, List.length_take]; rfl)) ?_; (with_reducible refine (laws_heldIntS.calls kj5 _ _ t227 1 t230 _ ?side1 ?side2 A20.out).mono ?_); (case side1 => repeat (first | exact (Kd.R_reads' HO_10.out).2.2 | (with_reducible refine Kd.C_alloc ?_ _) | (with_reducible refine Kd.C_drewN ?_ _) | (with_reducible refine Kd.C_drew ?_))); (case side2 => rw [show t227.length = t217.length from (Kd.R_reads' HO_10.out).1.symm]; exact (Kd.R_reads' HO_10.out).2.1); rintro e w' ⟨rfl, ⟨nd, rfl⟩⟩; refine ⟨_, rfl, ?_⟩) | ((with_reducible refine gate_callee (f := 19) rfl ?_); refine goesL_ (some 62) rfl rfl Try.func19 (by kernel_rfl) rfl #[.slice Ao29 t229.length co29, .int .i64 t230] rfl (by (try simp only [List.map_toArray, List.map_cons, List.map_nil]); first | done | (rw [show t229.length = t218.length from (Kd.R_reads' HO_11.out).1.symm] <;> rfl) | rfl | (simp only [List.length_drop, List.length_take]; rfl)) ?_; (with_reducible refine (laws_heldIntS.calls kj5 _ _ t229 t230 t231 _ ?side1 ?side2 A22.out).mono ?_); (case side1 => repeat (first | exact (Kd.R_reads' HO_11.out).2.2 | (with_reducible refine Kd.C_alloc ?_ _) | (with_reducible refine Kd.C_drewN ?_ _) | (with_reducible refine Kd.C_drew ?_))); (case side2 => rw [show t229.length = t218.length from (Kd.R_reads' HO_11.out).1.symm]; exact (Kd.R_reads' HO_11.out).2.1); rintro e w' ⟨rfl, ⟨nd, rfl⟩⟩; refine ⟨_, rfl, ?_⟩) | ((with_reducible refine gate_callee (f := 36) rfl ?_); refine goesL_ (some 72) rfl rfl Try.func36 (by kernel_rfl) rfl #[.int .i64 a0, .int .i64 a1, .int .i64 a2] rfl (by (try simp only [List.map_toArray, List.map_cons, List.map_nil]); first | done | rfl | (simp only [List.length_drop, List.length_take]; rfl)) ?_; (with_reducible refine (impl_HalvesOf.calls kj5 a0 a1 a2 t232 t233 t234 _ A25.out).mono ?_); rintro e w31 ⟨v235, v237, rfl, ho0, ho1, hb⟩; refine ⟨_, rfl, ?_⟩; have n0_ := Aside0.mk (Kd.R_mono (Kd.R_told (Kd.R_told (Kd.R_old (by (with_reducible repeat (first | apply Kd.R_alloc | apply Kd.R_drewN | apply Kd.R_drew)); exact HO_7.out) hb) (Kd.R_base ho0)) (Kd.R_base ho1)) (fun _ h_ => h_.1)); have n1_ := Aside0.mk (Kd.R_mono (Kd.R_told (Kd.R_told (Kd.R_old (by (with_reducible repeat (first | apply Kd.R_alloc | apply Kd.R_drewN | apply Kd.R_drew)); exact HO_8.out) hb) (Kd.R_base ho0)) (Kd.R_base ho1)) (fun _ h_ => h_.1)); have n2_ := Aside0.mk (Kd.R_mono (Kd.R_told (Kd.R_told (Kd.R_old (by (with_reducible repeat (first | apply Kd.R_alloc | apply Kd.R_drewN | apply Kd.R_drew)); exact HO_10.out) hb) (Kd.R_base ho0)) (Kd.R_base ho1)) (fun _ h_ => h_.1)); have n3_ := Aside0.mk (Kd.R_mono (Kd.R_told (Kd.R_told (Kd.R_old (by (with_reducible repeat (first | apply Kd.R_alloc | apply Kd.R_drewN | apply Kd.R_drew)); exact HO_11.out) hb) (Kd.R_base ho0)) (Kd.R_base ho1)) (fun _ h_ => h_.1)); have n4_ := Aside0.mk (Kd.R_lower (Kd.R_new' (Kd.R_new' (Kd.R_new' (Kd.R_new' ho0 (Kd.R_lt (by (with_reducible repeat (first | apply Kd.R_alloc | apply Kd.R_drewN | apply Kd.R_drew)); exact HO_7.out))) (Kd.R_lt (by (with_reducible repeat (first | apply Kd.R_alloc | apply Kd.R_drewN | apply Kd.R_drew)); exact HO_8.out))) (Kd.R_lt (by (with_reducible repeat (first | apply Kd.R_alloc | apply Kd.R_drewN | apply Kd.R_drew)); exact HO_10.out))) (Kd.R_lt (by (with_reducible repeat (first | apply Kd.R_alloc | apply Kd.R_drewN | apply Kd.R_drew)); exact HO_11.out))) (below_size (by repeat (first | (with_reducible first | exact HB.out | apply below_alloc | apply pw_below_drewN | apply below_drew1) | exact HB.out)))); have n5_ := Aside0.mk (Kd.R_lower (Kd.R_new' (Kd.R_new' (Kd.R_new' (Kd.R_new' ho1 (Kd.R_lt (by (with_reducible repeat (first | apply Kd.R_alloc | apply Kd.R_drewN | apply Kd.R_drew)); exact HO_7.out))) (Kd.R_lt (by (with_reducible repeat (first | apply Kd.R_alloc | apply Kd.R_drewN | apply Kd.R_drew)); exact HO_8.out))) (Kd.R_lt (by (with_reducible repeat (first | apply Kd.R_alloc | apply Kd.R_drewN | apply Kd.R_drew)); exact HO_10.out))) (Kd.R_lt (by (with_reducible repeat (first | apply Kd.R_alloc | apply Kd.R_drewN | apply Kd.R_drew)); exact HO_11.out))) (below_size (by repeat (first | (with_reducible first | exact HB.out | apply below_alloc | apply pw_below_drewN | apply below_drew1) | exact HB.out)))); have n6_ := Aside0.mk (below_step (by repeat (first | (with_reducible first | exact HB.out | apply below_alloc | apply pw_below_drewN | apply below_drew1) | exact HB.out)) hb); clear HO_7; clear HO_8; clear HO_10; clear HO_11; clear HB; have HO_7 := n0_; have HO_8 := n1_; have HO_10 := n2_; have HO_11 := n3_; have HO236 := n4_; have HO238 := n5_; have HB := n6_; clear n0_ n1_ n2_ n3_ n4_ n5_ n6_; (try clear hb); (try clear hb2); (try clear hk); (try clear hi); (try clear ho0); (try clear ho1)))
              (try simp only [Act.put, List.setIfInBounds_toArray, List.set_cons_zero, List.set_cons_succ])
              go_cut [90] (fun v90 wc => ∃ (kq : Nat) (x90_25 : Bool), v90 = .bool x90_25 ∧ Aside0 (laws_FnExactHalvesOf.j1 kq t227 t229 t228 x90_25 = some r) ∧ Aside0 (kq ≤ kj5) ∧ Aside0 (Kd.R (Kd.int .i64) 3 wc w.heap.size (fun k_ => some k_ ≠ ((.slice Ao29 t218.length co29) : Value).ownBlock) (.slice Ao27 t217.length co27) t227) ∧ Aside0 (Kd.R (Kd.int .i64) 3 wc w.heap.size (fun k_ => some k_ ≠ ((.slice Ao27 t217.length co27) : Value).ownBlock) (.slice Ao29 t218.length co29) t229) ∧ Aside0 (Below w.heap.size w wc))
              case first =>
                have H := HC26.out
                clear HC26
                replace H := Option.bind_eq_some_iff.mp H
                obtain ⟨t239, A320, H⟩ := H
                replace H : (if t239 = true then ((laws_eqIntS.f kj5 t233 t211).bind fun t240 => (if t240 = true then (laws_FnExactHalvesOf.j1 kj5 t227 t229 t228 (t234 != t212)) else (laws_FnExactHalvesOf.j1 kj5 t227 t229 t228 true))) else (laws_FnExactHalvesOf.j1 kj5 t227 t229 t228 true)) = some r := H
                have A32 := Aside0.mk A320
                clear A320
                by_cases c33 : t239 = true
                · subst c33
                  have H1 : ((laws_eqIntS.f kj5 t233 t211).bind fun t240 => (if t240 = true then (laws_FnExactHalvesOf.j1 kj5 t227 t229 t228 (t234 != t212)) else (laws_FnExactHalvesOf.j1 kj5 t227 t229 t228 true))) = some r := by rw [if_pos rfl] at H; exact H
                  clear H
                  have H := H1
                  clear H1
                  replace H := Option.bind_eq_some_iff.mp H
                  obtain ⟨t240, A340, H⟩ := H
                  replace H : (if t240 = true then (laws_FnExactHalvesOf.j1 kj5 t227 t229 t228 (t234 != t212)) else (laws_FnExactHalvesOf.j1 kj5 t227 t229 t228 true)) = some r := H
                  have A34 := Aside0.mk A340
                  clear A340
                  by_cases c35 : t240 = true
                  · subst c35
                    have H1 : (laws_FnExactHalvesOf.j1 kj5 t227 t229 t228 (t234 != t212)) = some r := by rw [if_pos rfl] at H; exact H
                    clear H
                    have H := H1
                    clear H1
                    have H' := Aside0.mk H
                    clear H
                    obtain ⟨Ao36, co36, eo36⟩ := Kd.R_slice HO236.out
                    subst eo36
                    obtain ⟨Ao37, co37, eo37⟩ := Kd.R_slice HO_7.out
                    subst eo37
                    go_wp2_with (first | ((with_reducible refine gate_callee (f := 17) rfl ?_); refine goesL_ (some 78) rfl rfl Try.func17 (by kernel_rfl) rfl #[.slice Ao36 t232.length co36, .slice Ao37 t210.length co37] rfl (by (try simp only [List.map_toArray, List.map_cons, List.map_nil]); first | done | rfl | (simp only [List.length_drop, List.length_take]; rfl)) ?_; (with_reducible refine (laws_eqIntS.calls kj5 _ _ t232 _ _ t210 true _ ?side1 ?side2 ?side3 ?side4 A32.out).mono ?_); (case side1 => repeat (first | exact (Kd.R_reads' HO236.out).2.2 | (with_reducible refine Kd.C_alloc ?_ _) | (with_reducible refine Kd.C_drewN ?_ _) | (with_reducible refine Kd.C_drew ?_))); (case side2 => exact (Kd.R_reads' HO236.out).2.1); (case side3 => repeat (first | exact (Kd.R_reads' HO_7.out).2.2 | (with_reducible refine Kd.C_alloc ?_ _) | (with_reducible refine Kd.C_drewN ?_ _) | (with_reducible refine Kd.C_drew ?_))); (case side4 => exact (Kd.R_reads' HO_7.out).2.1); rintro e w' ⟨rfl, ⟨nd, rfl⟩⟩; refine ⟨_, rfl, ?_⟩; obtain ⟨Ao38, co38, eo38⟩ := Kd.R_slice HO238.out; subst eo38; obtain ⟨Ao39, co39, eo39⟩ := Kd.R_slice HO_8.out; subst eo39) | (go_at_call 17; (with_reducible refine (laws_eqIntS.calls kj5 _ _ t233 _ _ t211 true _ ?side1 ?side2 ?side3 ?side4 A34.out).mono ?_); (case side1 => repeat (first | exact (Kd.R_reads' HO238.out).2.2 | (with_reducible refine Kd.C_alloc ?_ _) | (with_reducible refine Kd.C_drewN ?_ _) | (with_reducible refine Kd.C_drew ?_))); (case side2 => exact (Kd.R_reads' HO238.out).2.1); (case side3 => repeat (first | exact (Kd.R_reads' HO_8.out).2.2 | (with_reducible refine Kd.C_alloc ?_ _) | (with_reducible refine Kd.C_drewN ?_ _) | (with_reducible refine Kd.C_drew ?_))); (case side4 => exact (Kd.R_reads' HO_8.out).2.1); rintro e w' ⟨rfl, ⟨nd, rfl⟩⟩))
                    go_meet
                    case rel => exact ⟨_, ((t234 != t212)), (by first | rfl | (simp; done) | (simp [*]; done)), H', ⟨by have := HJ5.out; first | omega | exact Nat.le_refl _⟩, ⟨by (with_reducible repeat (first | apply Kd.R_alloc | apply Kd.R_drewN | apply Kd.R_drew)); exact Kd.R_mono HO_10.out (fun _ hk => hk.1.1.2.2)⟩, ⟨by (with_reducible repeat (first | apply Kd.R_alloc | apply Kd.R_drewN | apply Kd.R_drew)); exact Kd.R_mono HO_11.out (fun _ hk => hk.1.1.2.2)⟩, ⟨by repeat (first | (with_reducible first | exact HB.out | apply below_alloc | apply pw_below_drewN | apply below_drew1) | exact HB.out)⟩⟩
                  · replace c35 := Bool.eq_false_iff.mpr c35
                    subst c35
                    have H1 : (laws_FnExactHalvesOf.j1 kj5 t227 t229 t228 true) = some r := by rw [if_neg (show ¬ (false = true) by decide)] at H; exact H
                    clear H
                    have H := H1
                    clear H1
                    exact (laws_FnExactHalvesOf.j1_no HR_.out _ _ _ _ H).elim
                · replace c33 := Bool.eq_false_iff.mpr c33
                  subst c33
                  have H1 : (laws_FnExactHalvesOf.j1 kj5 t227 t229 t228 true) = some r := by rw [if_neg (show ¬ (false = true) by decide)] at H; exact H
                  clear H
                  have H := H1
                  clear H1
                  exact (laws_FnExactHalvesOf.j1_no HR_.out _ _ _ _ H).elim
              case rest =>
                clear HC26
                try clear c1
                try clear c2
                try clear p2
                try clear c3
                try clear c10
                try clear c11
                try clear c12
                try clear c17
                try clear c18
                try clear c19
                try clear c21
                try clear c21b0
                try clear c23
                try clear c23b0
                try clear c24
                try clear c24b0
                try clear c24b1
                try clear c33
                try clear c35
                try clear c36
                try clear p2
                obtain ⟨kq, x90_25, rfl, HA, HJ25, HO_10, HO_11, HB⟩ := hcut
                have hl10_25 := (Kd.R_reads' HO_10.out).1
                rw [hl10_25] at HO_10
                (try simp only [hl10_25])
                (try simp only [hl10_25] at HO_11)
                have hl11_25 := (Kd.R_reads' HO_11.out).1
                rw [hl11_25] at HO_11
                (try simp only [hl11_25])
                (try simp only [hl11_25] at HO_10)
                cases kq with
                | zero => exact absurd HA.out (by simp [laws_FnExactHalvesOf.j1])
                | succ kj25 =>
                  have H := HA.out
                  clear HA
                  simp only [laws_FnExactHalvesOf.j1] at H
                  by_cases c40 : x90_25 = true
                  · subst c40
                    have H1 : (some false) = some r := by rw [if_pos rfl] at H; exact H
                    clear H
                    have H := H1
                    clear H1
                    exact absurd (Option.some.inj H) (by rw [HR_.out]; decide)
                  · replace c40 := Bool.eq_false_iff.mpr c40
                    subst c40
                    have H1 : ((laws_heldIntS.f kj25 t227 1).bind fun t241 => (if t241 < 0 then (some false) else ((laws_heldIntS.f kj25 t229 t241).bind fun t242 => (if t242 < 0 then (some false) else (if t242 = t228 then (some true) else (some false)))))) = some r := by rw [if_neg (show ¬ (false = true) by decide)] at H; exact H
                    clear H
                    have H := H1
                    clear H1
                    replace H := Option.bind_eq_some_iff.mp H
                    obtain ⟨t241, A410, H⟩ := H
                    replace H : (if t241 < 0 then (some false) else ((laws_heldIntS.f kj25 t229 t241).bind fun t242 => (if t242 < 0 then (some false) else (if t242 = t228 then (some true) else (some false))))) = some r := H
                    have A41 := Aside0.mk A410
                    clear A410
                    by_cases c42 : t241 < 0
                    · rw [if_pos c42] at H
                      have c42b0 : decide (t241 < 0) = true := decide_eq_true c42
                      clear c42
                      exact absurd (Option.some.inj H) (by rw [HR_.out]; decide)
                    · rw [if_neg c42] at H
                      have c42b0 : decide (t241 < 0) = false := decide_eq_false c42
                      clear c42
                      replace H := Option.bind_eq_some_iff.mp H
                      obtain ⟨t242, A430, H⟩ := H
                      replace H : (if t242 < 0 then (some false) else (if t242 = t228 then (some true) else (some false))) = some r := H
                      have A43 := Aside0.mk A430
                      clear A430
                      by_cases c44 : t242 < 0
                      · rw [if_pos c44] at H
                        have c44b0 : decide (t242 < 0) = true := decide_eq_true c44
                        clear c44
                        exact absurd (Option.some.inj H) (by rw [HR_.out]; decide)
                      · rw [if_neg c44] at H
                        have c44b0 : decide (t242 < 0) = false := decide_eq_false c44
                        clear c44
                        by_cases c45 : t242 = t228
                        · rw [if_pos c45] at H
                          have c45b0 : (t242 == t228) = true := beq_iff_eq.mpr c45
                          have c45b1 : (t242 != t228) = false := bne_eq_false_iff_eq.mpr c45
                          clear c45
                          obtain rfl := Option.some.inj H
                          go_wp2_with (first | ((with_reducible refine gate_callee (f := 19) rfl ?_); refine goesL_ (some 93) rfl rfl Try.func19 (by kernel_rfl) rfl #[.slice Ao27 t227.length co27, .int .i64 1] rfl (by (try simp only [List.map_toArray, List.map_cons, List.map_nil]); first | done | rfl | (simp only [List.length_drop, List.length_take]; rfl)) ?_; (with_reducible refine (laws_heldIntS.calls kj25 _ _ t227 1 t241 _ ?side1 ?side2 A41.out).mono ?_); (case side1 => repeat (first | exact (Kd.R_reads' HO_10.out).2.2 | (with_reducible refine Kd.C_alloc ?_ _) | (with_reducible refine Kd.C_drewN ?_ _) | (with_reducible refine Kd.C_drew ?_))); (case side2 => exact (Kd.R_reads' HO_10.out).2.1); rintro e w' ⟨rfl, ⟨nd, rfl⟩⟩; refine ⟨_, rfl, ?_⟩) | ((with_reducible refine gate_callee (f := 19) rfl ?_); refine goesL_ (some 98) rfl rfl Try.func19 (by kernel_rfl) rfl #[.slice Ao29 t229.length co29, .int .i64 t241] rfl (by (try simp only [List.map_toArray, List.map_cons, List.map_nil]); first | done | rfl | (simp only [List.length_drop, List.length_take]; rfl)) ?_; (with_reducible refine (laws_heldIntS.calls kj25 _ _ t229 t241 t242 _ ?side1 ?side2 A43.out).mono ?_); (case side1 => repeat (first | exact (Kd.R_reads' HO_11.out).2.2 | (with_reducible refine Kd.C_alloc ?_ _) | (with_reducible refine Kd.C_drewN ?_ _) | (with_reducible refine Kd.C_drew ?_))); (case side2 => exact (Kd.R_reads' HO_11.out).2.1); rintro e w' ⟨rfl, ⟨nd, rfl⟩⟩; refine ⟨_, rfl, ?_⟩))
                          go_ret
                          exact ⟨by first | rfl | (simp [errW_none, errW_some] <;> rfl) | (simp [*, errW_none, errW_some] <;> rfl), by repeat (first | (with_reducible first | exact HB.out | apply below_alloc | apply pw_below_drewN | apply below_drew1) | exact HB.out)⟩
                        · rw [if_neg c45] at H
                          have c45b0 : (t242 == t228) = false := beq_eq_false_iff_ne.mpr c45
                          have c45b1 : (t242 != t228) = true := bne_iff_ne.mpr c45
                          exact absurd (Option.some.inj H) (by rw [HR_.out]; decide)
            · rw [if_neg c24] at H
              have c24b0 : (t231 == t228) = false := beq_eq_false_iff_ne.mpr c24
              have c24b1 : (t231 != t228) = true := bne_iff_ne.mpr c24
              exact absurd (Option.some.inj H) (by rw [HR_.out]; decide)

/-- THE ONE PURE STATEMENT of laws_FnExactHalvesOf: yours. -/
def laws_FnExactHalvesOf.Pure : Prop := ∀ (a0 : Int) (a1 : Int) (a2 : Int), (Lit.int .i64 a0).wf = true → (Lit.int .i64 a1).wf = true → (Lit.int .i64 a2).wf = true → ∃ k, laws_FnExactHalvesOf.f k a0 a1 a2 = some true
theorem laws_FnExactHalvesOf.walk (P : laws_FnExactHalvesOf.Pure) (a0 : Int) (a1 : Int) (a2 : Int) (w : World) (w0 : (Lit.int .i64 a0).wf = true) (w1 : (Lit.int .i64 a1).wf = true) (w2 : (Lit.int .i64 a2).wf = true) :
    Calls Try.prog 11 #[.int .i64 a0, .int .i64 a1, .int .i64 a2] w fun e w' => e = .returned (.bool true) ∧ Below w.heap.size w w' := by
  obtain ⟨k, h⟩ := P a0 a1 a2 w0 w1 w2
  refine (laws_FnExactHalvesOf.calls k a0 a1 a2 true w h rfl).mono ?_
  rintro e w' ⟨rfl, hd⟩
  exact ⟨rfl, hd⟩

end Go.Proofs.Ytnhohachlieglaa.PFnExactHalvesOf
