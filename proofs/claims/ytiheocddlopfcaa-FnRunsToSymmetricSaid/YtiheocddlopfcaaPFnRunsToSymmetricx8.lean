-- out of the kit's print, turned by wip/own_print.py
import Derived.Test.YtiheocddlopfcaaPFnRunsToSymmetricx0
import Derived.Test.YtiheocddlopfcaaPFnRunsToSymmetricx1
import Derived.Test.YtiheocddlopfcaaPFnRunsToSymmetricx3
import Derived.Test.YtiheocddlopfcaaPFnRunsToSymmetricx5
import Derived.Test.YtiheocddlopfcaaPFnRunsToSymmetricx7
namespace Go.Proofs.Ytiheocddlopfcaa.PFnRunsToSymmetric
open Go.RowKit Go.Proofs.YtiheocddlopfcaaW.PrintWords Go.Proofs.YtiheocddlopfcaaW.PrintLast Go.Proofs.YtiheocddlopfcaaW.PrintMore
attribute [local go_sem] max2_int min2_int max_two min_two max_three min_three max_four min_four   -- for this text's walks alone
set_option linter.unusedVariables false
set_option linter.unusedSimpArgs false

/-! ### spec_SlowestNumber: function 109 -/
mutual
def spec_SlowestNumber.j0 : Nat → Int → Int → Int → Int → Bool → Option (Int × Int × Bool)
 | 0, _, _, _, _, _ => none
 | k + 1, x1, x2, x9, x10, x28 => if x28 = true then (some (0, 0, false)) else (spec_SlowestNumber.l0 k x1 x2 x9 x10 0 (-1) x9)
def spec_SlowestNumber.l0 : Nat → Int → Int → Int → Int → Int → Int → Int → Option (Int × Int × Bool)
 | 0, _, _, _, _, _, _, _ => none
 | k + 1, x1, x2, x9, x10, x11, x12, x13 => if x13 < (wrap64 (x9 + x10)) then ((spec_dgOf.f k x13 x1).bind fun t423 => ((spec_rvSteps.f k t423 x1 x2).bind fun bt426 => (if bt426.2 = true then (if bt426.1 > x12 then (spec_SlowestNumber.l0 k x1 x2 x9 x10 x13 bt426.1 (wrap64 (x13 + 1))) else (spec_SlowestNumber.l0 k x1 x2 x9 x10 x11 x12 (wrap64 (x13 + 1)))) else (spec_SlowestNumber.l0 k x1 x2 x9 x10 x11 x12 (wrap64 (x13 + 1)))))) else (if x12 < 0 then (some (0, 0, false)) else (some (x11, x12, true)))
end
def spec_SlowestNumber.f (k : Nat) (a0 : Int) (a1 : Int) (a2 : Int) : Option (Int × Int × Bool) := (spec_rvFrom.f k a0 a1).bind fun bt420 => (if bt420.2 = 0 then (spec_SlowestNumber.j0 k a1 a2 bt420.1 bt420.2 true) else ((spec_rvMost.f a2).bind fun t422 => (spec_SlowestNumber.j0 k a1 a2 bt420.1 bt420.2 (!t422))))
theorem spec_SlowestNumber.mono_l : ∀ k, (∀ y0 y1 y2 y3 y4, LeO (spec_SlowestNumber.j0 k y0 y1 y2 y3 y4) (spec_SlowestNumber.j0 (k + 1) y0 y1 y2 y3 y4)) ∧ (∀ y0 y1 y2 y3 y4 y5 y6, LeO (spec_SlowestNumber.l0 k y0 y1 y2 y3 y4 y5 y6) (spec_SlowestNumber.l0 (k + 1) y0 y1 y2 y3 y4 y5 y6))
 | 0 => ⟨fun _ _ _ _ _ r h => by simp [spec_SlowestNumber.j0] at h, fun _ _ _ _ _ _ _ r h => by simp [spec_SlowestNumber.l0] at h⟩
 | k + 1 => by
  obtain ⟨ih0, ih1⟩ := spec_SlowestNumber.mono_l k
  refine ⟨?_, ?_⟩
  ·intro y0 y1 y2 y3 y4
   unfold spec_SlowestNumber.j0
   repeat' first
   | (with_reducible exact ih0 _ _ _ _ _)
   | (with_reducible exact ih1 _ _ _ _ _ _ _)
   | (with_reducible exact spec_dgOf.mono _ _ _)
   | (with_reducible exact spec_rvFrom.mono _ _ _)
   | (with_reducible exact spec_rvSteps.mono _ _ _ _)
   | (with_reducible exact LeO.refl _)
   | (with_reducible exact LeO.none _)
   | (with_reducible refine LeO.ite ?_ ?_)
   | (with_reducible refine LeO.bind ?_ (fun _ => ?_))
   | exact ih0 _ _ _ _ _
   | exact ih1 _ _ _ _ _ _ _
   | exact spec_dgOf.mono _ _ _
   | exact spec_rvFrom.mono _ _ _
   | exact spec_rvSteps.mono _ _ _ _
   | exact LeO.none _
   | refine LeO.ite ?_ ?_
   | refine LeO.bind ?_ (fun _ => ?_)
  ·intro y0 y1 y2 y3 y4 y5 y6
   unfold spec_SlowestNumber.l0
   repeat' first
   | (with_reducible exact ih0 _ _ _ _ _)
   | (with_reducible exact ih1 _ _ _ _ _ _ _)
   | (with_reducible exact spec_dgOf.mono _ _ _)
   | (with_reducible exact spec_rvFrom.mono _ _ _)
   | (with_reducible exact spec_rvSteps.mono _ _ _ _)
   | (with_reducible exact LeO.refl _)
   | (with_reducible exact LeO.none _)
   | (with_reducible refine LeO.ite ?_ ?_)
   | (with_reducible refine LeO.bind ?_ (fun _ => ?_))
   | exact ih0 _ _ _ _ _
   | exact ih1 _ _ _ _ _ _ _
   | exact spec_dgOf.mono _ _ _
   | exact spec_rvFrom.mono _ _ _
   | exact spec_rvSteps.mono _ _ _ _
   | exact LeO.none _
   | refine LeO.ite ?_ ?_
   | refine LeO.bind ?_ (fun _ => ?_)
theorem spec_SlowestNumber.mono : ∀ a0 a1 a2 k, LeO (spec_SlowestNumber.f k a0 a1 a2) (spec_SlowestNumber.f (k + 1) a0 a1 a2) := by
 intro a0 a1 a2 k
 obtain ⟨ih0, ih1⟩ := spec_SlowestNumber.mono_l k
 unfold spec_SlowestNumber.f
 repeat' first
   | (with_reducible exact ih0 _ _ _ _ _)
   | (with_reducible exact ih1 _ _ _ _ _ _ _)
   | (with_reducible exact spec_dgOf.mono _ _ _)
   | (with_reducible exact spec_rvFrom.mono _ _ _)
   | (with_reducible exact spec_rvSteps.mono _ _ _ _)
   | (with_reducible exact LeO.refl _)
   | (with_reducible exact LeO.none _)
   | (with_reducible refine LeO.ite ?_ ?_)
   | (with_reducible refine LeO.bind ?_ (fun _ => ?_))
   | exact ih0 _ _ _ _ _
   | exact ih1 _ _ _ _ _ _ _
   | exact spec_dgOf.mono _ _ _
   | exact spec_rvFrom.mono _ _ _
   | exact spec_rvSteps.mono _ _ _ _
   | exact LeO.none _
   | refine LeO.ite ?_ ?_
   | refine LeO.bind ?_ (fun _ => ?_)
set_option maxHeartbeats 8000000 in
set_option maxRecDepth 100000 in
theorem spec_SlowestNumber.calls (k : Nat) (a0 : Int) (a1 : Int) (a2 : Int) (r1 : Int) (r2 : Int) (r3 : Bool) (w : World) (h : spec_SlowestNumber.f k a0 a1 a2 = some (r1, r2, r3)) :
  Calls Try.prog 109 #[.int .i64 a0, .int .i64 a1, .int .i64 a2] w fun e w' => e = .returned (.tuple #[.int .i64 r1, .int .i64 r2, .bool r3]) ∧ Below w.heap.size w w' := by
 have HB := Aside0.mk (Below.refl w.heap.size w)
 have H : ((spec_rvFrom.f k a0 a1).bind fun bt420 => (if bt420.2 = 0 then (spec_SlowestNumber.j0 k a1 a2 bt420.1 bt420.2 true) else ((spec_rvMost.f a2).bind fun t422 => (spec_SlowestNumber.j0 k a1 a2 bt420.1 bt420.2 (!t422))))) = some (r1, r2, r3) := h
 clear h
 replace H := Option.bind_eq_some_iff.mp H
 obtain ⟨⟨t420, t421⟩, A40, H⟩ := H
 replace H : (if t421 = 0 then (spec_SlowestNumber.j0 k a1 a2 t420 t421 true) else ((spec_rvMost.f a2).bind fun t422 => (spec_SlowestNumber.j0 k a1 a2 t420 t421 (!t422)))) = some (r1, r2, r3) := H
 have A4 := Aside0.mk A40
 clear A40
 have HC5 := Aside0.mk H
 clear H
 go_enter Try.func109, Try.ntmps109
 go_upto_region 2 with (first | ((with_reducible refine gate_callee (f := 277) rfl ?_); refine goesL_ (some 19) rfl rfl Try.func277 (by kernel_rfl) rfl #[.int .i64 a0, .int .i64 a1] rfl (by (try simp only [List.map_toArray, List.map_cons, List.map_nil]); first | done | rfl | (simp only [List.length_drop, List.length_take]; rfl)) ?_; (with_reducible refine (spec_rvFrom.calls k a0 a1 t420 t421 _ A4.out).mono ?_); rintro e w' ⟨rfl, ⟨nd, rfl⟩⟩; refine ⟨_, rfl, ?_⟩))
 (try simp only [Act.put, List.setIfInBounds_toArray, List.set_cons_zero, List.set_cons_succ])
 go_cut [28] (fun v28 wc => ∃ (kq : Nat) (x28_4 : Bool), v28 = .bool x28_4 ∧ Aside0 (spec_SlowestNumber.j0 kq a1 a2 t420 t421 x28_4 = some (r1, r2, r3)) ∧ Aside0 (kq ≤ k) ∧ Aside0 (Below w.heap.size w wc))
 case first =>
  have H := HC5.out
  clear HC5
  by_cases c6 : t421 = 0
  ·rw [if_pos c6] at H
   have c6b0 : (t421 == 0) = true := beq_iff_eq.mpr c6
   have c6b1 : (t421 != 0) = false := bne_eq_false_iff_eq.mpr c6
   clear c6
   (first | rw [c6b0] | (simp only [i64_w, i32_w]; rw [c6b0]) | skip)
   have H' := Aside0.mk H
   clear H
   go_wp2
   go_meet
   case rel => exact ⟨_, (true), (by first | rfl | (simp; done) | (simp [*]; done)), H', ⟨by first | omega | exact Nat.le_refl _⟩, ⟨by repeat (first | (with_reducible first | exact HB.out | apply below_alloc | apply pw_below_drewN | apply below_drew1) | exact HB.out)⟩⟩
  ·rw [if_neg c6] at H
   have c6b0 : (t421 == 0) = false := beq_eq_false_iff_ne.mpr c6
   have c6b1 : (t421 != 0) = true := bne_iff_ne.mpr c6
   (first | rw [c6b0] | (simp only [i64_w, i32_w]; rw [c6b0]) | skip)
   replace H := Option.bind_eq_some_iff.mp H
   obtain ⟨t422, A70, H⟩ := H
   replace H : (spec_SlowestNumber.j0 k a1 a2 t420 t421 (!t422)) = some (r1, r2, r3) := H
   have A7 := Aside0.mk A70
   clear A70
   have H' := Aside0.mk H
   clear H
   go_wp2_with (first | (go_at_call 269; (with_reducible refine (spec_rvMost.calls a2 t422 _ A7.out).mono ?_); rintro e w' ⟨rfl, ⟨nd, rfl⟩⟩))
   go_meet
   case rel => exact ⟨_, (!t422), (by first | rfl | (simp; done) | (simp [*]; done)), H', ⟨by first | omega | exact Nat.le_refl _⟩, ⟨by repeat (first | (with_reducible first | exact HB.out | apply below_alloc | apply pw_below_drewN | apply below_drew1) | exact HB.out)⟩⟩
 case rest =>
  clear HC5
  try clear c1
  try clear c2
  try clear p2
  try clear c6
  try clear c6b0
  try clear c6b1
  obtain ⟨kq, x28_4, rfl, HA, HJ4, HB⟩ := hcut
  cases kq with
  | zero => exact absurd HA.out (by simp [spec_SlowestNumber.j0])
  | succ kj4 =>
   have H := HA.out
   clear HA
   simp only [spec_SlowestNumber.j0] at H
   by_cases c8 : x28_4 = true
   ·subst c8
    have H1 : (some (0, 0, false)) = some (r1, r2, r3) := by rw [if_pos rfl] at H; exact H
    clear H
    have H := H1
    clear H1
    simp only [Option.some.injEq, Prod.mk.injEq] at H
    obtain ⟨rfl, rfl, rfl⟩ := H
    go_wp2
    go_ret3
    exact ⟨by first | rfl | (simp [errW_none, errW_some] <;> rfl) | (simp [*, errW_none, errW_some] <;> rfl), by repeat (first | (with_reducible first | exact HB.out | apply below_alloc | apply pw_below_drewN | apply below_drew1) | exact HB.out)⟩
   ·replace c8 := Bool.eq_false_iff.mpr c8
    subst c8
    have H1 : (spec_SlowestNumber.l0 kj4 a1 a2 t420 t421 0 (-1) t420) = some (r1, r2, r3) := by rw [if_neg (show ¬ (false = true) by decide)] at H; exact H
    clear H
    have H := H1
    clear H1
    have H' := Aside0.mk H
    clear H
    go_wp2
    go_loopg [11, 12, 13] kj4 (fun kq v11 v12 v13 w' => ∃ (x11_2 : Int) (x12_2 : Int) (x13_2 : Int), v11 = .int .i64 x11_2 ∧ v12 = .int .i64 x12_2 ∧ v13 = .int .i64 x13_2 ∧ Aside0 (spec_SlowestNumber.l0 kq a1 a2 t420 t421 x11_2 x12_2 x13_2 = some (r1, r2, r3)) ∧ Aside0 (kq ≤ kj4) ∧ Aside0 (Below w.heap.size w w'))
    case atStart => exact ⟨(0), ((-1)), (t420), (by first | rfl | (simp; done) | (simp [*]; done)), (by first | rfl | (simp; done) | (simp [*]; done)), (by first | rfl | (simp; done) | (simp [*]; done)), H', ⟨Nat.le_refl _⟩, ⟨by repeat (first | (with_reducible first | exact HB.out | apply below_alloc | apply pw_below_drewN | apply below_drew1) | exact HB.out)⟩⟩
    case round =>
     clear H'
     try clear c1
     try clear c2
     try clear p2
     try clear c6
     try clear c6b0
     try clear c6b1
     try clear c8
     try clear p2
     obtain ⟨x11_2, x12_2, x13_2, rfl, rfl, rfl, HA, HK2, HB⟩ := hrel
     cases gk with
     | zero => exact absurd HA.out (by simp [spec_SlowestNumber.l0])
     | succ k2 =>
      have H := HA.out
      clear HA
      simp only [spec_SlowestNumber.l0] at H
      by_cases c9 : x13_2 < (wrap64 (t420 + t421))
      ·rw [if_pos c9] at H
       have c9b0 : decide (x13_2 < (wrap64 (t420 + t421))) = true := decide_eq_true c9
       clear c9
       replace H := Option.bind_eq_some_iff.mp H
       obtain ⟨t423, A100, H⟩ := H
       replace H : ((spec_rvSteps.f k2 t423 a1 a2).bind fun bt426 => (if bt426.2 = true then (if bt426.1 > x12_2 then (spec_SlowestNumber.l0 k2 a1 a2 t420 t421 x13_2 bt426.1 (wrap64 (x13_2 + 1))) else (spec_SlowestNumber.l0 k2 a1 a2 t420 t421 x11_2 x12_2 (wrap64 (x13_2 + 1)))) else (spec_SlowestNumber.l0 k2 a1 a2 t420 t421 x11_2 x12_2 (wrap64 (x13_2 + 1))))) = some (r1, r2, r3) := H
       have A10 := Aside0.mk A100
       clear A100
       replace H := Option.bind_eq_some_iff.mp H
       obtain ⟨⟨t426, t427⟩, A110, H⟩ := H
       replace H : (if t427 = true then (if t426 > x12_2 then (spec_SlowestNumber.l0 k2 a1 a2 t420 t421 x13_2 t426 (wrap64 (x13_2 + 1))) else (spec_SlowestNumber.l0 k2 a1 a2 t420 t421 x11_2 x12_2 (wrap64 (x13_2 + 1)))) else (spec_SlowestNumber.l0 k2 a1 a2 t420 t421 x11_2 x12_2 (wrap64 (x13_2 + 1)))) = some (r1, r2, r3) := H
       have A11 := Aside0.mk A110
       clear A110
       by_cases c12 : t427 = true
       ·subst c12
        have H1 : (if t426 > x12_2 then (spec_SlowestNumber.l0 k2 a1 a2 t420 t421 x13_2 t426 (wrap64 (x13_2 + 1))) else (spec_SlowestNumber.l0 k2 a1 a2 t420 t421 x11_2 x12_2 (wrap64 (x13_2 + 1)))) = some (r1, r2, r3) := by rw [if_pos rfl] at H; exact H
        clear H
        have H := H1
        clear H1
        by_cases c13 : t426 > x12_2
        ·rw [if_pos c13] at H
         have c13b0 : decide (x12_2 < t426) = true := decide_eq_true c13
         clear c13
         have H' := Aside0.mk H
         clear H
         go_wp2_with (first | ((with_reducible refine gate_callee (f := 243) rfl ?_); refine goesL_ (some 40) rfl rfl Try.func243 (by kernel_rfl) rfl #[.int .i64 x13_2, .int .i64 a1] rfl (by (try simp only [List.map_toArray, List.map_cons, List.map_nil]); first | done | rfl | (simp only [List.length_drop, List.length_take]; rfl)) ?_; (with_reducible refine (spec_dgOf.calls k2 x13_2 a1 t423 _ A10.out).mono ?_); rintro e w14 ⟨v424, rfl, ho0, hb⟩; refine ⟨_, rfl, ?_⟩; have n0_ := Aside0.mk (Kd.R_lower ho0 (below_size (by repeat (first | (with_reducible first | exact HB.out | apply below_alloc | apply pw_below_drewN | apply below_drew1) | exact HB.out)))); have n1_ := Aside0.mk (below_step (by repeat (first | (with_reducible first | exact HB.out | apply below_alloc | apply pw_below_drewN | apply below_drew1) | exact HB.out)) hb); clear HB; have HO425 := n0_; have HB := n1_; clear n0_ n1_; (try clear hb); (try clear hb2); (try clear hk); (try clear hi); (try clear ho0); obtain ⟨Ao15, co15, eo15⟩ := Kd.R_slice HO425.out; subst eo15) | ((with_reducible refine gate_callee (f := 272) rfl ?_); refine goesL_ (some 43) rfl rfl Try.func272 (by kernel_rfl) rfl #[.slice Ao15 t423.length co15, .int .i64 a1, .int .i64 a2] rfl (by (try simp only [List.map_toArray, List.map_cons, List.map_nil]); first | done | rfl | (simp only [List.length_drop, List.length_take]; rfl)) ?_; (with_reducible refine (spec_rvSteps.calls k2 _ _ t423 a1 a2 t426 true _ ?side1 ?side2 A11.out).mono ?_); (case side1 => repeat (first | exact (Kd.R_reads' HO425.out).2.2 | (with_reducible refine Kd.C_alloc ?_ _) | (with_reducible refine Kd.C_drewN ?_ _) | (with_reducible refine Kd.C_drew ?_))); (case side2 => exact (Kd.R_reads' HO425.out).2.1); rintro e w16 ⟨rfl, hb⟩; refine ⟨_, rfl, ?_⟩; have n0_ := Aside0.mk (Kd.R_below (by (with_reducible repeat (first | apply Kd.R_alloc | apply Kd.R_drewN | apply Kd.R_drew)); exact HO425.out) hb); have n1_ := Aside0.mk (below_step (by repeat (first | (with_reducible first | exact HB.out | apply below_alloc | apply pw_below_drewN | apply below_drew1) | exact HB.out)) hb); clear HO425; clear HB; have HO425 := n0_; have HB := n1_; clear n0_ n1_; (try clear hb); (try clear hb2); (try clear hk); (try clear hi)))
         go_roundg k2
         case measure => have := HJ4.out; have := HK2.out; omega
         case rel => exact ⟨(x13_2), (t426), (wrap64 (x13_2 + 1)), (by first | rfl | (simp; done) | (simp [*]; done)), (by first | rfl | (simp; done) | (simp [*]; done)), (by first | rfl | (simp; done) | (simp [*]; done)), H', ⟨by have := HJ4.out; have := HK2.out; omega⟩, ⟨by repeat (first | (with_reducible first | exact HB.out | apply below_alloc | apply pw_below_drewN | apply below_drew1) | exact HB.out)⟩⟩
        ·rw [if_neg c13] at H
         have c13b0 : decide (x12_2 < t426) = false := decide_eq_false c13
         clear c13
         have H' := Aside0.mk H
         clear H
         go_wp2_with (first | ((with_reducible refine gate_callee (f := 243) rfl ?_); refine goesL_ (some 40) rfl rfl Try.func243 (by kernel_rfl) rfl #[.int .i64 x13_2, .int .i64 a1] rfl (by (try simp only [List.map_toArray, List.map_cons, List.map_nil]); first | done | rfl | (simp only [List.length_drop, List.length_take]; rfl)) ?_; (with_reducible refine (spec_dgOf.calls k2 x13_2 a1 t423 _ A10.out).mono ?_); rintro e w17 ⟨v424, rfl, ho0, hb⟩; refine ⟨_, rfl, ?_⟩; have n0_ := Aside0.mk (Kd.R_lower ho0 (below_size (by repeat (first | (with_reducible first | exact HB.out | apply below_alloc | apply pw_below_drewN | apply below_drew1) | exact HB.out)))); have n1_ := Aside0.mk (below_step (by repeat (first | (with_reducible first | exact HB.out | apply below_alloc | apply pw_below_drewN | apply below_drew1) | exact HB.out)) hb); clear HB; have HO425 := n0_; have HB := n1_; clear n0_ n1_; (try clear hb); (try clear hb2); (try clear hk); (try clear hi); (try clear ho0); obtain ⟨Ao18, co18, eo18⟩ := Kd.R_slice HO425.out; subst eo18) | ((with_reducible refine gate_callee (f := 272) rfl ?_); refine goesL_ (some 43) rfl rfl Try.func272 (by kernel_rfl) rfl #[.slice Ao18 t423.length co18, .int .i64 a1, .int .i64 a2] rfl (by (try simp only [List.map_toArray, List.map_cons, List.map_nil]); first | done | rfl | (simp only [List.length_drop, List.length_take]; rfl)) ?_; (with_reducible refine (spec_rvSteps.calls k2 _ _ t423 a1 a2 t426 true _ ?side1 ?side2 A11.out).mono ?_); (case side1 => repeat (first | exact (Kd.R_reads' HO425.out).2.2 | (with_reducible refine Kd.C_alloc ?_ _) | (with_reducible refine Kd.C_drewN ?_ _) | (with_reducible refine Kd.C_drew ?_))); (case side2 => exact (Kd.R_reads' HO425.out).2.1); rintro e w19 ⟨rfl, hb⟩; refine ⟨_, rfl, ?_⟩; have n0_ := Aside0.mk (Kd.R_below (by (with_reducible repeat (first | apply Kd.R_alloc | apply Kd.R_drewN | apply Kd.R_drew)); exact HO425.out) hb); have n1_ := Aside0.mk (below_step (by repeat (first | (with_reducible first | exact HB.out | apply below_alloc | apply pw_below_drewN | apply below_drew1) | exact HB.out)) hb); clear HO425; clear HB; have HO425 := n0_; have HB := n1_; clear n0_ n1_; (try clear hb); (try clear hb2); (try clear hk); (try clear hi)))
         go_roundg k2
         case measure => have := HJ4.out; have := HK2.out; omega
         case rel => exact ⟨(x11_2), (x12_2), (wrap64 (x13_2 + 1)), (by first | rfl | (simp; done) | (simp [*]; done)), (by first | rfl | (simp; done) | (simp [*]; done)), (by first | rfl | (simp; done) | (simp [*]; done)), H', ⟨by have := HJ4.out; have := HK2.out; omega⟩, ⟨by repeat (first | (with_reducible first | exact HB.out | apply below_alloc | apply pw_below_drewN | apply below_drew1) | exact HB.out)⟩⟩
       ·replace c12 := Bool.eq_false_iff.mpr c12
        subst c12
        have H1 : (spec_SlowestNumber.l0 k2 a1 a2 t420 t421 x11_2 x12_2 (wrap64 (x13_2 + 1))) = some (r1, r2, r3) := by rw [if_neg (show ¬ (false = true) by decide)] at H; exact H
        clear H
        have H := H1
        clear H1
        have H' := Aside0.mk H
        clear H
        go_wp2_with (first | ((with_reducible refine gate_callee (f := 243) rfl ?_); refine goesL_ (some 40) rfl rfl Try.func243 (by kernel_rfl) rfl #[.int .i64 x13_2, .int .i64 a1] rfl (by (try simp only [List.map_toArray, List.map_cons, List.map_nil]); first | done | rfl | (simp only [List.length_drop, List.length_take]; rfl)) ?_; (with_reducible refine (spec_dgOf.calls k2 x13_2 a1 t423 _ A10.out).mono ?_); rintro e w20 ⟨v424, rfl, ho0, hb⟩; refine ⟨_, rfl, ?_⟩; have n0_ := Aside0.mk (Kd.R_lower ho0 (below_size (by repeat (first | (with_reducible first | exact HB.out | apply below_alloc | apply pw_below_drewN | apply below_drew1) | exact HB.out)))); have n1_ := Aside0.mk (below_step (by repeat (first | (with_reducible first | exact HB.out | apply below_alloc | apply pw_below_drewN | apply below_drew1) | exact HB.out)) hb); clear HB; have HO425 := n0_; have HB := n1_; clear n0_ n1_; (try clear hb); (try clear hb2); (try clear hk); (try clear hi); (try clear ho0); obtain ⟨Ao21, co21, eo21⟩ := Kd.R_slice HO425.out; subst eo21) | ((with_reducible refine gate_callee (f := 272) rfl ?_); refine goesL_ (some 43) rfl rfl Try.func272 (by kernel_rfl) rfl #[.slice Ao21 t423.length co21, .int .i64 a1, .int .i64 a2] rfl (by (try simp only [List.map_toArray, List.map_cons, List.map_nil]); first | done | rfl | (simp only [List.length_drop, List.length_take]; rfl)) ?_; (with_reducible refine (spec_rvSteps.calls k2 _ _ t423 a1 a2 t426 false _ ?side1 ?side2 A11.out).mono ?_); (case side1 => repeat (first | exact (Kd.R_reads' HO425.out).2.2 | (with_reducible refine Kd.C_alloc ?_ _) | (with_reducible refine Kd.C_drewN ?_ _) | (with_reducible refine Kd.C_drew ?_))); (case side2 => exact (Kd.R_reads' HO425.out).2.1); rintro e w22 ⟨rfl, hb⟩; refine ⟨_, rfl, ?_⟩; have n0_ := Aside0.mk (Kd.R_below (by (with_reducible repeat (first | apply Kd.R_alloc | apply Kd.R_drewN | apply Kd.R_drew)); exact HO425.out) hb); have n1_ := Aside0.mk (below_step (by repeat (first | (with_reducible first | exact HB.out | apply below_alloc | apply pw_below_drewN | apply below_drew1) | exact HB.out)) hb); clear HO425; clear HB; have HO425 := n0_; have HB := n1_; clear n0_ n1_; (try clear hb); (try clear hb2); (try clear hk); (try clear hi)))
        go_roundg k2
        case measure => have := HJ4.out; have := HK2.out; omega
        case rel => exact ⟨(x11_2), (x12_2), (wrap64 (x13_2 + 1)), (by first | rfl | (simp; done) | (simp [*]; done)), (by first | rfl | (simp; done) | (simp [*]; done)), (by first | rfl | (simp; done) | (simp [*]; done)), H', ⟨by have := HJ4.out; have := HK2.out; omega⟩, ⟨by repeat (first | (with_reducible first | exact HB.out | apply below_alloc | apply pw_below_drewN | apply below_drew1) | exact HB.out)⟩⟩
      ·rw [if_neg c9] at H
       have c9b0 : decide (x13_2 < (wrap64 (t420 + t421))) = false := decide_eq_false c9
       clear c9
       by_cases c23 : x12_2 < 0
       ·rw [if_pos c23] at H
        have c23b0 : decide (x12_2 < 0) = true := decide_eq_true c23
        clear c23
        simp only [Option.some.injEq, Prod.mk.injEq] at H
        obtain ⟨rfl, rfl, rfl⟩ := H
        go_wp2
        go_ret3
        exact ⟨by first | rfl | (simp [errW_none, errW_some] <;> rfl) | (simp [*, errW_none, errW_some] <;> rfl), by repeat (first | (with_reducible first | exact HB.out | apply below_alloc | apply pw_below_drewN | apply below_drew1) | exact HB.out)⟩
       ·rw [if_neg c23] at H
        have c23b0 : decide (x12_2 < 0) = false := decide_eq_false c23
        clear c23
        simp only [Option.some.injEq, Prod.mk.injEq] at H
        obtain ⟨rfl, rfl, rfl⟩ := H
        go_wp2
        go_ret3
        exact ⟨by first | rfl | (simp [errW_none, errW_some] <;> rfl) | (simp [*, errW_none, errW_some] <;> rfl), by repeat (first | (with_reducible first | exact HB.out | apply below_alloc | apply pw_below_drewN | apply below_drew1) | exact HB.out)⟩

/-! ### laws_qSum: function 65 -/
def laws_qSum.l0 : Nat → Int → List Int → Int → Int → Option (Int)
 | 0, _, _, _, _ => none
 | k + 1, x3, x6, x7, x8 => if x8 < x7 then (if 0 ≤ x8 then (if x8 < (x6.length : Int) then (laws_qSum.l0 k (wrap64 (x3 + (rd x6 x8))) x6 x7 (wrap64 (x8 + 1))) else (none)) else (none)) else (some x3)
def laws_qSum.f (k : Nat) (l0 : List Int) : Option (Int) := laws_qSum.l0 k 0 l0 (l0.length : Int) 0
theorem laws_qSum.mono_l : ∀ k, (∀ y0 y1 y2 y3, LeO (laws_qSum.l0 k y0 y1 y2 y3) (laws_qSum.l0 (k + 1) y0 y1 y2 y3))
 | 0 => fun _ _ _ _ r h => by simp [laws_qSum.l0] at h
 | k + 1 => by
  have ih0 := laws_qSum.mono_l k
  ·intro y0 y1 y2 y3
   unfold laws_qSum.l0
   repeat' first
   | (with_reducible exact ih0 _ _ _ _)
   | (with_reducible exact LeO.refl _)
   | (with_reducible exact LeO.none _)
   | (with_reducible refine LeO.ite ?_ ?_)
   | (with_reducible refine LeO.bind ?_ (fun _ => ?_))
   | exact ih0 _ _ _ _
   | exact LeO.none _
   | refine LeO.ite ?_ ?_
   | refine LeO.bind ?_ (fun _ => ?_)
theorem laws_qSum.mono : ∀ a0 k, LeO (laws_qSum.f k a0) (laws_qSum.f (k + 1) a0) := by
 intro a0 k
 have ih0 := laws_qSum.mono_l k
 unfold laws_qSum.f
 repeat' first
   | (with_reducible exact ih0 _ _ _ _)
   | (with_reducible exact LeO.refl _)
   | (with_reducible exact LeO.none _)
   | (with_reducible refine LeO.ite ?_ ?_)
   | (with_reducible refine LeO.bind ?_ (fun _ => ?_))
   | exact ih0 _ _ _ _
   | exact LeO.none _
   | refine LeO.ite ?_ ?_
   | refine LeO.bind ?_ (fun _ => ?_)
set_option maxHeartbeats 8000000 in
set_option maxRecDepth 100000 in
theorem laws_qSum.calls (k : Nat) (A0 : Option Addr) (c0 : Nat) (l0 : List Int) (r : Int) (w : World) (hr0 : Kd.C (Kd.int .i64) w A0 l0.length l0) (hc0 : l0.length ≤ c0) (h : laws_qSum.f k l0 = some r) :
  Calls Try.prog 65 #[.slice A0 l0.length c0] w fun e w' => e = .returned (.int .i64 r) ∧ Drawn0 w w' := by
 have HR0 := Aside0.mk hr0
 have HC0 := Aside0.mk hc0
 clear hr0 hc0
 have H : (laws_qSum.l0 k 0 l0 (l0.length : Int) 0) = some r := h
 clear h
 have H' := Aside0.mk H
 clear H
 go_enter Try.func65, Try.ntmps65
 go_wp2
 go_loopg [3, 8] k (fun kq v3 v8 w' => ∃ (x3_1 : Int) (x8_1 : Int), v3 = .int .i64 x3_1 ∧ v8 = .int .i64 x8_1 ∧ Aside0 (laws_qSum.l0 kq x3_1 l0 (l0.length : Int) x8_1 = some r) ∧ Aside0 (kq ≤ k) ∧ Drawn0 w w')
 case atStart => exact ⟨(0), (0), (by first | rfl | (simp; done) | (simp [*]; done)), (by first | rfl | (simp; done) | (simp [*]; done)), H', ⟨Nat.le_refl _⟩, by repeat (first | exact Drawn0.refl _ | apply Drawn0.step)⟩
 case round =>
  as_aux_lemma =>
  clear H'
  obtain ⟨x3_1, x8_1, rfl, rfl, HA, HK1, ⟨m1, rfl⟩⟩ := hrel
  cases gk with
  | zero => exact absurd HA.out (by simp [laws_qSum.l0])
  | succ k1 =>
   have H := HA.out
   clear HA
   simp only [laws_qSum.l0] at H
   by_cases c2 : x8_1 < (l0.length : Int)
   ·rw [if_pos c2] at H
    have c2b0 : decide (x8_1 < (l0.length : Int)) = true := decide_eq_true c2
    clear c2
    by_cases c3 : 0 ≤ x8_1
    ·rw [if_pos c3] at H
     have c3b0 : decide (0 ≤ x8_1) = true := decide_eq_true c3
     clear c3
     by_cases c4 : x8_1 < (l0.length : Int)
     ·rw [if_pos c4] at H
      have c4b0 : decide (x8_1 < (l0.length : Int)) = true := decide_eq_true c4
      clear c4
      have H' := Aside0.mk H
      clear H
      have p428 : 0 ≤ (x8_1 : Int) := of_decide_eq_true (by first | (with_reducible assumption) | assumption)
      have q428 : x8_1 < (l0.length : Int) := of_decide_eq_true (by first | (with_reducible assumption) | assumption)
      obtain ⟨ad428, e428, hx428_0⟩ := Kd.at_int HR0.out x8_1 p428 q428
      cases e428
      replace p428 := eq_true p428
      replace q428 := eq_true q428
      go_wp2
      go_roundg k1
      case measure => have := HK1.out; omega
      case rel => exact ⟨(wrap64 (x3_1 + (rd l0 x8_1))), (wrap64 (x8_1 + 1)), (by first | rfl | (simp; done) | (simp [*]; done)), (by first | rfl | (simp; done) | (simp [*]; done)), H', ⟨by have := HK1.out; omega⟩, by repeat (first | exact Drawn0.refl _ | apply Drawn0.step)⟩
     ·rw [if_neg c4] at H
      exact absurd H (by simp)
    ·rw [if_neg c3] at H
     exact absurd H (by simp)
   ·rw [if_neg c2] at H
    have c2b0 : decide (x8_1 < (l0.length : Int)) = false := decide_eq_false c2
    clear c2
    obtain rfl := Option.some.inj H
    go_wp2
    go_ret
    exact ⟨by first | rfl | (simp; done) | (simp [*]; done), by repeat (first | exact Drawn0.refl _ | apply Drawn0.step)⟩

/-! ### spec_DrawNeverWord: function 110 -/
def spec_DrawNeverWord.f (l0 : List Int) : Option (Int) := (spec_l1Cur_pick.f l0 0 0 20).bind fun bt430 => (some bt430.1)
set_option maxHeartbeats 8000000 in
set_option maxRecDepth 100000 in
theorem spec_DrawNeverWord.calls (A0 : Option Addr) (c0 : Nat) (l0 : List Int) (r : Int) (w : World) (hr0 : Kd.C (Kd.int .u8) w A0 l0.length l0) (hc0 : l0.length ≤ c0) (h : spec_DrawNeverWord.f l0 = some r) :
  Calls Try.prog 110 #[.slice A0 l0.length c0] w fun e w' => e = .returned (.int .i64 r) ∧ Below w.heap.size w w' := by
 have hu76 := Try.underlying76
 have HR0 := Aside0.mk hr0
 have HC0 := Aside0.mk hc0
 clear hr0 hc0
 have HB := Aside0.mk (Below.refl w.heap.size w)
 have H : ((spec_l1Cur_pick.f l0 0 0 20).bind fun bt430 => (some bt430.1)) = some r := h
 clear h
 replace H := Option.bind_eq_some_iff.mp H
 obtain ⟨⟨t430, t431, t432⟩, A20, H⟩ := H
 replace H : (some t430) = some r := H
 have A2 := Aside0.mk A20
 clear A20
 obtain rfl := Option.some.inj H
 go_enter Try.func110, Try.ntmps110
 go_wp2_with (first | ((with_reducible refine gate_dst (N := 6) rfl ?_); refine box_event ?hg (N := 6) ?hd (cs := #[.slice A0 l0.length c0, .int .i64 0, .int .u64 0]) (t := 76) ?hr ?_; (case hd => rfl); (case hg => rfl); (case hr => first | (go_simp; done) | (go_simp; rfl)); intro gb429 hg w3 hbox hb; have n0_ := Aside0.mk (below_step (by repeat (first | (with_reducible first | exact HB.out | apply below_alloc | apply pw_below_drewN | apply below_drew1) | exact HB.out)) hb); have n1_ := Aside0.mk (hbox); have n2_ := Aside0.mk ((by rw [hg]; exact (below_size (by repeat (first | (with_reducible first | exact HB.out | apply below_alloc | apply pw_below_drewN | apply below_drew1) | exact HB.out))) : w.heap.size ≤ gb429)); have n3_ := Aside0.mk ((by rw [hg]; exact (below_size (by repeat (first | (with_reducible first | exact HB.out | apply below_alloc | apply pw_below_drewN | apply below_drew1) | exact HB.out))) : w.heap.size ≤ gb429)); clear HB; have HB := n0_; have BK429 := n1_; have GW429 := n2_; have GE429 := n3_; clear n0_ n1_ n2_ n3_; clear hb hbox hg; have HI429 := Aside0.mk (show IsS76 w w3 gb429 l0 0 0 from ⟨A0, c0, BK429.out, GE429.out, HR0.out⟩); clear BK429) | ((with_reducible refine gate_callee (f := 194) rfl ?_); refine goesL_ (some 8) rfl rfl Try.func194 (by kernel_rfl) rfl #[.pointer (some ⟨gb429, 0, none⟩), .int .i64 20] rfl (by (try simp only [List.map_toArray, List.map_cons, List.map_nil]); first | done | rfl | (simp only [List.length_drop, List.length_take]; rfl)) ?_; (with_reducible refine (spec_l1Cur_pick.calls gb429 l0 0 0 20 t430 t431 t432 w _ ?side1 ?side2 A2.out).mono ?_); (case side1 => repeat (first | (with_reducible first | exact HI429.out | apply IsS76.alloc | apply IsS76.drewN | apply IsS76.drew | apply IsS76.set_1 | apply IsS76.set_2) | exact HI429.out)); (case side2 => repeat (first | (with_reducible first | exact HB.out | apply below_alloc | apply pw_below_drewN | apply below_drew1 | refine below_set ?_ (IsS76.ge HI429.out)) | exact HB.out)); rintro e w4 ⟨rfl, hi, hb, hk⟩; refine ⟨_, rfl, ?_⟩; have n0_ := Aside0.mk (hb); have n1_ := Aside0.mk (hi); clear HB; clear HI429; have HB := n0_; have HI429 := n1_; clear n0_ n1_; (try clear hb); (try clear hb2); (try clear hk); (try clear hi)))
 go_ret
 exact ⟨by first | rfl | (simp [errW_none, errW_some] <;> rfl) | (simp [*, errW_none, errW_some] <;> rfl), by repeat (first | (with_reducible first | exact HB.out | apply below_alloc | apply pw_below_drewN | apply below_drew1 | refine below_set ?_ (IsS76.ge HI429.out)) | exact HB.out)⟩

/-! ### bits_Mul64: function 383 -/
def bits_Mul64.f (a0 : Int) (a1 : Int) : Option (Int × Int) := some (IntKind.u64.wrap ((IntKind.u64.wrap ((IntKind.u64.wrap ((a0 / 4294967296) * (a1 / 4294967296))) + ((IntKind.u64.wrap ((IntKind.u64.wrap ((a0 / 4294967296) * (Go.bits .and .u64 a1 4294967295))) + ((IntKind.u64.wrap ((Go.bits .and .u64 a0 4294967295) * (Go.bits .and .u64 a1 4294967295))) / 4294967296))) / 4294967296))) + ((IntKind.u64.wrap ((Go.bits .and .u64 (IntKind.u64.wrap ((IntKind.u64.wrap ((a0 / 4294967296) * (Go.bits .and .u64 a1 4294967295))) + ((IntKind.u64.wrap ((Go.bits .and .u64 a0 4294967295) * (Go.bits .and .u64 a1 4294967295))) / 4294967296))) 4294967295) + (IntKind.u64.wrap ((Go.bits .and .u64 a0 4294967295) * (a1 / 4294967296))))) / 4294967296)), IntKind.u64.wrap (a0 * a1))
set_option maxHeartbeats 8000000 in
set_option maxRecDepth 100000 in
theorem bits_Mul64.calls (a0 : Int) (a1 : Int) (r1 : Int) (r2 : Int) (w : World) (h : bits_Mul64.f a0 a1 = some (r1, r2)) :
  Calls Try.prog 383 #[.int .u64 a0, .int .u64 a1] w fun e w' => e = .returned (.tuple #[.int .u64 r1, .int .u64 r2]) ∧ Drawn0 w w' := by
 have H : (some (IntKind.u64.wrap ((IntKind.u64.wrap ((IntKind.u64.wrap ((a0 / 4294967296) * (a1 / 4294967296))) + ((IntKind.u64.wrap ((IntKind.u64.wrap ((a0 / 4294967296) * (Go.bits .and .u64 a1 4294967295))) + ((IntKind.u64.wrap ((Go.bits .and .u64 a0 4294967295) * (Go.bits .and .u64 a1 4294967295))) / 4294967296))) / 4294967296))) + ((IntKind.u64.wrap ((Go.bits .and .u64 (IntKind.u64.wrap ((IntKind.u64.wrap ((a0 / 4294967296) * (Go.bits .and .u64 a1 4294967295))) + ((IntKind.u64.wrap ((Go.bits .and .u64 a0 4294967295) * (Go.bits .and .u64 a1 4294967295))) / 4294967296))) 4294967295) + (IntKind.u64.wrap ((Go.bits .and .u64 a0 4294967295) * (a1 / 4294967296))))) / 4294967296)), IntKind.u64.wrap (a0 * a1))) = some (r1, r2) := h
 clear h
 simp only [Option.some.injEq, Prod.mk.injEq] at H
 obtain ⟨rfl, rfl⟩ := H
 go_enter Try.func383, Try.ntmps383
 go_wp2
 go_ret2
 exact ⟨by first | rfl | (simp; done) | (simp [*]; done), by repeat (first | exact Drawn0.refl _ | apply Drawn0.step)⟩

/-! ### bits_Mul32: function 382 -/
def bits_Mul32.f (a0 : Int) (a1 : Int) : Option (Int × Int) := some (((IntKind.u64.wrap ((IntKind.u64.wrap (a0)) * (IntKind.u64.wrap (a1)))) / 4294967296) % 4294967296, (IntKind.u64.wrap ((IntKind.u64.wrap (a0)) * (IntKind.u64.wrap (a1)))) % 4294967296)
set_option maxHeartbeats 8000000 in
set_option maxRecDepth 100000 in
theorem bits_Mul32.calls (a0 : Int) (a1 : Int) (r1 : Int) (r2 : Int) (w : World) (h : bits_Mul32.f a0 a1 = some (r1, r2)) :
  Calls Try.prog 382 #[.int .u32 a0, .int .u32 a1] w fun e w' => e = .returned (.tuple #[.int .u32 r1, .int .u32 r2]) ∧ Drawn0 w w' := by
 have H : (some (((IntKind.u64.wrap ((IntKind.u64.wrap (a0)) * (IntKind.u64.wrap (a1)))) / 4294967296) % 4294967296, (IntKind.u64.wrap ((IntKind.u64.wrap (a0)) * (IntKind.u64.wrap (a1)))) % 4294967296)) = some (r1, r2) := h
 clear h
 simp only [Option.some.injEq, Prod.mk.injEq] at H
 obtain ⟨rfl, rfl⟩ := H
 go_enter Try.func382, Try.ntmps382
 go_wp2
 go_ret2
 exact ⟨by first | rfl | (simp; done) | (simp [*]; done), by repeat (first | exact Drawn0.refl _ | apply Drawn0.step)⟩

/-! ### bits_Mul: function 357 -/
def bits_Mul.f (a0 : Int) (a1 : Int) : Option (Int × Int) := (bits_Mul64.f a0 a1).bind fun bt433 => (some (bt433.1, bt433.2))
set_option maxHeartbeats 8000000 in
set_option maxRecDepth 100000 in
theorem bits_Mul.calls (a0 : Int) (a1 : Int) (r1 : Int) (r2 : Int) (w : World) (h : bits_Mul.f a0 a1 = some (r1, r2)) :
  Calls Try.prog 357 #[.int .u64 a0, .int .u64 a1] w fun e w' => e = .returned (.tuple #[.int .u64 r1, .int .u64 r2]) ∧ Drawn0 w w' := by
 have H : ((bits_Mul64.f a0 a1).bind fun bt433 => (some (bt433.1, bt433.2))) = some (r1, r2) := h
 clear h
 replace H := Option.bind_eq_some_iff.mp H
 obtain ⟨⟨t433, t434⟩, A30, H⟩ := H
 replace H : (some (t433, t434)) = some (r1, r2) := H
 have A3 := Aside0.mk A30
 clear A30
 simp only [Option.some.injEq, Prod.mk.injEq] at H
 obtain ⟨rfl, rfl⟩ := H
 go_enter Try.func357, Try.ntmps357
 go_wp2_with (first | ((with_reducible refine gate_callee (f := 383) rfl ?_); refine goesL_ (some 25) rfl rfl Try.func383 (by kernel_rfl) rfl #[.int .u64 a0, .int .u64 a1] rfl (by (try simp only [List.map_toArray, List.map_cons, List.map_nil]); first | done | rfl | (simp only [List.length_drop, List.length_take]; rfl)) ?_; (with_reducible refine (bits_Mul64.calls a0 a1 t433 t434 _ A3.out).mono ?_); rintro e w' ⟨rfl, ⟨nd, rfl⟩⟩; refine ⟨_, rfl, ?_⟩))
 go_ret2
 exact ⟨by first | rfl | (simp; done) | (simp [*]; done), by repeat (first | exact Drawn0.refl _ | apply Drawn0.step)⟩

/-! ### slices_Repeat_int_int: function 211 -/
def slices_Repeat_int_int.f (l0 : List Int) (a1 : Int) : Option (List Int) := if l0.length = 1 then if 0 ≤ a1 ∧ a1 ≤ 1000000000 then some (List.replicate a1.toNat (rd l0 0)) else none else none
theorem slices_Repeat_int_int.mul (m : Nat) (h : m ≤ 1000000000) : bits_Mul.f 1 (m : Int) = some (0, (m : Int)) := by
 have e1 : Go.bits .and .u64 (1 : Int) 4294967295 = 1 := by decide
 have e2 : (1 : Int) / 4294967296 = 0 := by decide
 have e3 : Go.bits .and .u64 (m : Int) 4294967295 = (m : Int) := by rw [Go.Proofs.Mul64.maskN m (by omega)]; omega
 have e4 : (m : Int) / 4294967296 = 0 := by omega
 have e5 : IntKind.u64.wrap (m : Int) = (m : Int) := by rw [IntKind.wrap_u64]; omega
 have e6 : IntKind.u64.wrap 0 = 0 := by decide
 have e7 : Go.bits .and .u64 (0 : Int) 4294967295 = 0 := by decide
 simp only [bits_Mul.f, bits_Mul64.f, Option.bind_some, e1, e2, e3, e4, e5, e6, e7, Int.one_mul, Int.zero_mul, Int.mul_zero, Int.zero_add, Int.add_zero, Int.zero_ediv]
theorem slices_Repeat_int_int.cells (x : Int) (n : Nat) (cur : List Value) (h : cur.take n = List.replicate n (.int .i64 x)) (k : Nat) :
  (splice cur n (List.replicate k (.int .i64 x))).take (n + k) = List.replicate (n + k) (.int .i64 x) := by
 unfold splice
 rw [h, ← List.append_assoc, List.replicate_append_replicate, List.take_append_of_le_length (by simp)]
 simp
theorem slices_Repeat_int_int.made {w1 : World} {base B m : Nat} {v : Value} (h : Kd.R (Kd.int .i64) 3 w1 base (fun _ => True) v (List.replicate m 0)) (hb : ∃ b, v.ownBlock = some b ∧ B ≤ b) :
  ∃ (g cap : Nat) (cur : List Value), v = .slice (some ⟨g, 0, none⟩) m cap ∧ B ≤ g ∧ w1.heap[g]? = some (.cells cur.toArray 3 (0, 0)) ∧ m ≤ cap ∧ cap ≤ maxLen ∧ cur.length = cap := by
 obtain ⟨inner, h1, h2⟩ := Kd.R_own h
 obtain ⟨b, hb1, hb2⟩ := hb
 rcases h2 with ⟨rfl, _⟩ | ⟨g, cap, cur, rfl, h3, h4, h5, h6, h7, h8⟩
 ·simp [Value.ownBlock] at hb1
 ·refine ⟨g, cap, cur.toList, by simp, ?_, by simpa using h4, by simpa using h5, h6, ?_⟩
  ·simp [Value.ownBlock] at hb1
   omega
  ·have : cur.size = cap * 1 := h7
   simpa using this
theorem slices_Repeat_int_int.fin {w1 : World} {base g m cap : Nat} {cur : List Value} {x : Int} (hg : base ≤ g) (h1 : w1.heap[g]? = some (.cells cur.toArray 3 (0, 0))) (h2 : m ≤ cap) (h3 : cap ≤ maxLen) (h4 : cur.length = cap) (h5 : cur.take m = List.replicate m (.int .i64 x)) :
  Kd.R (Kd.int .i64) 3 w1 base (fun _ => True) (.slice (some ⟨g, 0, none⟩) m cap) (List.replicate m x) := by
 refine Kd.R_of_own ⟨by simp [encs], Or.inr ⟨g, cap, cur.toArray, by simp, hg, h1, by simpa using h2, h3, by simp [h4], ?_⟩⟩ (fun _ _ => trivial)
 simp [encs, h5]
set_option maxHeartbeats 2000000 in
set_option maxRecDepth 100000 in
theorem slices_Repeat_int_int.calls (A0 : Option Addr) (c0 : Nat) (l0 : List Int) (a1 : Int) (r : List Int) (w : World) (hr0 : Kd.C (Kd.int .i64) w A0 l0.length l0) (hc0 : l0.length ≤ c0) (h : slices_Repeat_int_int.f l0 a1 = some r) :
  Calls Try.prog 211 #[.slice A0 l0.length c0, .int .i64 a1] w fun e w' => ∃ v0_ : Value, e = .returned (v0_) ∧ Kd.R (Kd.int .i64) 3 w' w.heap.size (fun _ => True) v0_ r ∧ Below w.heap.size w w' := by
 unfold slices_Repeat_int_int.f at h
 by_cases h1 : l0.length = 1
 ·rw [if_pos h1] at h
  by_cases h2 : 0 ≤ a1 ∧ a1 ≤ 1000000000
  ·rw [if_pos h2] at h
   obtain rfl := Option.some.inj h
   obtain ⟨m, rfl⟩ := Int.eq_ofNat_of_zero_le h2.1
   obtain ⟨ad, rfl, hx⟩ := Kd.at_int hr0 0 (by omega) (by omega)
   generalize rd l0 0 = x at hx ⊢
   rw [h1]
   have hmul := fun W => bits_Mul.calls 1 (m : Int) 0 (m : Int) W (slices_Repeat_int_int.mul m (by omega))
   change ∀ W, Calls Try.prog 357 _ _ _ at hmul
   have hw : IntKind.u64.wrap (m : Int) = (m : Int) := by rw [IntKind.wrap_u64]; omega
   have hw2 : IntKind.u64.wrap 1 = 1 := by decide
   have hw3 : wrap64 (m : Int) = (m : Int) := by unfold wrap64; omega
   have hm0 : decide ((m : Int) < 0) = false := decide_eq_false (by omega)
   have hm1 : decide ((m : Int) > 9223372036854775807) = false := decide_eq_false (by omega)
   clear hr0 hc0 h h1
   obtain ⟨q1, hq1, hq2, hq3, hq4⟩ : ∃ q1 : Nat, q1 = Nat.min 1 m ∧ q1 ≤ 1 ∧ q1 ≤ m ∧ (m = 0 ∨ q1 = 1) := ⟨_, rfl, Nat.min_le_left _ _, Nat.min_le_right _ _, by have : Nat.min 1 m = if 1 ≤ m then 1 else m := rfl; rw [this]; split <;> omega⟩
   have HB := Aside0.mk (Below.refl w.heap.size w)
   go_enter Try.func211, Try.ntmps211
   go_wp2_with (first
    | (go_at_call 357; (try simp only [hw, hw2]); refine (hmul _).mono ?_; rintro e w' ⟨rfl, ⟨q, rfl⟩⟩)
    | ((with_reducible refine gate_dst (N := 30) rfl ?_); refine Kd.R_make (Kd.int .i64) w.heap.size 3 rfl (N := 30) rfl 29 _ _ rfl (m : Int) rfl rfl Try.underlying29 (.int .i64 0) 8 info3 rfl (by decide) (by omega) 0 (ok := fun _ => True) (okp := fun _ => True) rfl (fun _ hk => hk) trivial (by omega) (by omega) (pw_below_drewN HB.out _) (Nat.le_refl _) ?_; intro v6 w6 ho6 hb6 hg6 hn6; clear hg6; obtain ⟨g, cap, cur, rfl, hBg, hcl, hmc, hcm, hlen⟩ := slices_Repeat_int_int.made (m := m) ho6 hn6; clear ho6 hn6)
    | ((with_reducible refine gate_builtin (b := .copy) (xs := #[.tmp 31, .tmp 32]) rfl ?_); refine wpList_copy_splice rfl (.tmp 31) (.tmp 32) 29 29 rfl 3 Try.underlying29 (by kernel_rfl) (some ⟨g, 0, none⟩) (some ad) m cap 1 c0 rfl rfl g 0 cur 3 hcl (List.replicate q1 (.int .i64 x)) (by rw [List.length_replicate]; exact hq1) ?hp (by rw [List.length_replicate]; omega) (by intro v hv; rw [List.eq_of_mem_replicate hv]; rfl) w.heap.size w hb6 hBg ?_; (case hp => exact (fun _ => ⟨rfl, ad, rfl, fun j v hj => by have hlt := (List.getElem?_eq_some_iff.1 hj).1; have hj0 : j = 0 := (by simp at hlt; omega); subst hj0; have h9 := (List.getElem?_eq_some_iff.1 hj).2; rw [List.getElem_replicate] at h9; subst h9; exact (Below.cell hb6 (World.block_lt_of_cell? w _ hx)).trans hx⟩)); intro w7 hc7 hb7))
   have hone := slices_Repeat_int_int.cells x 0 cur (by simp) q1
   have hls := length_splice cur 0 (List.replicate q1 (.int .i64 x)) (by rw [List.length_replicate]; omega)
   go_loopw [8] (fun v wr => ∃ (n : Nat) (cu : List Value), v = .int .i64 n ∧ n ≤ m ∧ (1 ≤ n ∨ m = 0) ∧ wr.heap[g]? = some (.cells cu.toArray 3 (0, 0)) ∧ cu.length = cap ∧ cu.take n = List.replicate n (.int .i64 x) ∧ Below w.heap.size w wr) (fun v _ => m - (intOf v).toNat)
   case atStart => exact ⟨q1, _, by rw [hq1], hq3, by omega, hc7, by rw [hls]; exact hlen, by simpa using hone, hb7⟩
   case round =>
    obtain ⟨n, cu, rfl, hnm, hn1, hcc, hcl2, htk, hb8⟩ := hrel
    by_cases hlt : n < m
    ·have hd0 : decide ((n : Int) < (m : Int)) = true := decide_eq_true (by omega)
     have hcn : ¬ cap = n := by omega
     have hn3 : (n : Int) ≤ (m : Int) := by omega
     have hn4 : (n : Int) ≤ (cap : Int) := by omega
     obtain ⟨q2, hq5, hq6, hq7, hq8⟩ : ∃ q2 : Nat, q2 = Nat.min n (m - n) ∧ q2 ≤ n ∧ q2 ≤ m - n ∧ 1 ≤ q2 := ⟨_, rfl, Nat.min_le_left _ _, Nat.min_le_right _ _, by have : Nat.min n (m - n) = if n ≤ m - n then n else m - n := rfl; rw [this]; split <;> omega⟩
     have hfA : n + q2 ≤ m := by omega
     have hfB : 1 ≤ n + q2 := by omega
     have hfC : m - (n + q2) < m - n := by omega
     have hfD := (length_splice cu n (List.replicate q2 (Value.int .i64 x)) (by rw [List.length_replicate]; omega)).trans hcl2
     have hfE := slices_Repeat_int_int.cells x n cu htk q2
     have HWR := Aside0.mk (show wrap64 ((n : Int) + (q2 : Int)) = ((n + q2 : Nat) : Int) by unfold wrap64; omega)
     have HQ5 := Aside0.mk hq5
     clear hq5
     go_wp2
     obtain ⟨i03, hi03, _, hsz3, _⟩ := info_parts info3
     have hcutA := cut_from (P := Try.prog) 29 3 .i64 Try.underlying29 hi03 1 hsz3 (some ⟨g, 0, none⟩) m cap (n : Int) (by omega) (by omega)
     have hcutB := cut_to (P := Try.prog) 29 3 .i64 Try.underlying29 hi03 (some ⟨g, 0, none⟩) m cap (n : Int) (by omega) (by omega) hmc
     rw [Int.toNat_natCast, if_neg hcn, Nat.mul_one, Option.map_some] at hcutA
     rw [Int.toNat_natCast] at hcutB
     have hadd : (⟨g, 0, none⟩ : Addr).add n = ⟨g, n, none⟩ := by
      unfold Addr.add
      split
      ·rename_i h0
       rw [h0]
      ·simp
     rw [hadd] at hcutA
     clear hi03 hsz3 hmul hcl hc7 hone hls hx hm0 hm1 hw hw2 hq1
     refine start_ (n := 10) (S := fun w' => True) (ds := []) #[false, false, false, false, false, false, false, false, false, false] (by kernel_rfl) rfl rfl trivial (fun hHeld => ?_)
     have hcc : wr.drew.heap[g]? = some (.cells cu.toArray 3 (0, 0)) := hcc
     have hb8 : Below w.heap.size w wr.drew := below_drew1 hb8
     generalize wr.drew = w27 at hcc hb8 hHeld ⊢
     refine pure_ (i := 0) (N := some 38) (v := ?_) (a' := ?_) #[true, false, false, false, false, false, false, false, false, false] rfl rfl (by kernel_rfl) (fun _ _ _ h => h) (Or.inl ⟨by rfl, ?_⟩) ?_ ?_
     rotate_left
     ·intro w'
      go_simp
      with_reducible rfl
     rotate_left
     ·simp only [Act.put, List.setIfInBounds_toArray, List.set_cons_zero, List.set_cons_succ, i64_w, i32_w]
      rfl
     refine pure_ (i := 1) (N := some 39) (v := ?_) (a' := ?_) #[true, true, false, false, false, false, false, false, false, false] rfl rfl (by kernel_rfl) (fun _ _ _ h => h) (Or.inl ⟨by rfl, ?_⟩) ?_ ?_
     rotate_left
     ·intro w'
      go_simp
      with_reducible rfl
     rotate_left
     ·simp only [Act.put, List.setIfInBounds_toArray, List.set_cons_zero, List.set_cons_succ, i64_w, i32_w]
      rfl
     refine pure_ (i := 2) (N := some 40) (v := ?_) (a' := ?_) #[true, true, true, false, false, false, false, false, false, false] rfl rfl (by kernel_rfl) (fun _ _ _ h => h) (Or.inl ⟨by rfl, ?_⟩) ?_ ?_
     rotate_left
     ·intro w'
      go_simp
      with_reducible rfl
     rotate_left
     ·simp only [Act.put, List.setIfInBounds_toArray, List.set_cons_zero, List.set_cons_succ, i64_w, i32_w]
      rfl
     refine pure_ (i := 3) (N := some 41) (v := ?_) (a' := ?_) #[true, true, true, true, false, false, false, false, false, false] rfl rfl (by kernel_rfl) (fun _ _ _ h => h) (Or.inl ⟨by rfl, ?_⟩) ?_ ?_
     rotate_left
     ·intro w'
      go_simp
      with_reducible rfl
     rotate_left
     ·simp only [Act.put, List.setIfInBounds_toArray, List.set_cons_zero, List.set_cons_succ, i64_w, i32_w]
      rfl
     refine pure_ (i := 4) (N := some 42) (v := ?_) (a' := ?_) #[true, true, true, true, true, false, false, false, false, false] rfl rfl (by kernel_rfl) (fun _ _ _ h => h) (Or.inl ⟨by rfl, ?_⟩) ?_ ?_
     rotate_left
     ·intro w'
      go_simp
      with_reducible rfl
     rotate_left
     ·simp only [Act.put, List.setIfInBounds_toArray, List.set_cons_zero, List.set_cons_succ, i64_w, i32_w]
      rfl
     refine pure_ (i := 5) (N := some 43) (v := ?_) (a' := ?_) #[true, true, true, true, true, true, false, false, false, false] rfl rfl (by kernel_rfl) (fun _ _ _ h => h) (Or.inl ⟨by rfl, ?_⟩) ?_ ?_
     rotate_left
     ·intro w'
      go_simp
      with_reducible rfl
     rotate_left
     ·simp only [Act.put, List.setIfInBounds_toArray, List.set_cons_zero, List.set_cons_succ, i64_w, i32_w]
      rfl
     refine pure_ (i := 6) (N := some 44) (v := ?_) (a' := ?_) #[true, true, true, true, true, true, true, false, false, false] rfl rfl (by kernel_rfl) (fun _ _ _ h => h) (Or.inl ⟨by rfl, ?_⟩) ?_ ?_
     rotate_left
     ·intro w'
      go_simp
      with_reducible rfl
     rotate_left
     ·simp only [Act.put, List.setIfInBounds_toArray, List.set_cons_zero, List.set_cons_succ, i64_w, i32_w]
      rfl
     refine one_ (i := 7) (N := some 45) #[true, true, true, true, true, true, true, true, false, false] rfl rfl (by kernel_rfl) (by decide) (fun K hK => ?_)
     refine step_copy_splice rfl (.tmp 41) (.tmp 44) 29 29 rfl 3 Try.underlying29 (by kernel_rfl) (some ⟨g, n, none⟩) (some ⟨g, 0, none⟩) (m - n) (cap - n) n cap rfl rfl g n cu 3 hcc (List.replicate q2 (.int .i64 x)) (by rw [List.length_replicate]; exact HQ5.out) ?hp (by rw [List.length_replicate]; omega) (by intro v hv; rw [List.eq_of_mem_replicate hv]; rfl) w.heap.size w hb8 hBg ?_
     case hp =>
      intro _
      refine ⟨rfl, _, rfl, fun j v hj => ?_⟩
      have hjl := (List.getElem?_eq_some_iff.1 hj).1
      have hjv := (List.getElem?_eq_some_iff.1 hj).2
      rw [List.getElem_replicate] at hjv
      subst hjv
      rw [List.length_replicate] at hjl
      have hcj : cu[j]? = some (.int .i64 x) := by
       have h7 : (cu.take n)[j]? = cu[j]? := by rw [List.getElem?_take, if_pos (by omega)]
       rw [← h7, htk, List.getElem?_replicate, if_pos (by omega)]
      have hadj : (⟨g, 0, none⟩ : Addr).add j = ⟨g, j, none⟩ := by
       unfold Addr.add
       split
       ·rename_i h0
        rw [h0]
       ·simp
      rw [hadj]
      simp [World.cell?, hcc, hcj]
     intro w8 hc8 hb9
     refine hK.out _ _ trivial (fun hHeld => ?_)
     clear hK K
     rw [List.length_replicate]
     refine norm_ (a' := ?_) ?_ ?_
     rotate_left
     ·show Act.put _ (some 45) _ = _
      simp only [Act.put, List.setIfInBounds_toArray, List.set_cons_zero, List.set_cons_succ, i64_w, i32_w]
      rfl
     refine pure_ (i := 8) (N := some 46) (v := ?_) (a' := ?_) #[true, true, true, true, true, true, true, true, true, false] rfl rfl (by kernel_rfl) (fun _ _ _ h => h) (Or.inl ⟨by rfl, ?_⟩) ?_ ?_
     rotate_left
     ·intro w'
      go_simp
      with_reducible rfl
     rotate_left
     ·simp only [Act.put, List.setIfInBounds_toArray, List.set_cons_zero, List.set_cons_succ, i64_w, i32_w]
      rfl
     refine pure_ (i := 9) (N := some 8) (v := ?_) (a' := ?_) #[true, true, true, true, true, true, true, true, true, true] rfl rfl (by kernel_rfl) (fun _ _ _ h => h) (Or.inl ⟨by rfl, ?_⟩) ?_ ?_
     rotate_left
     ·intro w'
      go_simp
      with_reducible rfl
     rotate_left
     ·simp only [Act.put, List.setIfInBounds_toArray, List.set_cons_zero, List.set_cons_succ, i64_w, i32_w]
      rfl
     refine done_ (by kernel_rfl) ?_
     try go_wp2
     go_roundw
     case rel => exact ⟨n + q2, _, by rw [HWR.out], hfA, Or.inl hfB, hc8, hfD, hfE, hb9⟩
     case measure => rw [HWR.out]; exact hfC
    ·have hd0 : decide ((n : Int) < (m : Int)) = false := decide_eq_false (by omega)
     have hnm2 : n = m := by omega
     go_wp2
     go_ret
     exact ⟨_, rfl, slices_Repeat_int_int.fin hBg hcc hmc hcm hcl2 (by rw [← hnm2]; exact htk), hb8⟩
  ·rw [if_neg h2] at h
   exact absurd h (by simp)
 ·rw [if_neg h1] at h
  exact absurd h (by simp)

/-! ### slices_Concat_int_int: function 278 -/
theorem slices_Concat_int_int.row {w : World} {A0 : Option Addr} {n : Nat} {ls : List (List Int)} (h : Kd.C (Kd.slice 3 (Kd.int .i64)) w A0 n ls) (k : Nat) (hk : k < ls.length) (hn : n = ls.length) :
  ∃ ad A c, A0 = some ad ∧ w.cell? (ad.add k) = some (.slice A (ls.getD k []).length c) ∧ (ls.getD k []).length ≤ c ∧ Kd.C (Kd.int .i64) w A (ls.getD k []).length (ls.getD k []) := by
 subst hn
 obtain ⟨ad, c, h1, h2, h3, h4⟩ := Kd.C_get h [] (k : Int) (by omega) (by omega)
 rw [Int.toNat_natCast] at h3 h4
 obtain ⟨A, cc, rfl, h5, h6⟩ := h3
 refine ⟨ad, A, cc, h1, ?_, h5, h6⟩
 have := h4 0 _ rfl
 rwa [show k * (Kd.slice 3 (Kd.int .i64)).sz + 0 = k from by show k * 1 + 0 = k; omega] at this
set_option maxHeartbeats 2000000 in
set_option maxRecDepth 100000 in
theorem slices_Concat_int_int.grow (m : Nat) (hm : m < 17592186044416) (w : World) :
  Calls Try.prog 368 #[.slice none 0 0, .int .i64 (m : Int)] w fun e w' => ∃ v0_ : Value, e = .returned (v0_) ∧ Kd.R (Kd.int .i64) 3 w' w.heap.size (fun _ => True) v0_ [] ∧ Below w.heap.size w w' := by
 have hd0 : decide ((m : Int) < 0) = false := decide_eq_false (by omega)
 have HB := Aside0.mk (Below.refl w.heap.size w)
 by_cases h0 : 0 < m
 ·have hd1 : decide ((m : Int) > 0) = true := decide_eq_true (by omega)
  have hcut : ∀ W : World, (Instr.slice 29 (.slice none 0 0) none (some (.int .i64 0)) none).run Try.prog W = .ok (.slice none 0 0) W := by
   obtain ⟨i0, hi0, _⟩ := Option.map_eq_some_iff.1 info3
   exact cut_to 29 3 .i64 Try.underlying29 hi0 none 0 0 0 (by omega) (by omega) (by omega)
  have hw1 : wrap64 ((m : Int) - 0) = (m : Int) := by unfold wrap64; omega
  go_enter Try.func368, Try.ntmps368
  go_wp2_with ((with_reducible refine gate_builtin (b := .append) (xs := #[.tmp 20, .tmp 21]) rfl ?_); at_builtin; (refine Kd.R_append_zeros (Kd.int .i64) (w0 := w) w.heap.size rfl (.tmp 20) (.tmp 21) 29 3 3 (.int .i64 0) 8 rfl Try.underlying29 Try.underlying3 info3 rfl (by decide) (by omega) (.slice none 0 0) [] 0 (m : Int) (fun _ => True) rfl rfl rfl (fun _ _ => trivial) (Kd.R_nil _ _ _ _ _) (by omega) (Below.refl _ _) (Nat.le_refl _) (by simp; omega) ?_); intro v1 w1 ho hb hg hat; clear hg hat; rw [Int.toNat_natCast] at ho; have HO := Aside0.mk ho; have HB2 := Aside0.mk hb; clear ho hb; obtain ⟨A1, c1, e1⟩ := Kd.R_slice HO.out; subst e1; have hcut2 : ∀ W : World, (Instr.slice 29 (.slice A1 ([] ++ List.replicate m (0 : Int)).length c1) none (some (.int .i64 0)) none).run Try.prog W = .ok (.slice A1 0 c1) W := (by obtain ⟨i0, hi0, _⟩ := Option.map_eq_some_iff.1 info3; exact cut_to 29 3 .i64 Try.underlying29 hi0 A1 _ c1 0 (by omega) (by omega) (Kd.R_reads' HO.out).2.1))
  go_ret
  exact ⟨_, rfl, by simpa using Kd.R_take HO.out (Nat.zero_le _), HB2.out⟩
 ·obtain rfl : m = 0 := by omega
  go_enter Try.func368, Try.ntmps368
  go_wp2
  go_ret
  exact ⟨_, rfl, Kd.R_nil _ _ _ _ _, HB.out⟩
def slices_Concat_int_int.f (l0 : List (List Int)) : Option (List Int) := if l0.flatten.length < 17592186044416 then some l0.flatten else none
theorem slices_Concat_int_int.take (ls : List (List Int)) (k : Nat) (h : k < ls.length) : (ls.take (k + 1)).flatten = (ls.take k).flatten ++ ls.getD k [] := by
 rw [List.take_succ_eq_append_getElem h, List.flatten_append]
 simp [h]
theorem slices_Concat_int_int.take_le (ls : List (List Int)) (k : Nat) : (ls.take k).flatten.length ≤ ls.flatten.length := by
 have : ls.flatten = (ls.take k).flatten ++ (ls.drop k).flatten := by rw [← List.flatten_append, List.take_append_drop]
 rw [this, List.length_append]
 omega
/-- How long the first so many are together. -/
def slices_Concat_int_int.sum (ls : List (List Int)) (k : Nat) : Nat := (ls.take k).flatten.length
theorem slices_Concat_int_int.sum_step (ls : List (List Int)) (k : Nat) (h : k < ls.length) : slices_Concat_int_int.sum ls (k + 1) = slices_Concat_int_int.sum ls k + (ls.getD k []).length := by
 unfold slices_Concat_int_int.sum
 rw [slices_Concat_int_int.take ls k h, List.length_append]
set_option maxHeartbeats 4000000 in
set_option maxRecDepth 100000 in
theorem slices_Concat_int_int.calls (A0 : Option Addr) (c0 : Nat) (l0 : List (List Int)) (r : List Int) (w : World) (hr0 : Kd.C (Kd.slice 3 (Kd.int .i64)) w A0 l0.length l0) (hc0 : l0.length ≤ c0) (h : slices_Concat_int_int.f l0 = some r) :
  Calls Try.prog 278 #[.slice A0 l0.length c0] w fun e w' => ∃ v0_ : Value, e = .returned (v0_) ∧ Kd.R (Kd.int .i64) 3 w' w.heap.size (fun _ => True) v0_ r ∧ Below w.heap.size w w' := by
 unfold slices_Concat_int_int.f at h
 by_cases hs : l0.flatten.length < 17592186044416
 ·rw [if_pos hs] at h
  obtain rfl := Option.some.inj h
  clear h hc0
  have hlen : l0.length ≤ 9223372036854775807 := hr0.2.1
  have HR := Aside0.mk hr0
  clear hr0
  have HB := Aside0.mk (Below.refl w.heap.size w)
  have hs2 : slices_Concat_int_int.sum l0 l0.length < 17592186044416 := by unfold slices_Concat_int_int.sum; rw [List.take_length]; exact hs
  have hgr := slices_Concat_int_int.grow (slices_Concat_int_int.sum l0 l0.length) hs2 w
  have HG := Aside0.mk hgr
  clear hgr
  have HS := Aside0.mk hs
  clear hs hs2
  have hcase : ∀ k, k ≤ l0.length → slices_Concat_int_int.sum l0 k < 17592186044416 := fun k _ => Nat.lt_of_le_of_lt (slices_Concat_int_int.take_le l0 k) HS.out
  have HT := Aside0.mk hcase
  clear hcase
  go_enter Try.func278, Try.ntmps278
  go_wp2
  go_loopw [3, 11] (fun s v wr => ∃ k : Nat, k ≤ l0.length ∧ v = .int .i64 k ∧ s = .int .i64 (slices_Concat_int_int.sum l0 k : Int) ∧ w = wr) (fun _ v _ => l0.length - (intOf v).toNat)
  case atStart => exact ⟨0, Nat.zero_le _, rfl, rfl, rfl⟩
  case round =>
   obtain ⟨k, hk, rfl, rfl, rfl⟩ := hrel
   by_cases hlt : k < l0.length
   ·obtain ⟨ad, A, c, rfl, hx, hc, _⟩ := slices_Concat_int_int.row HR.out k hlt rfl
    have ht := slices_Concat_int_int.sum_step l0 k hlt
    have h1 := HT.out (k + 1) (by omega)
    rw [ht] at h1
    have HT1 := Aside0.mk ht
    clear ht
    generalize hq : slices_Concat_int_int.sum l0 k = q at h1 ⊢
    generalize hp : (l0.getD k []).length = p at h1 hx hc ⊢
    have hd2 : decide ((q : Int) + (p : Int) < 0) = false := decide_eq_false (by omega)
    have HQ := Aside0.mk hq
    have HP := Aside0.mk hp
    clear hq hp
    go_wp2
    refine ⟨⟨k + 1, by omega, by go_num, ?_, trivial⟩, by simp [intOf]; omega⟩
    rw [HT1.out, HQ.out, HP.out]
    go_num
   ·obtain rfl : k = l0.length := by omega
    go_wp2_with (go_at_call 368; refine HG.out.mono ?_; rintro e w1 ⟨v1, rfl, ho, hb⟩; have HO := Aside0.mk ho; have HB1 := Aside0.mk hb; clear ho hb)
    go_loopw [6, 27] (fun s v wr => ∃ k : Nat, k ≤ l0.length ∧ v = .int .i64 k ∧ Aside0 (Kd.R (Kd.int .i64) 3 wr w.heap.size (fun _ => True) s (l0.take k).flatten) ∧ Aside0 (Below w.heap.size w wr)) (fun _ v _ => l0.length - (intOf v).toNat)
    case atStart => exact ⟨0, Nat.zero_le _, rfl, HO, HB1⟩
    case round =>
     obtain ⟨k, hk, rfl, HO2, HB2⟩ := hrel
     by_cases hlt2 : k < l0.length
     ·obtain ⟨ad, A, c, rfl, hx, hc, hC⟩ := slices_Concat_int_int.row (Kd.C_below HR.out HB2.out) k hlt2 rfl
      have ht := slices_Concat_int_int.take l0 k hlt2
      have h1 := HT.out (k + 1) (by omega)
      rw [slices_Concat_int_int.sum_step l0 k hlt2] at h1
      unfold slices_Concat_int_int.sum at h1
      generalize l0.getD k [] = row at hx hc hC ht h1
      have HT1 := Aside0.mk ht
      have HL1 := Aside0.mk h1
      have HC := Aside0.mk hC
      clear ht h1 hC
      go_wp2_with ((with_reducible refine gate_builtin (b := .append) (xs := #[.tmp 31, .tmp 32]) rfl ?_); at_builtin; (refine Kd.R_append_row (Value.int .i64) (0 : Int) (h1 := fun _ => rfl) (w0 := w) w.heap.size rfl (.tmp 31) (.tmp 32) 29 3 (.int .i64 0) 8 rfl Try.underlying29 info3 rfl (by omega) _ (l0.take k).flatten row A _ c (fun _ => True) rfl rfl (fun _ _ => trivial) HO2.out HC.out HB2.out HB2.out.size (by have := HL1.out; omega) ?_); intro v2 w2 ho hb hg hat; clear hg hat; have HO3 := Aside0.mk ho; have HB3 := Aside0.mk hb; clear ho hb)
      refine ⟨⟨k + 1, by omega, by go_num, ⟨by rw [HT1.out]; exact HO3.out⟩, HB3⟩, by simp [intOf]; omega⟩
     ·obtain rfl : k = l0.length := by omega
      go_wp2
      go_ret
      refine ⟨_, rfl, ?_, HB2.out⟩
      have := HO2.out
      rwa [List.take_length] at this
 ·rw [if_neg hs] at h
  exact absurd h (by simp)

end Go.Proofs.Ytiheocddlopfcaa.PFnRunsToSymmetric
