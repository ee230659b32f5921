-- out of the kit's print, turned by wip/own_print.py
import Derived.Test.YtiheocddlopfcaaPFnSourcesOfSumsx0
import Derived.Test.YtiheocddlopfcaaPFnSourcesOfSumsx1
import Derived.Test.YtiheocddlopfcaaPFnSourcesOfSumsx2
import Derived.Test.YtiheocddlopfcaaPFnSourcesOfSumsx5
namespace Go.Proofs.Ytiheocddlopfcaa.PFnSourcesOfSums
open Go.RowKit Go.Proofs.YtiheocddlopfcaaW.PrintWords Go.Proofs.YtiheocddlopfcaaW.PrintLast Go.Proofs.YtiheocddlopfcaaW.PrintMore
attribute [local go_sem] max2_int min2_int max_two min_two max_three min_three max_four min_four   -- for this text's walks alone
set_option linter.unusedVariables false
set_option linter.unusedSimpArgs false

/-! ### impl_isSourced: function 262 -/
def impl_isSourced.f (l0 : List Int) (a1 : Int) : Option (Bool) := (impl_isLong.f l0 a1).bind fun t264 => (if t264 = true then (some (decide ((l0.length : Int) ≤ 12))) else (some false))
set_option maxHeartbeats 8000000 in
set_option maxRecDepth 100000 in
theorem impl_isSourced.calls (A0 : Option Addr) (c0 : Nat) (l0 : List Int) (a1 : Int) (r : Bool) (w : World) (hr0 : Kd.C (Kd.int .i64) w A0 l0.length l0) (hc0 : l0.length ≤ c0) (h : impl_isSourced.f l0 a1 = some r) :
  Calls Try.prog 262 #[.slice A0 l0.length c0, .int .i64 a1] w fun e w' => e = .returned (.bool r) ∧ Below w.heap.size w w' := by
 have HR0 := Aside0.mk hr0
 have HC0 := Aside0.mk hc0
 clear hr0 hc0
 have HB := Aside0.mk (Below.refl w.heap.size w)
 have H : ((impl_isLong.f l0 a1).bind fun t264 => (if t264 = true then (some (decide ((l0.length : Int) ≤ 12))) else (some false))) = some r := h
 clear h
 replace H := Option.bind_eq_some_iff.mp H
 obtain ⟨t264, A30, H⟩ := H
 replace H : (if t264 = true then (some (decide ((l0.length : Int) ≤ 12))) else (some false)) = some r := H
 have A3 := Aside0.mk A30
 clear A30
 by_cases c4 : t264 = true
 ·subst c4
  have H1 : (some (decide ((l0.length : Int) ≤ 12))) = some r := by rw [if_pos rfl] at H; exact H
  clear H
  have H := H1
  clear H1
  obtain rfl := Option.some.inj H
  go_enter Try.func262, Try.ntmps262
  go_wp2_with (first | ((with_reducible refine gate_callee (f := 225) rfl ?_); refine goesL_ (some 7) rfl rfl Try.func225 (by kernel_rfl) rfl #[.slice A0 l0.length c0, .int .i64 a1] rfl (by (try simp only [List.map_toArray, List.map_cons, List.map_nil]); first | done | rfl | (simp only [List.length_drop, List.length_take]; rfl)) ?_; (with_reducible refine (impl_isLong.calls _ _ l0 a1 true _ ?side1 ?side2 A3.out).mono ?_); (case side1 => repeat (first | exact HR0.out | (with_reducible refine Kd.C_alloc ?_ _) | (with_reducible refine Kd.C_drewN ?_ _) | (with_reducible refine Kd.C_drew ?_))); (case side2 => exact HC0.out); rintro e w5 ⟨rfl, hb⟩; refine ⟨_, rfl, ?_⟩; have n0_ := Aside0.mk (below_step (by repeat (first | (with_reducible first | exact HB.out | apply below_alloc | apply pw_below_drewN | apply below_drew1) | exact HB.out)) hb); clear HB; have HB := n0_; clear n0_; (try clear hb); (try clear hb2); (try clear hk); (try clear hi)))
  go_ret
  exact ⟨by first | rfl | (simp [errW_none, errW_some] <;> rfl) | (simp [*, errW_none, errW_some] <;> rfl), by repeat (first | (with_reducible first | exact HB.out | apply below_alloc | apply pw_below_drewN | apply below_drew1) | exact HB.out)⟩
 ·replace c4 := Bool.eq_false_iff.mpr c4
  subst c4
  have H1 : (some false) = some r := by rw [if_neg (show ¬ (false = true) by decide)] at H; exact H
  clear H
  have H := H1
  clear H1
  obtain rfl := Option.some.inj H
  go_enter Try.func262, Try.ntmps262
  go_wp2_with (first | ((with_reducible refine gate_callee (f := 225) rfl ?_); refine goesL_ (some 7) rfl rfl Try.func225 (by kernel_rfl) rfl #[.slice A0 l0.length c0, .int .i64 a1] rfl (by (try simp only [List.map_toArray, List.map_cons, List.map_nil]); first | done | rfl | (simp only [List.length_drop, List.length_take]; rfl)) ?_; (with_reducible refine (impl_isLong.calls _ _ l0 a1 false _ ?side1 ?side2 A3.out).mono ?_); (case side1 => repeat (first | exact HR0.out | (with_reducible refine Kd.C_alloc ?_ _) | (with_reducible refine Kd.C_drewN ?_ _) | (with_reducible refine Kd.C_drew ?_))); (case side2 => exact HC0.out); rintro e w6 ⟨rfl, hb⟩; refine ⟨_, rfl, ?_⟩; have n0_ := Aside0.mk (below_step (by repeat (first | (with_reducible first | exact HB.out | apply below_alloc | apply pw_below_drewN | apply below_drew1) | exact HB.out)) hb); clear HB; have HB := n0_; clear n0_; (try clear hb); (try clear hb2); (try clear hk); (try clear hi)))
  go_ret
  exact ⟨by first | rfl | (simp [errW_none, errW_some] <;> rfl) | (simp [*, errW_none, errW_some] <;> rfl), by repeat (first | (with_reducible first | exact HB.out | apply below_alloc | apply pw_below_drewN | apply below_drew1) | exact HB.out)⟩

/-! ### impl_CountSources: function 95 -/
def impl_CountSources.f (k : Nat) (l0 : List Int) (a1 : Int) : Option (Int × Bool) := (impl_isSourced.f l0 a1).bind fun t => if t = true then (impl_sourcesOf.f k l0 a1 (wrap64 ((l0.length : Int) - 1))).bind fun p => (impl_sourcesOf.f k l0 a1 (l0.length : Int)).bind fun q => some (wrap64 (p.1 + q.1), true) else some (0, false)
theorem impl_CountSources.mono : ∀ a0 a1 k, LeO (impl_CountSources.f k a0 a1) (impl_CountSources.f (k + 1) a0 a1) := by
 intro a0 a1 k
 unfold impl_CountSources.f
 exact LeO.bind (LeO.refl _) (fun _ => LeO.ite (LeO.bind (impl_sourcesOf.mono _ _ _ _) (fun _ => LeO.bind (impl_sourcesOf.mono _ _ _ _) (fun _ => LeO.refl _))) (LeO.refl _))
set_option maxHeartbeats 8000000 in
set_option maxRecDepth 100000 in
theorem impl_CountSources.calls (k : Nat) (A0 : Option Addr) (c0 : Nat) (l0 : List Int) (a1 : Int) (r1 : Int) (r2 : Bool) (w : World) (hr0 : Kd.C (Kd.int .i64) w A0 l0.length l0) (hc0 : l0.length ≤ c0) (h : impl_CountSources.f k l0 a1 = some (r1, r2)) :
  Calls Try.prog 95 #[.slice A0 l0.length c0, .int .i64 a1] w fun e w' => e = .returned (.tuple #[.int .i64 r1, .bool r2]) ∧ Below w.heap.size w w' := by
 have HR0 := Aside0.mk hr0
 have HC0 := Aside0.mk hc0
 clear hr0 hc0
 have HB := Aside0.mk (Below.refl w.heap.size w)
 unfold impl_CountSources.f at h
 obtain ⟨t, h0, h⟩ := Option.bind_eq_some_iff.1 h
 have A0_ := Aside0.mk h0
 clear h0
 cases t with
 | false =>
  rw [if_neg (by simp)] at h
  obtain ⟨rfl, rfl⟩ := Prod.mk.inj (Option.some.inj h)
  clear h
  go_enter Try.func95, Try.ntmps95
  go_wp2_with (go_at_call 262; refine (impl_isSourced.calls A0 c0 l0 a1 false _ ?aC ?ac A0_.out).mono ?_; (case aC => (repeat (first | exact HR0.out | (with_reducible refine Kd.C_alloc ?_ _) | (with_reducible refine Kd.C_drewN ?_ _) | (with_reducible refine Kd.C_drew ?_)))); (case ac => exact HC0.out); rintro e w2 ⟨rfl, hb⟩; have n0_ := Aside0.mk (below_step (by repeat (first | (with_reducible first | exact HB.out | apply below_alloc | apply pw_below_drewN | apply below_drew1) | exact HB.out)) hb); have n1_ := Aside0.mk (Kd.C_below HR0.out hb); clear HB HR0 hb; have HB := n0_; have HR0 := n1_; clear n0_ n1_)
  go_ret2
  exact ⟨rfl, HB.out⟩
 | true =>
  rw [if_pos rfl] at h
  obtain ⟨⟨n1, F1⟩, h1, h2⟩ := Option.bind_eq_some_iff.1 h
  obtain ⟨⟨n2, F2⟩, h3, h4⟩ := Option.bind_eq_some_iff.1 h2
  obtain ⟨rfl, rfl⟩ := Prod.mk.inj (Option.some.inj h4)
  obtain ⟨m1, em⟩ : ∃ m1, wrap64 ((l0.length : Int) - 1) = m1 := ⟨_, rfl⟩
  have emw : IntKind.i64.wrap ((l0.length : Int) - 1) = m1 := (i64_w _).trans em
  rw [em] at h1
  have A1 := Aside0.mk h1
  have A2 := Aside0.mk h3
  clear h h1 h2 h3 h4
  go_enter Try.func95, Try.ntmps95
  go_wp2_with (go_at_call 262; refine (impl_isSourced.calls A0 c0 l0 a1 true _ ?aC ?ac A0_.out).mono ?_; (case aC => (repeat (first | exact HR0.out | (with_reducible refine Kd.C_alloc ?_ _) | (with_reducible refine Kd.C_drewN ?_ _) | (with_reducible refine Kd.C_drew ?_)))); (case ac => exact HC0.out); rintro e w2 ⟨rfl, hb⟩; have n0_ := Aside0.mk (below_step (by repeat (first | (with_reducible first | exact HB.out | apply below_alloc | apply pw_below_drewN | apply below_drew1) | exact HB.out)) hb); have n1_ := Aside0.mk (Kd.C_below HR0.out hb); clear HB HR0 hb; have HB := n0_; have HR0 := n1_; clear n0_ n1_)
  go_region_with (first | (go_at_call 263; (with_reducible refine (impl_sourcesOf.calls k A0 c0 l0 a1 m1 n1 F1 _ ?bCA1 ?bcA1 A1.out).mono ?_); (case bCA1 => (repeat (first | exact HR0.out | (with_reducible refine Kd.C_alloc ?_ _) | (with_reducible refine Kd.C_drewN ?_ _) | (with_reducible refine Kd.C_drew ?_)))); (case bcA1 => exact HC0.out); rintro e w3 ⟨g1, Sg1, rfl, hi, hb⟩; obtain ⟨ADg1, cDg1, vsg1, vfg1, HGg1, hgeg1, _, _, _, hFg1, hng1⟩ := hi; clear hgeg1; clear hFg1 hng1; have hc_g1 : w3.cell? ⟨g1, 4, none⟩ = some (.int .i64 n1) := (blk_cell HGg1 4).trans rfl; clear HGg1; have n0_ := Aside0.mk (below_step (by repeat (first | (with_reducible first | exact HB.out | apply below_alloc | apply pw_below_drewN | apply below_drew1) | exact HB.out)) hb); have n1_ := Aside0.mk (show Kd.C (Kd.int .i64) w3 A0 l0.length l0 from by first | exact Kd.C_below HR0.out hb | exact Kd.C_below (Kd.C_drew HR0.out) hb | exact Kd.C_below (Kd.C_drewN HR0.out _) hb); clear HB HR0; have HB := n0_; have HR0 := n1_; clear n0_ n1_ hb) | (go_at_call 263; (with_reducible refine (impl_sourcesOf.calls k A0 c0 l0 a1 (l0.length : Int) n2 F2 _ ?bCA2 ?bcA2 A2.out).mono ?_); (case bCA2 => (repeat (first | exact HR0.out | (with_reducible refine Kd.C_alloc ?_ _) | (with_reducible refine Kd.C_drewN ?_ _) | (with_reducible refine Kd.C_drew ?_)))); (case bcA2 => exact HC0.out); rintro e w4 ⟨g2, Sg2, rfl, hi, hb⟩; obtain ⟨ADg2, cDg2, vsg2, vfg2, HGg2, hgeg2, _, _, _, hFg2, hng2⟩ := hi; clear hgeg2; clear hFg2 hng2; have hc_g2 : w4.cell? ⟨g2, 4, none⟩ = some (.int .i64 n2) := (blk_cell HGg2 4).trans rfl; clear HGg2; have hc_g1 := pw_cell_below hb hc_g1; have n0_ := Aside0.mk (below_step (by repeat (first | (with_reducible first | exact HB.out | apply below_alloc | apply pw_below_drewN | apply below_drew1) | exact HB.out)) hb); have n1_ := Aside0.mk (show Kd.C (Kd.int .i64) w4 A0 l0.length l0 from by first | exact Kd.C_below HR0.out hb | exact Kd.C_below (Kd.C_drew HR0.out) hb | exact Kd.C_below (Kd.C_drewN HR0.out _) hb); clear HB HR0; have HB := n0_; have HR0 := n1_; clear n0_ n1_ hb))
  all_goals go_wp2
  all_goals go_ret2
  all_goals exact ⟨by first | rfl | (rw [← i64_w]; rfl), (by repeat (first | (with_reducible first | exact HB.out | apply below_alloc | apply pw_below_drewN | apply below_drew1) | exact HB.out))⟩

/-! ### spec_rvAsked: function 264 -/
def spec_rvAsked.f (k : Nat) (l0 : List Int) (a1 : Int) : Option (Bool) := (spec_rvGood.f k l0 a1).bind fun t265 => (if t265 = true then (some (decide ((l0.length : Int) ≤ 12))) else (some false))
theorem spec_rvAsked.mono : ∀ a0 a1 k, LeO (spec_rvAsked.f k a0 a1) (spec_rvAsked.f (k + 1) a0 a1) := by
 intro a0 a1 k
 unfold spec_rvAsked.f
 repeat' first
   | (with_reducible exact spec_rvGood.mono _ _ _)
   | (with_reducible exact LeO.refl _)
   | (with_reducible exact LeO.none _)
   | (with_reducible refine LeO.ite ?_ ?_)
   | (with_reducible refine LeO.bind ?_ (fun _ => ?_))
   | exact spec_rvGood.mono _ _ _
   | exact LeO.none _
   | refine LeO.ite ?_ ?_
   | refine LeO.bind ?_ (fun _ => ?_)
set_option maxHeartbeats 8000000 in
set_option maxRecDepth 100000 in
theorem spec_rvAsked.calls (k : Nat) (A0 : Option Addr) (c0 : Nat) (l0 : List Int) (a1 : Int) (r : Bool) (w : World) (hr0 : Kd.C (Kd.int .i64) w A0 l0.length l0) (hc0 : l0.length ≤ c0) (h : spec_rvAsked.f k l0 a1 = some r) :
  Calls Try.prog 264 #[.slice A0 l0.length c0, .int .i64 a1] w fun e w' => e = .returned (.bool r) ∧ Drawn0 w w' := by
 have HR0 := Aside0.mk hr0
 have HC0 := Aside0.mk hc0
 clear hr0 hc0
 have H : ((spec_rvGood.f k l0 a1).bind fun t265 => (if t265 = true then (some (decide ((l0.length : Int) ≤ 12))) else (some false))) = some r := h
 clear h
 replace H := Option.bind_eq_some_iff.mp H
 obtain ⟨t265, A30, H⟩ := H
 replace H : (if t265 = true then (some (decide ((l0.length : Int) ≤ 12))) else (some false)) = some r := H
 have A3 := Aside0.mk A30
 clear A30
 by_cases c4 : t265 = true
 ·subst c4
  have H1 : (some (decide ((l0.length : Int) ≤ 12))) = some r := by rw [if_pos rfl] at H; exact H
  clear H
  have H := H1
  clear H1
  obtain rfl := Option.some.inj H
  go_enter Try.func264, Try.ntmps264
  go_wp2_with (first | ((with_reducible refine gate_callee (f := 227) rfl ?_); refine goesL_ (some 7) rfl rfl Try.func227 (by kernel_rfl) rfl #[.slice A0 l0.length c0, .int .i64 a1] rfl (by (try simp only [List.map_toArray, List.map_cons, List.map_nil]); first | done | rfl | (simp only [List.length_drop, List.length_take]; rfl)) ?_; (with_reducible refine (spec_rvGood.calls k _ _ l0 a1 true _ ?side1 ?side2 A3.out).mono ?_); (case side1 => repeat (first | exact HR0.out | (with_reducible refine Kd.C_alloc ?_ _) | (with_reducible refine Kd.C_drewN ?_ _) | (with_reducible refine Kd.C_drew ?_))); (case side2 => exact HC0.out); rintro e w' ⟨rfl, ⟨nd, rfl⟩⟩; refine ⟨_, rfl, ?_⟩))
  go_ret
  exact ⟨by first | rfl | (simp; done) | (simp [*]; done), by repeat (first | exact Drawn0.refl _ | apply Drawn0.step)⟩
 ·replace c4 := Bool.eq_false_iff.mpr c4
  subst c4
  have H1 : (some false) = some r := by rw [if_neg (show ¬ (false = true) by decide)] at H; exact H
  clear H
  have H := H1
  clear H1
  obtain rfl := Option.some.inj H
  go_enter Try.func264, Try.ntmps264
  go_wp2_with (first | ((with_reducible refine gate_callee (f := 227) rfl ?_); refine goesL_ (some 7) rfl rfl Try.func227 (by kernel_rfl) rfl #[.slice A0 l0.length c0, .int .i64 a1] rfl (by (try simp only [List.map_toArray, List.map_cons, List.map_nil]); first | done | rfl | (simp only [List.length_drop, List.length_take]; rfl)) ?_; (with_reducible refine (spec_rvGood.calls k _ _ l0 a1 false _ ?side1 ?side2 A3.out).mono ?_); (case side1 => repeat (first | exact HR0.out | (with_reducible refine Kd.C_alloc ?_ _) | (with_reducible refine Kd.C_drewN ?_ _) | (with_reducible refine Kd.C_drew ?_))); (case side2 => exact HC0.out); rintro e w' ⟨rfl, ⟨nd, rfl⟩⟩; refine ⟨_, rfl, ?_⟩))
  go_ret
  exact ⟨by first | rfl | (simp; done) | (simp [*]; done), by repeat (first | exact Drawn0.refl _ | apply Drawn0.step)⟩

/-! ### spec_l1Least: function 273 -/
def spec_l1Least.f (a0 : Int) (a1 : Int) : Option (Int) := if a0 < a1 then (some a0) else (some a1)
set_option maxHeartbeats 8000000 in
set_option maxRecDepth 100000 in
theorem spec_l1Least.calls (a0 : Int) (a1 : Int) (r : Int) (w : World) (h : spec_l1Least.f a0 a1 = some r) :
  Calls Try.prog 273 #[.int .i64 a0, .int .i64 a1] w fun e w' => e = .returned (.int .i64 r) ∧ Drawn0 w w' := by
 have H : (if a0 < a1 then (some a0) else (some a1)) = some r := h
 clear h
 by_cases c3 : a0 < a1
 ·rw [if_pos c3] at H
  have c3b0 : decide (a0 < a1) = true := decide_eq_true c3
  clear c3
  obtain rfl := Option.some.inj H
  go_enter Try.func273, Try.ntmps273
  go_wp2
  go_ret
  exact ⟨by first | rfl | (simp; done) | (simp [*]; done), by repeat (first | exact Drawn0.refl _ | apply Drawn0.step)⟩
 ·rw [if_neg c3] at H
  have c3b0 : decide (a0 < a1) = false := decide_eq_false c3
  clear c3
  obtain rfl := Option.some.inj H
  go_enter Try.func273, Try.ntmps273
  go_wp2
  go_ret
  exact ⟨by first | rfl | (simp; done) | (simp [*]; done), by repeat (first | exact Drawn0.refl _ | apply Drawn0.step)⟩

/-! ### spec_rvWays: function 265 -/
mutual
def spec_rvWays.j0 : Nat → List Int → Int → Int → Int → Bool → Option ((List (List Int)) × Bool)
 | 0, _, _, _, _, _ => none
 | k + 1, x0, x1, x2, x8, x34 => if x34 = true then (some (([] : List (List Int)), false)) else (spec_rvWays.l0 k x0 x1 x2 x8 (wrap64 (Int.tdiv (wrap64 (x1 + 1)) 2)) ([] : List (List Int)) 0)
def spec_rvWays.l0 : Nat → List Int → Int → Int → Int → Int → List (List Int) → Int → Option ((List (List Int)) × Bool)
 | 0, _, _, _, _, _, _, _ => none
 | k + 1, x0, x1, x2, x8, x9, x10, x11 => if 0 ≤ x9 then (if x11 < (shl .i64 1 x9) then (if 0 ≤ x1 then (if (x1 : Int).toNat ≤ 35184372088832 then (spec_rvWays.l1 k x0 x1 x2 x8 x9 x10 x11 (List.replicate (x1 : Int).toNat 0) 0 true (wrap64 (x1 - 1))) else (none)) else (none)) else (some (x10, true))) else (none)
def spec_rvWays.l1 : Nat → List Int → Int → Int → Int → Int → List (List Int) → Int → List Int → Int → Bool → Int → Option ((List (List Int)) × Bool)
 | 0, _, _, _, _, _, _, _, _, _, _, _ => none
 | k + 1, x0, x1, x2, x8, x9, x10, x11, x12, x13, x14, x15 => if x15 ≥ 0 then (spec_rvWays.j3 k x0 x1 x2 x8 x9 x10 x11 x12 x13 x14 x15 x14) else (spec_rvWays.j3 k x0 x1 x2 x8 x9 x10 x11 x12 x13 x14 x15 false)
def spec_rvWays.j3 : Nat → List Int → Int → Int → Int → Int → List (List Int) → Int → List Int → Int → Bool → Int → Bool → Option ((List (List Int)) × Bool)
 | 0, _, _, _, _, _, _, _, _, _, _, _, _ => none
 | k + 1, x0, x1, x2, x8, x9, x10, x11, x12, x13, x14, x15, x52 => if x52 = true then ((spec_l1Least.f x15 (wrap64 ((wrap64 (x1 - 1)) - x15))).bind fun t274 => (if x15 ≥ (wrap64 (x1 - x9)) then (if 0 ≤ (wrap64 ((wrap64 (x1 - 1)) - x15)) then (if 0 ≤ (wrap64 (x8 + x15)) then (if (wrap64 (x8 + x15)) < (x0.length : Int) then (if 0 ≤ x15 then (if x15 < (x12.length : Int) then ((some (x12.set (x15 : Int).toNat (wrap64 ((wrap64 ((rd x0 (wrap64 (x8 + x15))) + (wrap64 (x2 * (Int.tmod (shr .i64 x11 (wrap64 ((wrap64 (x1 - 1)) - x15))) 2))))) - x13)) : List Int)).bind fun y276 => ((spec_l1In.f (rd y276 x15) 0 (wrap64 ((wrap64 (2 * x2)) - 2))).bind fun t278 => (if t278 = true then (if x2 = 0 then (none) else (if 0 ≤ t274 then (if t274 < (x12.length : Int) then (spec_rvWays.l1 k x0 x1 x2 x8 x9 x10 x11 (y276.set (t274 : Int).toNat (rd y276 x15)) (Int.tmod (shr .i64 x11 (wrap64 ((wrap64 (x1 - 1)) - x15))) 2) ((wrap64 (Int.tdiv (wrap64 ((rd y276 x15) + x13)) x2)) == (Int.tmod (shr .i64 x11 (wrap64 ((wrap64 (x1 - 1)) - x15))) 2)) (wrap64 (x15 - 1))) else (none)) else (none))) else (if 0 ≤ t274 then (if t274 < (x12.length : Int) then (spec_rvWays.l1 k x0 x1 x2 x8 x9 x10 x11 (y276.set (t274 : Int).toNat (rd y276 x15)) (Int.tmod (shr .i64 x11 (wrap64 ((wrap64 (x1 - 1)) - x15))) 2) false (wrap64 (x15 - 1))) else (none)) else (none))))) else (none)) else (none)) else (none)) else (none)) else (none)) else (if 0 ≤ t274 then (if t274 < (x12.length : Int) then (if x2 = 0 then (none) else (if 0 ≤ (wrap64 (x8 + x15)) then (if (wrap64 (x8 + x15)) < (x0.length : Int) then (spec_rvWays.l1 k x0 x1 x2 x8 x9 x10 x11 x12 (wrap64 (Int.tdiv (wrap64 ((rd x12 t274) + x13)) x2)) ((Int.tmod (wrap64 ((rd x12 t274) + x13)) x2) == (rd x0 (wrap64 (x8 + x15)))) (wrap64 (x15 - 1))) else (none)) else (none))) else (none)) else (none)))) else (if x14 = true then (if x13 = x8 then (if x10.length < 5864062014805 then (spec_rvWays.l0 k x0 x1 x2 x8 x9 (x10 ++ [x12]) (wrap64 (x11 + 1))) else (none)) else (spec_rvWays.l0 k x0 x1 x2 x8 x9 x10 (wrap64 (x11 + 1)))) else (spec_rvWays.l0 k x0 x1 x2 x8 x9 x10 (wrap64 (x11 + 1))))
end
def spec_rvWays.f (k : Nat) (l0 : List Int) (a1 : Int) (a2 : Int) : Option ((List (List Int)) × Bool) := (spec_l1In.f (wrap64 ((l0.length : Int) - a1)) 0 1).bind fun t266 => (if t266 = true then (if (wrap64 ((l0.length : Int) - a1)) = 1 then (if 0 < (l0.length : Int) then (spec_rvWays.j0 k l0 a1 a2 (wrap64 ((l0.length : Int) - a1)) ((rd l0 0) != 1)) else (none)) else (spec_rvWays.j0 k l0 a1 a2 (wrap64 ((l0.length : Int) - a1)) false)) else (spec_rvWays.j0 k l0 a1 a2 (wrap64 ((l0.length : Int) - a1)) true))
theorem spec_rvWays.mono_l : ∀ k, (∀ y0 y1 y2 y3 y4, LeO (spec_rvWays.j0 k y0 y1 y2 y3 y4) (spec_rvWays.j0 (k + 1) y0 y1 y2 y3 y4)) ∧ (∀ y0 y1 y2 y3 y4 y5 y6, LeO (spec_rvWays.l0 k y0 y1 y2 y3 y4 y5 y6) (spec_rvWays.l0 (k + 1) y0 y1 y2 y3 y4 y5 y6)) ∧ (∀ y0 y1 y2 y3 y4 y5 y6 y7 y8 y9 y10, LeO (spec_rvWays.l1 k y0 y1 y2 y3 y4 y5 y6 y7 y8 y9 y10) (spec_rvWays.l1 (k + 1) y0 y1 y2 y3 y4 y5 y6 y7 y8 y9 y10)) ∧ (∀ y0 y1 y2 y3 y4 y5 y6 y7 y8 y9 y10 y11, LeO (spec_rvWays.j3 k y0 y1 y2 y3 y4 y5 y6 y7 y8 y9 y10 y11) (spec_rvWays.j3 (k + 1) y0 y1 y2 y3 y4 y5 y6 y7 y8 y9 y10 y11))
 | 0 => ⟨fun _ _ _ _ _ r h => by simp [spec_rvWays.j0] at h, fun _ _ _ _ _ _ _ r h => by simp [spec_rvWays.l0] at h, fun _ _ _ _ _ _ _ _ _ _ _ r h => by simp [spec_rvWays.l1] at h, fun _ _ _ _ _ _ _ _ _ _ _ _ r h => by simp [spec_rvWays.j3] at h⟩
 | k + 1 => by
  obtain ⟨ih0, ih1, ih2, ih3⟩ := spec_rvWays.mono_l k
  refine ⟨?_, ?_, ?_, ?_⟩
  ·intro y0 y1 y2 y3 y4
   unfold spec_rvWays.j0
   repeat' first
   | (with_reducible exact ih0 _ _ _ _ _)
   | (with_reducible exact ih1 _ _ _ _ _ _ _)
   | (with_reducible exact ih2 _ _ _ _ _ _ _ _ _ _ _)
   | (with_reducible exact ih3 _ _ _ _ _ _ _ _ _ _ _ _)
   | (with_reducible exact LeO.refl _)
   | (with_reducible exact LeO.none _)
   | (with_reducible refine LeO.ite ?_ ?_)
   | (with_reducible refine LeO.bind ?_ (fun _ => ?_))
   | exact ih0 _ _ _ _ _
   | exact ih1 _ _ _ _ _ _ _
   | exact ih2 _ _ _ _ _ _ _ _ _ _ _
   | exact ih3 _ _ _ _ _ _ _ _ _ _ _ _
   | exact LeO.none _
   | refine LeO.ite ?_ ?_
   | refine LeO.bind ?_ (fun _ => ?_)
  ·intro y0 y1 y2 y3 y4 y5 y6
   unfold spec_rvWays.l0
   repeat' first
   | (with_reducible exact ih0 _ _ _ _ _)
   | (with_reducible exact ih1 _ _ _ _ _ _ _)
   | (with_reducible exact ih2 _ _ _ _ _ _ _ _ _ _ _)
   | (with_reducible exact ih3 _ _ _ _ _ _ _ _ _ _ _ _)
   | (with_reducible exact LeO.refl _)
   | (with_reducible exact LeO.none _)
   | (with_reducible refine LeO.ite ?_ ?_)
   | (with_reducible refine LeO.bind ?_ (fun _ => ?_))
   | exact ih0 _ _ _ _ _
   | exact ih1 _ _ _ _ _ _ _
   | exact ih2 _ _ _ _ _ _ _ _ _ _ _
   | exact ih3 _ _ _ _ _ _ _ _ _ _ _ _
   | exact LeO.none _
   | refine LeO.ite ?_ ?_
   | refine LeO.bind ?_ (fun _ => ?_)
  ·intro y0 y1 y2 y3 y4 y5 y6 y7 y8 y9 y10
   unfold spec_rvWays.l1
   repeat' first
   | (with_reducible exact ih0 _ _ _ _ _)
   | (with_reducible exact ih1 _ _ _ _ _ _ _)
   | (with_reducible exact ih2 _ _ _ _ _ _ _ _ _ _ _)
   | (with_reducible exact ih3 _ _ _ _ _ _ _ _ _ _ _ _)
   | (with_reducible exact LeO.refl _)
   | (with_reducible exact LeO.none _)
   | (with_reducible refine LeO.ite ?_ ?_)
   | (with_reducible refine LeO.bind ?_ (fun _ => ?_))
   | exact ih0 _ _ _ _ _
   | exact ih1 _ _ _ _ _ _ _
   | exact ih2 _ _ _ _ _ _ _ _ _ _ _
   | exact ih3 _ _ _ _ _ _ _ _ _ _ _ _
   | exact LeO.none _
   | refine LeO.ite ?_ ?_
   | refine LeO.bind ?_ (fun _ => ?_)
  ·intro y0 y1 y2 y3 y4 y5 y6 y7 y8 y9 y10 y11
   unfold spec_rvWays.j3
   repeat' first
   | (with_reducible exact ih0 _ _ _ _ _)
   | (with_reducible exact ih1 _ _ _ _ _ _ _)
   | (with_reducible exact ih2 _ _ _ _ _ _ _ _ _ _ _)
   | (with_reducible exact ih3 _ _ _ _ _ _ _ _ _ _ _ _)
   | (with_reducible exact LeO.refl _)
   | (with_reducible exact LeO.none _)
   | (with_reducible refine LeO.ite ?_ ?_)
   | (with_reducible refine LeO.bind ?_ (fun _ => ?_))
   | exact ih0 _ _ _ _ _
   | exact ih1 _ _ _ _ _ _ _
   | exact ih2 _ _ _ _ _ _ _ _ _ _ _
   | exact ih3 _ _ _ _ _ _ _ _ _ _ _ _
   | exact LeO.none _
   | refine LeO.ite ?_ ?_
   | refine LeO.bind ?_ (fun _ => ?_)
theorem spec_rvWays.mono : ∀ a0 a1 a2 k, LeO (spec_rvWays.f k a0 a1 a2) (spec_rvWays.f (k + 1) a0 a1 a2) := by
 intro a0 a1 a2 k
 obtain ⟨ih0, ih1, ih2, ih3⟩ := spec_rvWays.mono_l k
 unfold spec_rvWays.f
 repeat' first
   | (with_reducible exact ih0 _ _ _ _ _)
   | (with_reducible exact ih1 _ _ _ _ _ _ _)
   | (with_reducible exact ih2 _ _ _ _ _ _ _ _ _ _ _)
   | (with_reducible exact ih3 _ _ _ _ _ _ _ _ _ _ _ _)
   | (with_reducible exact LeO.refl _)
   | (with_reducible exact LeO.none _)
   | (with_reducible refine LeO.ite ?_ ?_)
   | (with_reducible refine LeO.bind ?_ (fun _ => ?_))
   | exact ih0 _ _ _ _ _
   | exact ih1 _ _ _ _ _ _ _
   | exact ih2 _ _ _ _ _ _ _ _ _ _ _
   | exact ih3 _ _ _ _ _ _ _ _ _ _ _ _
   | exact LeO.none _
   | refine LeO.ite ?_ ?_
   | refine LeO.bind ?_ (fun _ => ?_)
set_option maxHeartbeats 8000000 in
set_option maxRecDepth 100000 in
theorem spec_rvWays.calls (k : Nat) (A0 : Option Addr) (c0 : Nat) (l0 : List Int) (a1 : Int) (a2 : Int) (r1 : List (List Int)) (r2 : Bool) (w : World) (hr0 : Kd.C (Kd.int .i64) w A0 l0.length l0) (hc0 : l0.length ≤ c0) (h : spec_rvWays.f k l0 a1 a2 = some (r1, r2)) :
  Calls Try.prog 265 #[.slice A0 l0.length c0, .int .i64 a1, .int .i64 a2] w fun e w' => ∃ v0_ : Value, e = .returned (.tuple #[v0_, .bool r2]) ∧ Kd.S (Kd.slice 3 (Kd.int .i64)) 29 w' w.heap.size (fun _ => True) v0_ r1 ∧ Below w.heap.size w w' := by
 have HR0 := Aside0.mk hr0
 have HC0 := Aside0.mk hc0
 clear hr0 hc0
 have HB := Aside0.mk (Below.refl w.heap.size w)
 have H : ((spec_l1In.f (wrap64 ((l0.length : Int) - a1)) 0 1).bind fun t266 => (if t266 = true then (if (wrap64 ((l0.length : Int) - a1)) = 1 then (if 0 < (l0.length : Int) then (spec_rvWays.j0 k l0 a1 a2 (wrap64 ((l0.length : Int) - a1)) ((rd l0 0) != 1)) else (none)) else (spec_rvWays.j0 k l0 a1 a2 (wrap64 ((l0.length : Int) - a1)) false)) else (spec_rvWays.j0 k l0 a1 a2 (wrap64 ((l0.length : Int) - a1)) true))) = some (r1, r2) := h
 clear h
 have HC4 := Aside0.mk H
 clear H
 go_enter Try.func265, Try.ntmps265
 go_upto_region 2 with (fail)
 repeat (go_quiet (fail); go_upto_region 2 with (fail))
 go_cut [34] (fun v34 wc => ∃ (kq : Nat) (x34_3 : Bool), v34 = .bool x34_3 ∧ Aside0 (spec_rvWays.j0 kq l0 a1 a2 (wrap64 ((l0.length : Int) - a1)) x34_3 = some (r1, r2)) ∧ Aside0 (kq ≤ k) ∧ Aside0 (Below w.heap.size w wc))
 case first =>
  have H := HC4.out
  clear HC4
  replace H := Option.bind_eq_some_iff.mp H
  obtain ⟨t266, A50, H⟩ := H
  replace H : (if t266 = true then (if (wrap64 ((l0.length : Int) - a1)) = 1 then (if 0 < (l0.length : Int) then (spec_rvWays.j0 k l0 a1 a2 (wrap64 ((l0.length : Int) - a1)) ((rd l0 0) != 1)) else (none)) else (spec_rvWays.j0 k l0 a1 a2 (wrap64 ((l0.length : Int) - a1)) false)) else (spec_rvWays.j0 k l0 a1 a2 (wrap64 ((l0.length : Int) - a1)) true)) = some (r1, r2) := H
  have A5 := Aside0.mk A50
  clear A50
  by_cases c6 : t266 = true
  ·subst c6
   have H1 : (if (wrap64 ((l0.length : Int) - a1)) = 1 then (if 0 < (l0.length : Int) then (spec_rvWays.j0 k l0 a1 a2 (wrap64 ((l0.length : Int) - a1)) ((rd l0 0) != 1)) else (none)) else (spec_rvWays.j0 k l0 a1 a2 (wrap64 ((l0.length : Int) - a1)) false)) = some (r1, r2) := by rw [if_pos rfl] at H; exact H
   clear H
   have H := H1
   clear H1
   by_cases c7 : (wrap64 ((l0.length : Int) - a1)) = 1
   ·rw [if_pos c7] at H
    have c7b0 : ((wrap64 ((l0.length : Int) - a1)) == 1) = true := beq_iff_eq.mpr c7
    have c7b1 : ((wrap64 ((l0.length : Int) - a1)) != 1) = false := bne_eq_false_iff_eq.mpr c7
    clear c7
    (first | rw [c7b0] | (simp only [i64_w, i32_w]; rw [c7b0]) | skip)
    by_cases c8 : 0 < (l0.length : Int)
    ·rw [if_pos c8] at H
     have c8b0 : decide (0 < (l0.length : Int)) = true := decide_eq_true c8
     have c8b1 : decide (0 < l0.length) = true := decide_eq_true (by omega)
     clear c8
     have H' := Aside0.mk H
     clear H
     go_wp2_with (first | (go_at_call 197; (with_reducible refine (spec_l1In.calls (wrap64 ((l0.length : Int) - a1)) 0 1 true _ A5.out).mono ?_); rintro e w' ⟨rfl, ⟨nd, rfl⟩⟩; (try first | exact ⟨rfl, _, World.drewN_drewN _ _ _⟩ | exact ⟨rfl, _, Eq.trans (World.drewN_drewN _ _ _) (congrArg (World.drewN _) (Nat.add_assoc _ _ _))⟩); have p267 : 0 ≤ (0 : Int) := (by omega); have q267 : 0 < (l0.length : Int) := of_decide_eq_true (by first | (with_reducible assumption) | assumption); obtain ⟨ad267, e267, hx267_0⟩ := Kd.at_int HR0.out 0 p267 q267; cases e267; have qi267 : (0 < l0.length) = True := eq_true (by omega); (try rw [show ((0 : Int)).toNat = 0 from rfl] at hx267_0); (try rw [Addr.add_zero'] at hx267_0); replace hx267_0 := (HB.out.cell (World.block_lt_of_cell? w _ hx267_0)).trans hx267_0; replace p267 := eq_true p267; replace q267 := eq_true q267))
     repeat (go_quiet (first | (go_at_call 197; (with_reducible refine (spec_l1In.calls (wrap64 ((l0.length : Int) - a1)) 0 1 true _ A5.out).mono ?_); rintro e w' ⟨rfl, ⟨nd, rfl⟩⟩; (try first | exact ⟨rfl, _, World.drewN_drewN _ _ _⟩ | exact ⟨rfl, _, Eq.trans (World.drewN_drewN _ _ _) (congrArg (World.drewN _) (Nat.add_assoc _ _ _))⟩); have p267 : 0 ≤ (0 : Int) := (by omega); have q267 : 0 < (l0.length : Int) := of_decide_eq_true (by first | (with_reducible assumption) | assumption); obtain ⟨ad267, e267, hx267_0⟩ := Kd.at_int HR0.out 0 p267 q267; cases e267; have qi267 : (0 < l0.length) = True := eq_true (by omega); (try rw [show ((0 : Int)).toNat = 0 from rfl] at hx267_0); (try rw [Addr.add_zero'] at hx267_0); replace hx267_0 := (HB.out.cell (World.block_lt_of_cell? w _ hx267_0)).trans hx267_0; replace p267 := eq_true p267; replace q267 := eq_true q267)); try go_wp2_with (first | (go_at_call 197; (with_reducible refine (spec_l1In.calls (wrap64 ((l0.length : Int) - a1)) 0 1 true _ A5.out).mono ?_); rintro e w' ⟨rfl, ⟨nd, rfl⟩⟩; (try first | exact ⟨rfl, _, World.drewN_drewN _ _ _⟩ | exact ⟨rfl, _, Eq.trans (World.drewN_drewN _ _ _) (congrArg (World.drewN _) (Nat.add_assoc _ _ _))⟩); have p267 : 0 ≤ (0 : Int) := (by omega); have q267 : 0 < (l0.length : Int) := of_decide_eq_true (by first | (with_reducible assumption) | assumption); obtain ⟨ad267, e267, hx267_0⟩ := Kd.at_int HR0.out 0 p267 q267; cases e267; have qi267 : (0 < l0.length) = True := eq_true (by omega); (try rw [show ((0 : Int)).toNat = 0 from rfl] at hx267_0); (try rw [Addr.add_zero'] at hx267_0); replace hx267_0 := (HB.out.cell (World.block_lt_of_cell? w _ hx267_0)).trans hx267_0; replace p267 := eq_true p267; replace q267 := eq_true q267)))
     go_meet
     case rel => exact ⟨_, (((rd l0 0) != 1)), (by first | rfl | (simp; done) | (simp [*]; done)), H', ⟨by first | omega | exact Nat.le_refl _⟩, ⟨by repeat (first | (with_reducible first | exact HB.out | apply below_alloc | apply pw_below_drewN | apply below_drew1) | exact HB.out)⟩⟩
    ·rw [if_neg c8] at H
     exact absurd H (by simp)
   ·rw [if_neg c7] at H
    have c7b0 : ((wrap64 ((l0.length : Int) - a1)) == 1) = false := beq_eq_false_iff_ne.mpr c7
    have c7b1 : ((wrap64 ((l0.length : Int) - a1)) != 1) = true := bne_iff_ne.mpr c7
    (first | rw [c7b0] | (simp only [i64_w, i32_w]; rw [c7b0]) | skip)
    have H' := Aside0.mk H
    clear H
    go_wp2_with (first | (go_at_call 197; (with_reducible refine (spec_l1In.calls (wrap64 ((l0.length : Int) - a1)) 0 1 true _ A5.out).mono ?_); rintro e w' ⟨rfl, ⟨nd, rfl⟩⟩; (try first | exact ⟨rfl, _, World.drewN_drewN _ _ _⟩ | exact ⟨rfl, _, Eq.trans (World.drewN_drewN _ _ _) (congrArg (World.drewN _) (Nat.add_assoc _ _ _))⟩)))
    repeat (go_quiet (first | (go_at_call 197; (with_reducible refine (spec_l1In.calls (wrap64 ((l0.length : Int) - a1)) 0 1 true _ A5.out).mono ?_); rintro e w' ⟨rfl, ⟨nd, rfl⟩⟩; (try first | exact ⟨rfl, _, World.drewN_drewN _ _ _⟩ | exact ⟨rfl, _, Eq.trans (World.drewN_drewN _ _ _) (congrArg (World.drewN _) (Nat.add_assoc _ _ _))⟩))); try go_wp2_with (first | (go_at_call 197; (with_reducible refine (spec_l1In.calls (wrap64 ((l0.length : Int) - a1)) 0 1 true _ A5.out).mono ?_); rintro e w' ⟨rfl, ⟨nd, rfl⟩⟩; (try first | exact ⟨rfl, _, World.drewN_drewN _ _ _⟩ | exact ⟨rfl, _, Eq.trans (World.drewN_drewN _ _ _) (congrArg (World.drewN _) (Nat.add_assoc _ _ _))⟩))))
    go_meet
    case rel => exact ⟨_, (false), (by first | rfl | (simp; done) | (simp [*]; done)), H', ⟨by first | omega | exact Nat.le_refl _⟩, ⟨by repeat (first | (with_reducible first | exact HB.out | apply below_alloc | apply pw_below_drewN | apply below_drew1) | exact HB.out)⟩⟩
  ·replace c6 := Bool.eq_false_iff.mpr c6
   subst c6
   have H1 : (spec_rvWays.j0 k l0 a1 a2 (wrap64 ((l0.length : Int) - a1)) true) = some (r1, r2) := by rw [if_neg (show ¬ (false = true) by decide)] at H; exact H
   clear H
   have H := H1
   clear H1
   have H' := Aside0.mk H
   clear H
   go_wp2_with (first | (go_at_call 197; (with_reducible refine (spec_l1In.calls (wrap64 ((l0.length : Int) - a1)) 0 1 false _ A5.out).mono ?_); rintro e w' ⟨rfl, ⟨nd, rfl⟩⟩; (try first | exact ⟨rfl, _, World.drewN_drewN _ _ _⟩ | exact ⟨rfl, _, Eq.trans (World.drewN_drewN _ _ _) (congrArg (World.drewN _) (Nat.add_assoc _ _ _))⟩)))
   repeat (go_quiet (first | (go_at_call 197; (with_reducible refine (spec_l1In.calls (wrap64 ((l0.length : Int) - a1)) 0 1 false _ A5.out).mono ?_); rintro e w' ⟨rfl, ⟨nd, rfl⟩⟩; (try first | exact ⟨rfl, _, World.drewN_drewN _ _ _⟩ | exact ⟨rfl, _, Eq.trans (World.drewN_drewN _ _ _) (congrArg (World.drewN _) (Nat.add_assoc _ _ _))⟩))); try go_wp2_with (first | (go_at_call 197; (with_reducible refine (spec_l1In.calls (wrap64 ((l0.length : Int) - a1)) 0 1 false _ A5.out).mono ?_); rintro e w' ⟨rfl, ⟨nd, rfl⟩⟩; (try first | exact ⟨rfl, _, World.drewN_drewN _ _ _⟩ | exact ⟨rfl, _, Eq.trans (World.drewN_drewN _ _ _) (congrArg (World.drewN _) (Nat.add_assoc _ _ _))⟩))))
   go_meet
   case rel => exact ⟨_, (true), (by first | rfl | (simp; done) | (simp [*]; done)), H', ⟨by first | omega | exact Nat.le_refl _⟩, ⟨by repeat (first | (with_reducible first | exact HB.out | apply below_alloc | apply pw_below_drewN | apply below_drew1) | exact HB.out)⟩⟩
 case rest =>
  clear HC4
  try clear c2
  try clear p2
  try clear q2
  try clear hx2
  try clear qi2
  try clear c6
  try clear p6
  try clear c7
  try clear c7b0
  try clear c7b1
  try clear c8
  try clear c8b0
  try clear c8b1
  try clear hx267_0
  try clear p267
  try clear q267
  obtain ⟨kq, x34_3, rfl, HA, HJ3, HB⟩ := hcut
  cases kq with
  | zero => exact absurd HA.out (by simp [spec_rvWays.j0])
  | succ kj3 =>
   have H := HA.out
   clear HA
   simp only [spec_rvWays.j0] at H
   by_cases c9 : x34_3 = true
   ·subst c9
    have H1 : (some (([] : List (List Int)), false)) = some (r1, r2) := by rw [if_pos rfl] at H; exact H
    clear H
    have H := H1
    clear H1
    simp only [Option.some.injEq, Prod.mk.injEq] at H
    obtain ⟨rfl, rfl⟩ := H
    go_wp2
    repeat (go_quiet (fail); try go_wp2)
    go_ret2
    exact ⟨_, by first | rfl | (simp [errW_none, errW_some] <;> rfl) | (simp [*, errW_none, errW_some] <;> rfl), by first | exact Kd.S_nil _ _ _ _ _ | exact Kd.N_nil _ _ _ _ _ | exact Kd.V_nil _ _ _ _ _ | exact Kd.Q_nil _ _ _ _ _ | exact Kd.R_nil _ _ _ _ _, by repeat (first | (with_reducible first | exact HB.out | apply below_alloc | apply pw_below_drewN | apply below_drew1) | exact HB.out)⟩
   ·replace c9 := Bool.eq_false_iff.mpr c9
    subst c9
    have H1 : (spec_rvWays.l0 kj3 l0 a1 a2 (wrap64 ((l0.length : Int) - a1)) (wrap64 (Int.tdiv (wrap64 (a1 + 1)) 2)) ([] : List (List Int)) 0) = some (r1, r2) := by rw [if_neg (show ¬ (false = true) by decide)] at H; exact H
    clear H
    have H := H1
    clear H1
    have H' := Aside0.mk H
    clear H
    go_wp2
    repeat (go_quiet (fail); try go_wp2)
    go_loopg [10, 11] kj3 (fun kq v10 v11 w' => ∃ (x10_2 : List (List Int)) (x11_2 : Int), v11 = .int .i64 x11_2 ∧ Aside0 (spec_rvWays.l0 kq l0 a1 a2 (wrap64 ((l0.length : Int) - a1)) (wrap64 (Int.tdiv (wrap64 (a1 + 1)) 2)) x10_2 x11_2 = some (r1, r2)) ∧ Aside0 (kq ≤ kj3) ∧ Aside0 (Kd.S (Kd.slice 3 (Kd.int .i64)) 29 w' w.heap.size (fun _ => True) v10 x10_2) ∧ Aside0 (Below w.heap.size w w'))
    case atStart => exact ⟨(([] : List (List Int))), (0), (by first | rfl | (simp; done) | (simp [*]; done)), H', ⟨Nat.le_refl _⟩, ⟨by first | exact Kd.S_nil _ _ _ _ _ | exact Kd.N_nil _ _ _ _ _ | exact Kd.V_nil _ _ _ _ _ | exact Kd.Q_nil _ _ _ _ _ | exact Kd.R_nil _ _ _ _ _⟩, ⟨by repeat (first | (with_reducible first | exact HB.out | apply below_alloc | apply pw_below_drewN | apply below_drew1) | exact HB.out)⟩⟩
    case round =>
     clear H'
     try clear c2
     try clear p2
     try clear q2
     try clear hx2
     try clear qi2
     try clear c6
     try clear p6
     try clear c7
     try clear c7b0
     try clear c7b1
     try clear c8
     try clear c8b0
     try clear c8b1
     try clear c9
     try clear hx267_0
     try clear p2
     try clear p267
     try clear p6
     try clear q2
     try clear q267
     obtain ⟨x10_2, x11_2, rfl, HA, HK2, HO_10, HB⟩ := hrel
     cases gk with
     | zero => exact absurd HA.out (by simp [spec_rvWays.l0])
     | succ k2 =>
      have H := HA.out
      clear HA
      simp only [spec_rvWays.l0] at H
      obtain ⟨ji10, hji10⟩ : ∃ j_ : Int, (wrap64 (Int.tdiv (wrap64 (a1 + 1)) 2)) = j_ := ⟨_, rfl⟩
      replace H : (if 0 ≤ (ji10) then (if x11_2 < (shl .i64 1 (ji10)) then (if 0 ≤ a1 then (if (a1 : Int).toNat ≤ 35184372088832 then (spec_rvWays.l1 k2 l0 a1 a2 (wrap64 ((l0.length : Int) - a1)) (ji10) x10_2 x11_2 (List.replicate (a1 : Int).toNat 0) 0 true (wrap64 (a1 - 1))) else (none)) else (none)) else (some (x10_2, true))) else (none)) = some (r1, r2) := by first | (rw [hji10] at H; exact H) | (simp only [hji10] at H ⊢; exact H)
      have hji10w : (IntKind.i64.wrap (Int.tdiv (wrap64 (a1 + 1)) 2)) = ji10 := (i64_w _).trans hji10
      by_cases c11 : 0 ≤ (ji10)
      ·rw [if_pos c11] at H
       have c11b0 := eq_true c11
       have c11b1 : decide (0 ≤ (ji10)) = true := decide_eq_true c11
       clear c11
       obtain ⟨ji12, hji12⟩ : ∃ j_ : Int, (shl .i64 1 (ji10)) = j_ := ⟨_, rfl⟩
       replace H : (if x11_2 < (ji12) then (if 0 ≤ a1 then (if (a1 : Int).toNat ≤ 35184372088832 then (spec_rvWays.l1 k2 l0 a1 a2 (wrap64 ((l0.length : Int) - a1)) (ji10) x10_2 x11_2 (List.replicate (a1 : Int).toNat 0) 0 true (wrap64 (a1 - 1))) else (none)) else (none)) else (some (x10_2, true))) = some (r1, r2) := by first | (rw [hji12] at H; exact H) | (simp only [hji12] at H ⊢; exact H)
       have hji12_ : (IntKind.i64.wrap (1 * 2 ^ min (ji10).toNat 64)) = ji12 := hji12
       have hji12z : (ji10) ≤ 64 → (IntKind.i64.wrap (1 * 2 ^ (ji10).toNat)) = ji12 := shl_small hji12
       have hji12u : (IntKind.i64.wrap (2 ^ min (ji10).toNat 64)) = ji12 := by have h_ := hji12_; rw [Int.one_mul] at h_; exact h_
       have hji12v : (ji10) ≤ 64 → (IntKind.i64.wrap (2 ^ (ji10).toNat)) = ji12 := fun hle_ => by have h_ := hji12z hle_; rw [Int.one_mul] at h_; exact h_
       have hji12y : (wrap64 (1 * 2 ^ min (ji10).toNat 64)) = ji12 := (i64_w _).symm.trans hji12_
       have hji12x : (ji10) ≤ 64 → (wrap64 (1 * 2 ^ (ji10).toNat)) = ji12 := fun h_ => (i64_w _).symm.trans (hji12z h_)
       by_cases c13 : x11_2 < (ji12)
       ·rw [if_pos c13] at H
        have c13b0 : decide (x11_2 < (ji12)) = true := decide_eq_true c13
        clear c13
        by_cases c14 : 0 ≤ a1
        ·rw [if_pos c14] at H
         have c14b0 := eq_true c14
         have c14b1 : decide (0 ≤ a1) = true := decide_eq_true c14
         clear c14
         by_cases c15 : (a1 : Int).toNat ≤ 35184372088832
         ·rw [if_pos c15] at H
          have c15b0 := eq_true c15
          have c15b1 : decide ((a1 : Int).toNat ≤ 35184372088832) = true := decide_eq_true c15
          clear c15
          obtain ⟨y268, hy268⟩ : ∃ y_ : List Int, y_ = (List.replicate (a1 : Int).toNat 0) := ⟨_, rfl⟩
          replace H : (spec_rvWays.l1 k2 l0 a1 a2 (wrap64 ((l0.length : Int) - a1)) (ji10) x10_2 x11_2 y268 0 true (wrap64 (a1 - 1))) = some (r1, r2) := by first | (rw [hy268]; with_reducible exact H) | (have H2_ := (Option.bind_some _ _).symm.trans H; rw [hy268]; with_reducible exact H2_) | (have H2_ := (Option.bind_some _ _).symm.trans H; with_reducible exact H2_) | with_reducible exact H | (rw [hy268]; exact H) | exact H
          have Ny268 := Aside0.mk hy268
          clear hy268
          have H' := Aside0.mk H
          clear H
          go_wp2_with (first | ((with_reducible refine gate_dst (N := 45) rfl ?_); refine Kd.R_make (Kd.int .i64) _ 3 rfl (N := 45) rfl 29 _ _ rfl a1 rfl rfl Try.underlying29 (.int .i64 0) 8 info3 rfl (by decide) (by omega) 0 (ok := fun _ => True) (okp := fun _ => True) rfl (fun _ hk => hk) trivial (of_decide_eq_true (by first | (with_reducible assumption) | assumption)) (Nat.le_trans (Nat.mul_le_mul_right _ (of_decide_eq_true (by first | (with_reducible assumption) | assumption) : a1.toNat ≤ 35184372088832)) (by omega)) (Below.refl _ _) (Nat.le_refl _) ?_; intro v269 w16 ho17 hb hg_ hnew_; clear hg_ hnew_; (first | rw [← Ny268.out] at ho17 | (simp only [Int.reduceToNat] at ho17; rw [← Ny268.out] at ho17)); have n0_ := Aside0.mk (Kd.S_elder' (by (with_reducible repeat (first | apply Kd.S_alloc | apply Kd.S_drewN | apply Kd.S_drew)); exact HO_10.out) (Kd.R_base ho17) hb); have n1_ := Aside0.mk (Kd.R_lower ho17 (below_size (by repeat (first | (with_reducible first | exact HB.out | apply below_alloc | apply pw_below_drewN | apply below_drew1) | exact HB.out)))); have n2_ := Aside0.mk (below_step (by repeat (first | (with_reducible first | exact HB.out | apply below_alloc | apply pw_below_drewN | apply below_drew1) | exact HB.out)) hb); clear HO_10; clear HB; have HO_10 := n0_; have HO270 := n1_; have HB := n2_; clear n0_ n1_ n2_; clear hb ho17))
          repeat (go_quiet (first | ((with_reducible refine gate_dst (N := 45) rfl ?_); refine Kd.R_make (Kd.int .i64) _ 3 rfl (N := 45) rfl 29 _ _ rfl a1 rfl rfl Try.underlying29 (.int .i64 0) 8 info3 rfl (by decide) (by omega) 0 (ok := fun _ => True) (okp := fun _ => True) rfl (fun _ hk => hk) trivial (of_decide_eq_true (by first | (with_reducible assumption) | assumption)) (Nat.le_trans (Nat.mul_le_mul_right _ (of_decide_eq_true (by first | (with_reducible assumption) | assumption) : a1.toNat ≤ 35184372088832)) (by omega)) (Below.refl _ _) (Nat.le_refl _) ?_; intro v269 w16 ho17 hb hg_ hnew_; clear hg_ hnew_; (first | rw [← Ny268.out] at ho17 | (simp only [Int.reduceToNat] at ho17; rw [← Ny268.out] at ho17)); have n0_ := Aside0.mk (Kd.S_elder' (by (with_reducible repeat (first | apply Kd.S_alloc | apply Kd.S_drewN | apply Kd.S_drew)); exact HO_10.out) (Kd.R_base ho17) hb); have n1_ := Aside0.mk (Kd.R_lower ho17 (below_size (by repeat (first | (with_reducible first | exact HB.out | apply below_alloc | apply pw_below_drewN | apply below_drew1) | exact HB.out)))); have n2_ := Aside0.mk (below_step (by repeat (first | (with_reducible first | exact HB.out | apply below_alloc | apply pw_below_drewN | apply below_drew1) | exact HB.out)) hb); clear HO_10; clear HB; have HO_10 := n0_; have HO270 := n1_; have HB := n2_; clear n0_ n1_ n2_; clear hb ho17)); try go_wp2_with (first | ((with_reducible refine gate_dst (N := 45) rfl ?_); refine Kd.R_make (Kd.int .i64) _ 3 rfl (N := 45) rfl 29 _ _ rfl a1 rfl rfl Try.underlying29 (.int .i64 0) 8 info3 rfl (by decide) (by omega) 0 (ok := fun _ => True) (okp := fun _ => True) rfl (fun _ hk => hk) trivial (of_decide_eq_true (by first | (with_reducible assumption) | assumption)) (Nat.le_trans (Nat.mul_le_mul_right _ (of_decide_eq_true (by first | (with_reducible assumption) | assumption) : a1.toNat ≤ 35184372088832)) (by omega)) (Below.refl _ _) (Nat.le_refl _) ?_; intro v269 w16 ho17 hb hg_ hnew_; clear hg_ hnew_; (first | rw [← Ny268.out] at ho17 | (simp only [Int.reduceToNat] at ho17; rw [← Ny268.out] at ho17)); have n0_ := Aside0.mk (Kd.S_elder' (by (with_reducible repeat (first | apply Kd.S_alloc | apply Kd.S_drewN | apply Kd.S_drew)); exact HO_10.out) (Kd.R_base ho17) hb); have n1_ := Aside0.mk (Kd.R_lower ho17 (below_size (by repeat (first | (with_reducible first | exact HB.out | apply below_alloc | apply pw_below_drewN | apply below_drew1) | exact HB.out)))); have n2_ := Aside0.mk (below_step (by repeat (first | (with_reducible first | exact HB.out | apply below_alloc | apply pw_below_drewN | apply below_drew1) | exact HB.out)) hb); clear HO_10; clear HB; have HO_10 := n0_; have HO270 := n1_; have HB := n2_; clear n0_ n1_ n2_; clear hb ho17)))
          go_loopg [13, 14, 15] k2 (fun kq v13 v14 v15 w' => ∃ (x12_3 : List Int) (x13_3 : Int) (x14_3 : Bool) (x15_3 : Int), v13 = .int .i64 x13_3 ∧ v14 = .bool x14_3 ∧ v15 = .int .i64 x15_3 ∧ Aside0 (spec_rvWays.l1 kq l0 a1 a2 (wrap64 ((l0.length : Int) - a1)) (ji10) x10_2 x11_2 x12_3 x13_3 x14_3 x15_3 = some (r1, r2)) ∧ Aside0 (kq ≤ k2) ∧ Aside0 (Kd.S (Kd.slice 3 (Kd.int .i64)) 29 w' w.heap.size (fun k_ => some k_ ≠ (v269 : Value).ownBlock) u10 x10_2) ∧ Aside0 (Kd.R (Kd.int .i64) 3 w' w.heap.size (fun _ => True) v269 x12_3) ∧ Aside0 (Below w.heap.size w w'))
          case atStart => exact ⟨(y268), (0), (true), (wrap64 (a1 - 1)), (by first | rfl | (simp; done) | (simp [*]; done)), (by first | rfl | (simp; done) | (simp [*]; done)), (by first | rfl | (simp; done) | (simp [*]; done)), H', ⟨Nat.le_refl _⟩, ⟨by (with_reducible repeat (first | apply Kd.S_alloc | apply Kd.S_drewN | apply Kd.S_drew)); exact Kd.S_mono HO_10.out (fun _ hk => hk.2)⟩, ⟨by (with_reducible repeat (first | apply Kd.R_alloc | apply Kd.R_drewN | apply Kd.R_drew)); exact HO270.out⟩, ⟨by repeat (first | (with_reducible first | exact HB.out | apply below_alloc | apply pw_below_drewN | apply below_drew1) | exact HB.out)⟩⟩
          case round =>
           clear H'
           try clear c1
           try clear c2
           try clear p2
           try clear q2
           try clear hx2
           try clear qi2
           try clear c6
           try clear p6
           try clear c7
           try clear c7b0
           try clear c7b1
           try clear c8
           try clear c8b0
           try clear c8b1
           try clear c9
           try clear c11
           try clear c11b0
           try clear c11b1
           try clear c13
           try clear c13b0
           try clear c14
           try clear c14b0
           try clear c14b1
           try clear c15
           try clear c15b0
           try clear c15b1
           try clear hx267_0
           try clear p2
           try clear p267
           try clear p6
           try clear q2
           try clear q267
           obtain ⟨x12_3, x13_3, x14_3, x15_3, rfl, rfl, rfl, HA, HK3, HO_10, HO_12, HB⟩ := hrel
           cases gk with
           | zero => exact absurd HA.out (by simp [spec_rvWays.l1])
           | succ k3 =>
            have H := HA.out
            clear HA
            simp only [spec_rvWays.l1] at H
            have HC18 := Aside0.mk H
            clear H
            go_upto_region 12 with (fail)
            repeat (go_quiet (fail); go_upto_region 12 with (fail))
            go_cut [52] (fun v52 wc => ∃ (kq : Nat) (x52_17 : Bool), v52 = .bool x52_17 ∧ Aside0 (spec_rvWays.j3 kq l0 a1 a2 (wrap64 ((l0.length : Int) - a1)) (ji10) x10_2 x11_2 x12_3 x13_3 x14_3 x15_3 x52_17 = some (r1, r2)) ∧ Aside0 (kq ≤ k3) ∧ Aside0 (Kd.S (Kd.slice 3 (Kd.int .i64)) 29 wc w.heap.size (fun k_ => some k_ ≠ (v269 : Value).ownBlock) u10 x10_2) ∧ Aside0 (Kd.R (Kd.int .i64) 3 wc w.heap.size (fun _ => True) v269 x12_3) ∧ Aside0 (Below w.heap.size w wc))
            case first =>
             have H := HC18.out
             clear HC18
             by_cases c19 : x15_3 ≥ 0
             ·rw [if_pos c19] at H
              have c19b0 : decide (0 ≤ x15_3) = true := decide_eq_true c19
              clear c19
              (first | rw [c19b0] | (simp only [i64_w, i32_w]; rw [c19b0]) | skip)
              have H' := Aside0.mk H
              clear H
              go_wp2
              repeat (go_quiet (fail); try go_wp2)
              go_meet
              case rel => exact ⟨_, (x14_3), (by first | rfl | (simp; done) | (simp [*]; done)), H', ⟨by have := HJ3.out; have := HK2.out; have := HK3.out; first | omega | exact Nat.le_refl _⟩, ⟨by (with_reducible repeat (first | apply Kd.S_alloc | apply Kd.S_drewN | apply Kd.S_drew)); exact HO_10.out⟩, ⟨by (with_reducible repeat (first | apply Kd.R_alloc | apply Kd.R_drewN | apply Kd.R_drew)); exact HO_12.out⟩, ⟨by repeat (first | (with_reducible first | exact HB.out | apply below_alloc | apply pw_below_drewN | apply below_drew1) | exact HB.out)⟩⟩
             ·rw [if_neg c19] at H
              have c19b0 : decide (0 ≤ x15_3) = false := decide_eq_false c19
              clear c19
              (first | rw [c19b0] | (simp only [i64_w, i32_w]; rw [c19b0]) | skip)
              have H' := Aside0.mk H
              clear H
              go_wp2
              repeat (go_quiet (fail); try go_wp2)
              go_meet
              case rel => exact ⟨_, (false), (by first | rfl | (simp; done) | (simp [*]; done)), H', ⟨by have := HJ3.out; have := HK2.out; have := HK3.out; first | omega | exact Nat.le_refl _⟩, ⟨by (with_reducible repeat (first | apply Kd.S_alloc | apply Kd.S_drewN | apply Kd.S_drew)); exact HO_10.out⟩, ⟨by (with_reducible repeat (first | apply Kd.R_alloc | apply Kd.R_drewN | apply Kd.R_drew)); exact HO_12.out⟩, ⟨by repeat (first | (with_reducible first | exact HB.out | apply below_alloc | apply pw_below_drewN | apply below_drew1) | exact HB.out)⟩⟩
            case rest =>
             clear HC18
             try clear c1
             try clear c2
             try clear p2
             try clear q2
             try clear hx2
             try clear qi2
             try clear c6
             try clear p6
             try clear c7
             try clear c7b0
             try clear c7b1
             try clear c8
             try clear c8b0
             try clear c8b1
             try clear c9
             try clear c11
             try clear c11b0
             try clear c11b1
             try clear c13
             try clear c13b0
             try clear c14
             try clear c14b0
             try clear c14b1
             try clear c15
             try clear c15b0
             try clear c15b1
             try clear c19
             try clear c19b0
             try clear hx267_0
             try clear p2
             try clear p267
             try clear p6
             try clear q2
             try clear q267
             obtain ⟨kq, x52_17, rfl, HA, HJ17, HO_10, HO_12, HB⟩ := hcut
             cases kq with
             | zero => exact absurd HA.out (by simp [spec_rvWays.j3])
             | succ kj17 =>
              have H := HA.out
              clear HA
              simp only [spec_rvWays.j3] at H
              by_cases c20 : x52_17 = true
              ·subst c20
               have H1 : ((spec_l1Least.f x15_3 (wrap64 ((wrap64 (a1 - 1)) - x15_3))).bind fun t274 => (if x15_3 ≥ (wrap64 (a1 - (ji10))) then (if 0 ≤ (wrap64 ((wrap64 (a1 - 1)) - x15_3)) then (if 0 ≤ (wrap64 ((wrap64 ((l0.length : Int) - a1)) + x15_3)) then (if (wrap64 ((wrap64 ((l0.length : Int) - a1)) + x15_3)) < (l0.length : Int) then (if 0 ≤ x15_3 then (if x15_3 < (x12_3.length : Int) then ((some (x12_3.set (x15_3 : Int).toNat (wrap64 ((wrap64 ((rd l0 (wrap64 ((wrap64 ((l0.length : Int) - a1)) + x15_3))) + (wrap64 (a2 * (Int.tmod (shr .i64 x11_2 (wrap64 ((wrap64 (a1 - 1)) - x15_3))) 2))))) - x13_3)) : List Int)).bind fun y276 => ((spec_l1In.f (rd y276 x15_3) 0 (wrap64 ((wrap64 (2 * a2)) - 2))).bind fun t278 => (if t278 = true then (if a2 = 0 then (none) else (if 0 ≤ t274 then (if t274 < (x12_3.length : Int) then (spec_rvWays.l1 kj17 l0 a1 a2 (wrap64 ((l0.length : Int) - a1)) (ji10) x10_2 x11_2 (y276.set (t274 : Int).toNat (rd y276 x15_3)) (Int.tmod (shr .i64 x11_2 (wrap64 ((wrap64 (a1 - 1)) - x15_3))) 2) ((wrap64 (Int.tdiv (wrap64 ((rd y276 x15_3) + x13_3)) a2)) == (Int.tmod (shr .i64 x11_2 (wrap64 ((wrap64 (a1 - 1)) - x15_3))) 2)) (wrap64 (x15_3 - 1))) else (none)) else (none))) else (if 0 ≤ t274 then (if t274 < (x12_3.length : Int) then (spec_rvWays.l1 kj17 l0 a1 a2 (wrap64 ((l0.length : Int) - a1)) (ji10) x10_2 x11_2 (y276.set (t274 : Int).toNat (rd y276 x15_3)) (Int.tmod (shr .i64 x11_2 (wrap64 ((wrap64 (a1 - 1)) - x15_3))) 2) false (wrap64 (x15_3 - 1))) else (none)) else (none))))) else (none)) else (none)) else (none)) else (none)) else (none)) else (if 0 ≤ t274 then (if t274 < (x12_3.length : Int) then (if a2 = 0 then (none) else (if 0 ≤ (wrap64 ((wrap64 ((l0.length : Int) - a1)) + x15_3)) then (if (wrap64 ((wrap64 ((l0.length : Int) - a1)) + x15_3)) < (l0.length : Int) then (spec_rvWays.l1 kj17 l0 a1 a2 (wrap64 ((l0.length : Int) - a1)) (ji10) x10_2 x11_2 x12_3 (wrap64 (Int.tdiv (wrap64 ((rd x12_3 t274) + x13_3)) a2)) ((Int.tmod (wrap64 ((rd x12_3 t274) + x13_3)) a2) == (rd l0 (wrap64 ((wrap64 ((l0.length : Int) - a1)) + x15_3)))) (wrap64 (x15_3 - 1))) else (none)) else (none))) else (none)) else (none)))) = some (r1, r2) := by rw [if_pos rfl] at H; exact H
               clear H
               have H := H1
               clear H1
               replace H := Option.bind_eq_some_iff.mp H
               obtain ⟨t274, A210, H⟩ := H
               replace H : (if x15_3 ≥ (wrap64 (a1 - (ji10))) then (if 0 ≤ (wrap64 ((wrap64 (a1 - 1)) - x15_3)) then (if 0 ≤ (wrap64 ((wrap64 ((l0.length : Int) - a1)) + x15_3)) then (if (wrap64 ((wrap64 ((l0.length : Int) - a1)) + x15_3)) < (l0.length : Int) then (if 0 ≤ x15_3 then (if x15_3 < (x12_3.length : Int) then ((some (x12_3.set (x15_3 : Int).toNat (wrap64 ((wrap64 ((rd l0 (wrap64 ((wrap64 ((l0.length : Int) - a1)) + x15_3))) + (wrap64 (a2 * (Int.tmod (shr .i64 x11_2 (wrap64 ((wrap64 (a1 - 1)) - x15_3))) 2))))) - x13_3)) : List Int)).bind fun y276 => ((spec_l1In.f (rd y276 x15_3) 0 (wrap64 ((wrap64 (2 * a2)) - 2))).bind fun t278 => (if t278 = true then (if a2 = 0 then (none) else (if 0 ≤ t274 then (if t274 < (x12_3.length : Int) then (spec_rvWays.l1 kj17 l0 a1 a2 (wrap64 ((l0.length : Int) - a1)) (ji10) x10_2 x11_2 (y276.set (t274 : Int).toNat (rd y276 x15_3)) (Int.tmod (shr .i64 x11_2 (wrap64 ((wrap64 (a1 - 1)) - x15_3))) 2) ((wrap64 (Int.tdiv (wrap64 ((rd y276 x15_3) + x13_3)) a2)) == (Int.tmod (shr .i64 x11_2 (wrap64 ((wrap64 (a1 - 1)) - x15_3))) 2)) (wrap64 (x15_3 - 1))) else (none)) else (none))) else (if 0 ≤ t274 then (if t274 < (x12_3.length : Int) then (spec_rvWays.l1 kj17 l0 a1 a2 (wrap64 ((l0.length : Int) - a1)) (ji10) x10_2 x11_2 (y276.set (t274 : Int).toNat (rd y276 x15_3)) (Int.tmod (shr .i64 x11_2 (wrap64 ((wrap64 (a1 - 1)) - x15_3))) 2) false (wrap64 (x15_3 - 1))) else (none)) else (none))))) else (none)) else (none)) else (none)) else (none)) else (none)) else (if 0 ≤ t274 then (if t274 < (x12_3.length : Int) then (if a2 = 0 then (none) else (if 0 ≤ (wrap64 ((wrap64 ((l0.length : Int) - a1)) + x15_3)) then (if (wrap64 ((wrap64 ((l0.length : Int) - a1)) + x15_3)) < (l0.length : Int) then (spec_rvWays.l1 kj17 l0 a1 a2 (wrap64 ((l0.length : Int) - a1)) (ji10) x10_2 x11_2 x12_3 (wrap64 (Int.tdiv (wrap64 ((rd x12_3 t274) + x13_3)) a2)) ((Int.tmod (wrap64 ((rd x12_3 t274) + x13_3)) a2) == (rd l0 (wrap64 ((wrap64 ((l0.length : Int) - a1)) + x15_3)))) (wrap64 (x15_3 - 1))) else (none)) else (none))) else (none)) else (none))) = some (r1, r2) := H
               have A21 := Aside0.mk A210
               clear A210
               by_cases c22 : x15_3 ≥ (wrap64 (a1 - (ji10)))
               ·rw [if_pos c22] at H
                have c22b0 : decide ((wrap64 (a1 - (ji10))) ≤ x15_3) = true := decide_eq_true c22
                clear c22
                obtain ⟨ji23, hji23⟩ : ∃ j_ : Int, (wrap64 ((wrap64 (a1 - 1)) - x15_3)) = j_ := ⟨_, rfl⟩
                replace H : (if 0 ≤ (ji23) then (if 0 ≤ (wrap64 ((wrap64 ((l0.length : Int) - a1)) + x15_3)) then (if (wrap64 ((wrap64 ((l0.length : Int) - a1)) + x15_3)) < (l0.length : Int) then (if 0 ≤ x15_3 then (if x15_3 < (x12_3.length : Int) then ((some (x12_3.set (x15_3 : Int).toNat (wrap64 ((wrap64 ((rd l0 (wrap64 ((wrap64 ((l0.length : Int) - a1)) + x15_3))) + (wrap64 (a2 * (Int.tmod (shr .i64 x11_2 (ji23)) 2))))) - x13_3)) : List Int)).bind fun y276 => ((spec_l1In.f (rd y276 x15_3) 0 (wrap64 ((wrap64 (2 * a2)) - 2))).bind fun t278 => (if t278 = true then (if a2 = 0 then (none) else (if 0 ≤ t274 then (if t274 < (x12_3.length : Int) then (spec_rvWays.l1 kj17 l0 a1 a2 (wrap64 ((l0.length : Int) - a1)) (ji10) x10_2 x11_2 (y276.set (t274 : Int).toNat (rd y276 x15_3)) (Int.tmod (shr .i64 x11_2 (ji23)) 2) ((wrap64 (Int.tdiv (wrap64 ((rd y276 x15_3) + x13_3)) a2)) == (Int.tmod (shr .i64 x11_2 (ji23)) 2)) (wrap64 (x15_3 - 1))) else (none)) else (none))) else (if 0 ≤ t274 then (if t274 < (x12_3.length : Int) then (spec_rvWays.l1 kj17 l0 a1 a2 (wrap64 ((l0.length : Int) - a1)) (ji10) x10_2 x11_2 (y276.set (t274 : Int).toNat (rd y276 x15_3)) (Int.tmod (shr .i64 x11_2 (ji23)) 2) false (wrap64 (x15_3 - 1))) else (none)) else (none))))) else (none)) else (none)) else (none)) else (none)) else (none)) = some (r1, r2) := by first | (rw [hji23] at H; exact H) | (simp only [hji23] at H ⊢; exact H)
                (try rw [hji23] at A21)
                have hji23w : (IntKind.i64.wrap ((wrap64 (a1 - 1)) - x15_3)) = ji23 := (i64_w _).trans hji23
                by_cases c24 : 0 ≤ (ji23)
                ·rw [if_pos c24] at H
                 have c24b0 := eq_true c24
                 have c24b1 : decide (0 ≤ (ji23)) = true := decide_eq_true c24
                 clear c24
                 obtain ⟨ji25, hji25⟩ : ∃ j_ : Int, (shr .i64 x11_2 (ji23)) = j_ := ⟨_, rfl⟩
                 replace H : (if 0 ≤ (wrap64 ((wrap64 ((l0.length : Int) - a1)) + x15_3)) then (if (wrap64 ((wrap64 ((l0.length : Int) - a1)) + x15_3)) < (l0.length : Int) then (if 0 ≤ x15_3 then (if x15_3 < (x12_3.length : Int) then ((some (x12_3.set (x15_3 : Int).toNat (wrap64 ((wrap64 ((rd l0 (wrap64 ((wrap64 ((l0.length : Int) - a1)) + x15_3))) + (wrap64 (a2 * (Int.tmod (ji25) 2))))) - x13_3)) : List Int)).bind fun y276 => ((spec_l1In.f (rd y276 x15_3) 0 (wrap64 ((wrap64 (2 * a2)) - 2))).bind fun t278 => (if t278 = true then (if a2 = 0 then (none) else (if 0 ≤ t274 then (if t274 < (x12_3.length : Int) then (spec_rvWays.l1 kj17 l0 a1 a2 (wrap64 ((l0.length : Int) - a1)) (ji10) x10_2 x11_2 (y276.set (t274 : Int).toNat (rd y276 x15_3)) (Int.tmod (ji25) 2) ((wrap64 (Int.tdiv (wrap64 ((rd y276 x15_3) + x13_3)) a2)) == (Int.tmod (ji25) 2)) (wrap64 (x15_3 - 1))) else (none)) else (none))) else (if 0 ≤ t274 then (if t274 < (x12_3.length : Int) then (spec_rvWays.l1 kj17 l0 a1 a2 (wrap64 ((l0.length : Int) - a1)) (ji10) x10_2 x11_2 (y276.set (t274 : Int).toNat (rd y276 x15_3)) (Int.tmod (ji25) 2) false (wrap64 (x15_3 - 1))) else (none)) else (none))))) else (none)) else (none)) else (none)) else (none)) = some (r1, r2) := by first | (rw [hji25] at H; exact H) | (simp only [hji25] at H ⊢; exact H)
                 (try rw [hji25] at A21)
                 have hji25_ : (x11_2 / 2 ^ min (ji23).toNat 64) = ji25 := hji25
                 have hji25z : (ji23) ≤ 64 → (x11_2 / 2 ^ (ji23).toNat) = ji25 := shr_small hji25
                 obtain ⟨ji26, hji26⟩ : ∃ j_ : Int, (wrap64 ((wrap64 ((l0.length : Int) - a1)) + x15_3)) = j_ := ⟨_, rfl⟩
                 replace H : (if 0 ≤ (ji26) then (if (ji26) < (l0.length : Int) then (if 0 ≤ x15_3 then (if x15_3 < (x12_3.length : Int) then ((some (x12_3.set (x15_3 : Int).toNat (wrap64 ((wrap64 ((rd l0 (ji26)) + (wrap64 (a2 * (Int.tmod (ji25) 2))))) - x13_3)) : List Int)).bind fun y276 => ((spec_l1In.f (rd y276 x15_3) 0 (wrap64 ((wrap64 (2 * a2)) - 2))).bind fun t278 => (if t278 = true then (if a2 = 0 then (none) else (if 0 ≤ t274 then (if t274 < (x12_3.length : Int) then (spec_rvWays.l1 kj17 l0 a1 a2 (wrap64 ((l0.length : Int) - a1)) (ji10) x10_2 x11_2 (y276.set (t274 : Int).toNat (rd y276 x15_3)) (Int.tmod (ji25) 2) ((wrap64 (Int.tdiv (wrap64 ((rd y276 x15_3) + x13_3)) a2)) == (Int.tmod (ji25) 2)) (wrap64 (x15_3 - 1))) else (none)) else (none))) else (if 0 ≤ t274 then (if t274 < (x12_3.length : Int) then (spec_rvWays.l1 kj17 l0 a1 a2 (wrap64 ((l0.length : Int) - a1)) (ji10) x10_2 x11_2 (y276.set (t274 : Int).toNat (rd y276 x15_3)) (Int.tmod (ji25) 2) false (wrap64 (x15_3 - 1))) else (none)) else (none))))) else (none)) else (none)) else (none)) else (none)) = some (r1, r2) := by first | (rw [hji26] at H; exact H) | (simp only [hji26] at H ⊢; exact H)
                 (try rw [hji26] at A21)
                 have hji26w : (IntKind.i64.wrap ((wrap64 ((l0.length : Int) - a1)) + x15_3)) = ji26 := (i64_w _).trans hji26
                 by_cases c27 : 0 ≤ (ji26)
                 ·rw [if_pos c27] at H
                  have c27b0 : decide (0 ≤ (ji26)) = true := decide_eq_true c27
                  clear c27
                  by_cases c28 : (ji26) < (l0.length : Int)
                  ·rw [if_pos c28] at H
                   have c28b0 : decide ((ji26) < (l0.length : Int)) = true := decide_eq_true c28
                   clear c28
                   by_cases c29 : 0 ≤ x15_3
                   ·rw [if_pos c29] at H
                    have c29b0 : decide (0 ≤ x15_3) = true := decide_eq_true c29
                    clear c29
                    by_cases c30 : x15_3 < (x12_3.length : Int)
                    ·rw [if_pos c30] at H
                     have c30b0 : decide (x15_3 < (x12_3.length : Int)) = true := decide_eq_true c30
                     clear c30
                     obtain ⟨y276, hy276⟩ : ∃ y_ : List Int, y_ = (x12_3.set (x15_3 : Int).toNat (wrap64 ((wrap64 ((rd l0 (ji26)) + (wrap64 (a2 * (Int.tmod (ji25) 2))))) - x13_3))) := ⟨_, rfl⟩
                     replace H : ((spec_l1In.f (rd y276 x15_3) 0 (wrap64 ((wrap64 (2 * a2)) - 2))).bind fun t278 => (if t278 = true then (if a2 = 0 then (none) else (if 0 ≤ t274 then (if t274 < (x12_3.length : Int) then (spec_rvWays.l1 kj17 l0 a1 a2 (wrap64 ((l0.length : Int) - a1)) (ji10) x10_2 x11_2 (y276.set (t274 : Int).toNat (rd y276 x15_3)) (Int.tmod (ji25) 2) ((wrap64 (Int.tdiv (wrap64 ((rd y276 x15_3) + x13_3)) a2)) == (Int.tmod (ji25) 2)) (wrap64 (x15_3 - 1))) else (none)) else (none))) else (if 0 ≤ t274 then (if t274 < (x12_3.length : Int) then (spec_rvWays.l1 kj17 l0 a1 a2 (wrap64 ((l0.length : Int) - a1)) (ji10) x10_2 x11_2 (y276.set (t274 : Int).toNat (rd y276 x15_3)) (Int.tmod (ji25) 2) false (wrap64 (x15_3 - 1))) else (none)) else (none)))) = some (r1, r2) := by first | (rw [hy276]; with_reducible exact H) | (have H2_ := (Option.bind_some _ _).symm.trans H; rw [hy276]; with_reducible exact H2_) | (have H2_ := (Option.bind_some _ _).symm.trans H; with_reducible exact H2_) | with_reducible exact H | (rw [hy276]; exact H) | exact H
                     have Ny276 := Aside0.mk hy276
                     clear hy276
                     replace H := Option.bind_eq_some_iff.mp H
                     obtain ⟨t278, A320, H⟩ := H
                     replace H : (if t278 = true then (if a2 = 0 then (none) else (if 0 ≤ t274 then (if t274 < (x12_3.length : Int) then (spec_rvWays.l1 kj17 l0 a1 a2 (wrap64 ((l0.length : Int) - a1)) (ji10) x10_2 x11_2 (y276.set (t274 : Int).toNat (rd y276 x15_3)) (Int.tmod (ji25) 2) ((wrap64 (Int.tdiv (wrap64 ((rd y276 x15_3) + x13_3)) a2)) == (Int.tmod (ji25) 2)) (wrap64 (x15_3 - 1))) else (none)) else (none))) else (if 0 ≤ t274 then (if t274 < (x12_3.length : Int) then (spec_rvWays.l1 kj17 l0 a1 a2 (wrap64 ((l0.length : Int) - a1)) (ji10) x10_2 x11_2 (y276.set (t274 : Int).toNat (rd y276 x15_3)) (Int.tmod (ji25) 2) false (wrap64 (x15_3 - 1))) else (none)) else (none))) = some (r1, r2) := H
                     have A32 := Aside0.mk A320
                     clear A320
                     by_cases c33 : t278 = true
                     ·subst c33
                      have H1 : (if a2 = 0 then (none) else (if 0 ≤ t274 then (if t274 < (x12_3.length : Int) then (spec_rvWays.l1 kj17 l0 a1 a2 (wrap64 ((l0.length : Int) - a1)) (ji10) x10_2 x11_2 (y276.set (t274 : Int).toNat (rd y276 x15_3)) (Int.tmod (ji25) 2) ((wrap64 (Int.tdiv (wrap64 ((rd y276 x15_3) + x13_3)) a2)) == (Int.tmod (ji25) 2)) (wrap64 (x15_3 - 1))) else (none)) else (none))) = some (r1, r2) := by rw [if_pos rfl] at H; exact H
                      clear H
                      have H := H1
                      clear H1
                      by_cases c34 : a2 = 0
                      ·rw [if_pos c34] at H
                       exact absurd H (by simp)
                      ·rw [if_neg c34] at H
                       have c34b0 : (a2 == 0) = false := beq_eq_false_iff_ne.mpr c34
                       have c34b1 : (a2 != 0) = true := bne_iff_ne.mpr c34
                       by_cases c35 : 0 ≤ t274
                       ·rw [if_pos c35] at H
                        have c35b0 : decide (0 ≤ t274) = true := decide_eq_true c35
                        clear c35
                        by_cases c36 : t274 < (x12_3.length : Int)
                        ·rw [if_pos c36] at H
                         have c36b0 : decide (t274 < (x12_3.length : Int)) = true := decide_eq_true c36
                         clear c36
                         obtain ⟨y281, hy281⟩ : ∃ y_ : List Int, y_ = (y276.set (t274 : Int).toNat (rd y276 x15_3)) := ⟨_, rfl⟩
                         replace H : (spec_rvWays.l1 kj17 l0 a1 a2 (wrap64 ((l0.length : Int) - a1)) (ji10) x10_2 x11_2 y281 (Int.tmod (ji25) 2) ((wrap64 (Int.tdiv (wrap64 ((rd y276 x15_3) + x13_3)) a2)) == (Int.tmod (ji25) 2)) (wrap64 (x15_3 - 1))) = some (r1, r2) := by first | (rw [hy281]; with_reducible exact H) | (have H2_ := (Option.bind_some _ _).symm.trans H; rw [hy281]; with_reducible exact H2_) | (have H2_ := (Option.bind_some _ _).symm.trans H; with_reducible exact H2_) | with_reducible exact H | (rw [hy281]; exact H) | exact H
                         have Ny281 := Aside0.mk hy281
                         clear hy281
                         have H' := Aside0.mk H
                         clear H
                         go_wp2_with (first | (go_at_call 273; (with_reducible refine (spec_l1Least.calls x15_3 ji23 t274 _ A21.out).mono ?_); rintro e w' ⟨rfl, ⟨nd, rfl⟩⟩; (try first | exact ⟨rfl, _, World.drewN_drewN _ _ _⟩ | exact ⟨rfl, _, Eq.trans (World.drewN_drewN _ _ _) (congrArg (World.drewN _) (Nat.add_assoc _ _ _))⟩); have p275 : 0 ≤ ((ji26) : Int) := of_decide_eq_true (by first | (with_reducible assumption) | assumption); have q275 : (ji26) < (l0.length : Int) := of_decide_eq_true (by first | (with_reducible assumption) | assumption); obtain ⟨ad275, e275, hx275_0⟩ := Kd.at_int HR0.out (ji26) p275 q275; cases e275; replace hx275_0 := (HB.out.cell (World.block_lt_of_cell? w _ hx275_0)).trans hx275_0; replace p275 := eq_true p275; replace q275 := eq_true q275; have p31 : 0 ≤ (x15_3 : Int) := of_decide_eq_true (by first | (with_reducible assumption) | assumption); have q31 : (x15_3 : Int) < ((x12_3.length : Int) : Int) := of_decide_eq_true (by first | (with_reducible assumption) | assumption); obtain ⟨go31, co31, eo31, gb31, gl31, cl31, HG31⟩ := Kd.R_form HO_12.out (by omega); (first | cases eo31 | (injection eo31 with ea_ en_ ec_; (first | subst ea_ | (injection ea_ with ea_; subst ea_)); subst ec_; clear en_)); have GB31 := Aside0.mk gb31; have GG31 := Aside0.mk HG31; clear gb31 gl31 HG31; obtain ⟨hx31_0, hf31_0⟩ := Kd.R_celln 0 HO_12.out (x15_3 : Int) p31 q31; replace p31 := eq_true p31; replace q31 := eq_true q31; obtain ⟨hy38_, hz38_⟩ := Kd.R_celln 0 HO_12.out (x15_3 : Int) (of_decide_eq_true (by first | (with_reducible assumption) | assumption)) (of_decide_eq_true (by first | (with_reducible assumption) | assumption)); have HP38 := Kd.R_putg HO_12.out (x15_3 : Int) (wrap64 ((wrap64 ((rd l0 (ji26)) + (wrap64 (a2 * (Int.tmod (ji25) 2))))) - x13_3))) | ((with_reducible refine gate_store (t := 3) (p := 87) rfl ?_); (try (rw [drewN_self wc]; generalize hq_ : World.drewN wc _ = wc; have n0_ := Aside0.mk (Kd.S_at hq_ HO_10.out); have n1_ := Aside0.mk (Kd.R_at hq_ HO_12.out); have n2_ := Aside0.mk (below_at hq_ HB.out); clear hq_ HO_10 HO_12 HB; have HO_10 := n0_; have HO_12 := n1_; have HB := n2_; clear n0_ n1_ n2_; (try (obtain ⟨hy38_, hz38_⟩ := Kd.R_celln 0 HO_12.out (x15_3 : Int) (of_decide_eq_true (by first | (with_reducible assumption) | assumption)) (of_decide_eq_true (by first | (with_reducible assumption) | assumption)))); (try (have HP38 := Kd.R_putg HO_12.out (x15_3 : Int) (wrap64 ((wrap64 ((rd l0 (ji26)) + (wrap64 (a2 * (Int.tmod (ji25) 2))))) - x13_3)))))); refine store_event (t := 3) (p := 87) (v := ?vo_w39) (w1 := (wc.setCell ⟨go31, (x15_3 : Int).toNat, none⟩ (.int .i64 (wrap64 ((wrap64 ((rd l0 (ji26)) + (wrap64 (a2 * (Int.tmod (ji25) 2))))) - x13_3))))) ?hg ?ho ?hn ?hr ?_; (case ho => rfl); (case hg => rfl); (case hn => rfl); (case hr => first | (go_simp; done) | (go_simp; rfl)); intro w39 hw; have hg : wc.grownBy w39 (some go31) := (by rw [hw]; exact HP38.2); have hp_ : Kd.R (Kd.int .i64) 3 w39 w.heap.size (fun _ => True) (.slice (some ⟨go31, 0, none⟩) x12_3.length co31) y276 := (by rw [hw, Ny276.out]; exact HP38.1); clear HP38; have n0_ := Aside0.mk (Kd.S_after (v := (.slice (some ⟨go31, 0, none⟩) x12_3.length co31)) (v1 := (.slice (some ⟨go31, 0, none⟩) x12_3.length co31)) (ok := (fun _ => True)) (by (with_reducible repeat (first | apply Kd.S_alloc | apply Kd.S_drewN | apply Kd.S_drew)); exact Kd.S_mono HO_10.out (fun _ hk => ⟨trivial, hk⟩)) hg (.inl rfl)); have n1_ := Aside0.mk (hp_); have n2_ := Aside0.mk ((by rw [hw]; exact below_set (HB.out) GB31.out : Below w.heap.size w w39)); clear HO_10; clear HO_12; clear HB; have HO_10 := n0_; have HO_12 := n1_; have HB := n2_; clear n0_ n1_ n2_; clear hg hw hp_; have p277 : 0 ≤ (x15_3 : Int) := of_decide_eq_true (by first | (with_reducible assumption) | assumption); have q277 : x15_3 < (y276.length : Int) := (by have h_ : (x15_3 : Int) < ((x12_3.length : Int) : Int) := of_decide_eq_true (by first | (with_reducible assumption) | assumption); first | (have e_ := (Kd.R_reads' HO_12.out).1; omega) | simpa only [Ny276.out, List.length_set] using h_); have ql277 : ((x15_3 : Int) < ((x12_3.length : Int) : Int)) = True := eq_true (of_decide_eq_true (by first | (with_reducible assumption) | assumption)); obtain ⟨ad277, e277, hx277_0⟩ := Kd.at_int (Kd.R_reads' HO_12.out).2.2 x15_3 p277 q277; obtain rfl : (⟨go31, 0, none⟩ : Addr) = ad277 := (by injection e277); (first | simp only [add_plain] at hx277_0 | simp only [add_at] at hx277_0 | simp only [Addr.add, Nat.zero_add] at hx277_0 | skip); replace p277 := eq_true p277; replace q277 := eq_true q277) | (go_at_call 197; (with_reducible refine (spec_l1In.calls (rd y276 x15_3) 0 (wrap64 ((wrap64 (2 * a2)) - 2)) true _ A32.out).mono ?_); rintro e w' ⟨rfl, ⟨nd, rfl⟩⟩; (try first | exact ⟨rfl, _, World.drewN_drewN _ _ _⟩ | exact ⟨rfl, _, Eq.trans (World.drewN_drewN _ _ _) (congrArg (World.drewN _) (Nat.add_assoc _ _ _))⟩); have p279 : 0 ≤ (x15_3 : Int) := of_decide_eq_true (by first | (with_reducible assumption) | assumption); have q279 : x15_3 < (y276.length : Int) := (by have h_ : (x15_3 : Int) < ((x12_3.length : Int) : Int) := of_decide_eq_true (by first | (with_reducible assumption) | assumption); first | (have e_ := (Kd.R_reads' HO_12.out).1; omega) | simpa only [Ny276.out, List.length_set] using h_); have ql279 : ((x15_3 : Int) < ((x12_3.length : Int) : Int)) = True := eq_true (of_decide_eq_true (by first | (with_reducible assumption) | assumption)); obtain ⟨ad279, e279, hx279_0⟩ := Kd.at_int (Kd.R_reads' HO_12.out).2.2 x15_3 p279 q279; obtain rfl : (⟨go31, 0, none⟩ : Addr) = ad279 := (by injection e279); (first | simp only [add_plain] at hx279_0 | simp only [add_at] at hx279_0 | simp only [Addr.add, Nat.zero_add] at hx279_0 | skip); replace p279 := eq_true p279; replace q279 := eq_true q279; have p280 : 0 ≤ (x15_3 : Int) := of_decide_eq_true (by first | (with_reducible assumption) | assumption); have q280 : x15_3 < (y276.length : Int) := (by have h_ : (x15_3 : Int) < ((x12_3.length : Int) : Int) := of_decide_eq_true (by first | (with_reducible assumption) | assumption); first | (have e_ := (Kd.R_reads' HO_12.out).1; omega) | simpa only [Ny276.out, List.length_set] using h_); have ql280 : ((x15_3 : Int) < ((x12_3.length : Int) : Int)) = True := eq_true (of_decide_eq_true (by first | (with_reducible assumption) | assumption)); obtain ⟨ad280, e280, hx280_0⟩ := Kd.at_int (Kd.R_reads' HO_12.out).2.2 x15_3 p280 q280; obtain rfl : (⟨go31, 0, none⟩ : Addr) = ad280 := (by injection e280); (first | simp only [add_plain] at hx280_0 | simp only [add_at] at hx280_0 | simp only [Addr.add, Nat.zero_add] at hx280_0 | skip); replace p280 := eq_true p280; replace q280 := eq_true q280; have p37 : 0 ≤ (t274 : Int) := of_decide_eq_true (by first | (with_reducible assumption) | assumption); have q37 : (t274 : Int) < ((x12_3.length : Int) : Int) := of_decide_eq_true (by first | (with_reducible assumption) | assumption); obtain ⟨hx37_0, hf37_0⟩ := Kd.R_celln 0 HO_12.out (t274 : Int) p37 q37; replace p37 := eq_true p37; replace q37 := eq_true q37; obtain ⟨hy40_, hz40_⟩ := Kd.R_celln 0 HO_12.out (t274 : Int) (of_decide_eq_true (by first | (with_reducible assumption) | assumption)) (of_decide_eq_true (by first | (with_reducible assumption) | assumption)); have HP40 := Kd.R_putg HO_12.out (t274 : Int) (rd y276 x15_3)) | ((with_reducible refine gate_store (t := 3) (p := 114) rfl ?_); (try (rw [drewN_self w39]; generalize hq_ : World.drewN w39 _ = w39; have n0_ := Aside0.mk (Kd.S_at hq_ HO_10.out); have n1_ := Aside0.mk (Kd.R_at hq_ HO_12.out); have n2_ := Aside0.mk (below_at hq_ HB.out); clear hq_ HO_10 HO_12 HB; have HO_10 := n0_; have HO_12 := n1_; have HB := n2_; clear n0_ n1_ n2_; (try (obtain ⟨hy40_, hz40_⟩ := Kd.R_celln 0 HO_12.out (t274 : Int) (of_decide_eq_true (by first | (with_reducible assumption) | assumption)) (of_decide_eq_true (by first | (with_reducible assumption) | assumption)))); (try (have HP40 := Kd.R_putg HO_12.out (t274 : Int) (rd y276 x15_3))))); refine store_event (t := 3) (p := 114) (v := ?vo_w41) (w1 := (w39.setCell ⟨go31, (t274 : Int).toNat, none⟩ (.int .i64 (rd y276 x15_3)))) ?hg ?ho ?hn ?hr ?_; (case ho => rfl); (case hg => rfl); (case hn => rfl); (case hr => first | (go_simp; done) | (go_simp; rfl)); intro w41 hw; have hg : w39.grownBy w41 (some go31) := (by rw [hw]; exact HP40.2); have hp_ : Kd.R (Kd.int .i64) 3 w41 w.heap.size (fun _ => True) (.slice (some ⟨go31, 0, none⟩) x12_3.length co31) y281 := (by rw [hw, Ny281.out]; exact HP40.1); clear HP40; have n0_ := Aside0.mk (Kd.S_after (v := (.slice (some ⟨go31, 0, none⟩) x12_3.length co31)) (v1 := (.slice (some ⟨go31, 0, none⟩) x12_3.length co31)) (ok := (fun _ => True)) (by (with_reducible repeat (first | apply Kd.S_alloc | apply Kd.S_drewN | apply Kd.S_drew)); exact HO_10.out) hg (.inl rfl)); have n1_ := Aside0.mk (hp_); have n2_ := Aside0.mk ((by rw [hw]; exact below_set (HB.out) GB31.out : Below w.heap.size w w41)); clear HO_10; clear HO_12; clear HB; have HO_10 := n0_; have HO_12 := n1_; have HB := n2_; clear n0_ n1_ n2_; clear hg hw hp_))
                         repeat (go_quiet (first | (go_at_call 273; (with_reducible refine (spec_l1Least.calls x15_3 ji23 t274 _ A21.out).mono ?_); rintro e w' ⟨rfl, ⟨nd, rfl⟩⟩; (try first | exact ⟨rfl, _, World.drewN_drewN _ _ _⟩ | exact ⟨rfl, _, Eq.trans (World.drewN_drewN _ _ _) (congrArg (World.drewN _) (Nat.add_assoc _ _ _))⟩); have p275 : 0 ≤ ((ji26) : Int) := of_decide_eq_true (by first | (with_reducible assumption) | assumption); have q275 : (ji26) < (l0.length : Int) := of_decide_eq_true (by first | (with_reducible assumption) | assumption); obtain ⟨ad275, e275, hx275_0⟩ := Kd.at_int HR0.out (ji26) p275 q275; cases e275; replace hx275_0 := (HB.out.cell (World.block_lt_of_cell? w _ hx275_0)).trans hx275_0; replace p275 := eq_true p275; replace q275 := eq_true q275; have p31 : 0 ≤ (x15_3 : Int) := of_decide_eq_true (by first | (with_reducible assumption) | assumption); have q31 : (x15_3 : Int) < ((x12_3.length : Int) : Int) := of_decide_eq_true (by first | (with_reducible assumption) | assumption); obtain ⟨go31, co31, eo31, gb31, gl31, cl31, HG31⟩ := Kd.R_form HO_12.out (by omega); (first | cases eo31 | (injection eo31 with ea_ en_ ec_; (first | subst ea_ | (injection ea_ with ea_; subst ea_)); subst ec_; clear en_)); have GB31 := Aside0.mk gb31; have GG31 := Aside0.mk HG31; clear gb31 gl31 HG31; obtain ⟨hx31_0, hf31_0⟩ := Kd.R_celln 0 HO_12.out (x15_3 : Int) p31 q31; replace p31 := eq_true p31; replace q31 := eq_true q31; obtain ⟨hy38_, hz38_⟩ := Kd.R_celln 0 HO_12.out (x15_3 : Int) (of_decide_eq_true (by first | (with_reducible assumption) | assumption)) (of_decide_eq_true (by first | (with_reducible assumption) | assumption)); have HP38 := Kd.R_putg HO_12.out (x15_3 : Int) (wrap64 ((wrap64 ((rd l0 (ji26)) + (wrap64 (a2 * (Int.tmod (ji25) 2))))) - x13_3))) | ((with_reducible refine gate_store (t := 3) (p := 87) rfl ?_); (try (rw [drewN_self wc]; generalize hq_ : World.drewN wc _ = wc; have n0_ := Aside0.mk (Kd.S_at hq_ HO_10.out); have n1_ := Aside0.mk (Kd.R_at hq_ HO_12.out); have n2_ := Aside0.mk (below_at hq_ HB.out); clear hq_ HO_10 HO_12 HB; have HO_10 := n0_; have HO_12 := n1_; have HB := n2_; clear n0_ n1_ n2_; (try (obtain ⟨hy38_, hz38_⟩ := Kd.R_celln 0 HO_12.out (x15_3 : Int) (of_decide_eq_true (by first | (with_reducible assumption) | assumption)) (of_decide_eq_true (by first | (with_reducible assumption) | assumption)))); (try (have HP38 := Kd.R_putg HO_12.out (x15_3 : Int) (wrap64 ((wrap64 ((rd l0 (ji26)) + (wrap64 (a2 * (Int.tmod (ji25) 2))))) - x13_3)))))); refine store_event (t := 3) (p := 87) (v := ?vo_w39) (w1 := (wc.setCell ⟨go31, (x15_3 : Int).toNat, none⟩ (.int .i64 (wrap64 ((wrap64 ((rd l0 (ji26)) + (wrap64 (a2 * (Int.tmod (ji25) 2))))) - x13_3))))) ?hg ?ho ?hn ?hr ?_; (case ho => rfl); (case hg => rfl); (case hn => rfl); (case hr => first | (go_simp; done) | (go_simp; rfl)); intro w39 hw; have hg : wc.grownBy w39 (some go31) := (by rw [hw]; exact HP38.2); have hp_ : Kd.R (Kd.int .i64) 3 w39 w.heap.size (fun _ => True) (.slice (some ⟨go31, 0, none⟩) x12_3.length co31) y276 := (by rw [hw, Ny276.out]; exact HP38.1); clear HP38; have n0_ := Aside0.mk (Kd.S_after (v := (.slice (some ⟨go31, 0, none⟩) x12_3.length co31)) (v1 := (.slice (some ⟨go31, 0, none⟩) x12_3.length co31)) (ok := (fun _ => True)) (by (with_reducible repeat (first | apply Kd.S_alloc | apply Kd.S_drewN | apply Kd.S_drew)); exact Kd.S_mono HO_10.out (fun _ hk => ⟨trivial, hk⟩)) hg (.inl rfl)); have n1_ := Aside0.mk (hp_); have n2_ := Aside0.mk ((by rw [hw]; exact below_set (HB.out) GB31.out : Below w.heap.size w w39)); clear HO_10; clear HO_12; clear HB; have HO_10 := n0_; have HO_12 := n1_; have HB := n2_; clear n0_ n1_ n2_; clear hg hw hp_; have p277 : 0 ≤ (x15_3 : Int) := of_decide_eq_true (by first | (with_reducible assumption) | assumption); have q277 : x15_3 < (y276.length : Int) := (by have h_ : (x15_3 : Int) < ((x12_3.length : Int) : Int) := of_decide_eq_true (by first | (with_reducible assumption) | assumption); first | (have e_ := (Kd.R_reads' HO_12.out).1; omega) | simpa only [Ny276.out, List.length_set] using h_); have ql277 : ((x15_3 : Int) < ((x12_3.length : Int) : Int)) = True := eq_true (of_decide_eq_true (by first | (with_reducible assumption) | assumption)); obtain ⟨ad277, e277, hx277_0⟩ := Kd.at_int (Kd.R_reads' HO_12.out).2.2 x15_3 p277 q277; obtain rfl : (⟨go31, 0, none⟩ : Addr) = ad277 := (by injection e277); (first | simp only [add_plain] at hx277_0 | simp only [add_at] at hx277_0 | simp only [Addr.add, Nat.zero_add] at hx277_0 | skip); replace p277 := eq_true p277; replace q277 := eq_true q277) | (go_at_call 197; (with_reducible refine (spec_l1In.calls (rd y276 x15_3) 0 (wrap64 ((wrap64 (2 * a2)) - 2)) true _ A32.out).mono ?_); rintro e w' ⟨rfl, ⟨nd, rfl⟩⟩; (try first | exact ⟨rfl, _, World.drewN_drewN _ _ _⟩ | exact ⟨rfl, _, Eq.trans (World.drewN_drewN _ _ _) (congrArg (World.drewN _) (Nat.add_assoc _ _ _))⟩); have p279 : 0 ≤ (x15_3 : Int) := of_decide_eq_true (by first | (with_reducible assumption) | assumption); have q279 : x15_3 < (y276.length : Int) := (by have h_ : (x15_3 : Int) < ((x12_3.length : Int) : Int) := of_decide_eq_true (by first | (with_reducible assumption) | assumption); first | (have e_ := (Kd.R_reads' HO_12.out).1; omega) | simpa only [Ny276.out, List.length_set] using h_); have ql279 : ((x15_3 : Int) < ((x12_3.length : Int) : Int)) = True := eq_true (of_decide_eq_true (by first | (with_reducible assumption) | assumption)); obtain ⟨ad279, e279, hx279_0⟩ := Kd.at_int (Kd.R_reads' HO_12.out).2.2 x15_3 p279 q279; obtain rfl : (⟨go31, 0, none⟩ : Addr) = ad279 := (by injection e279); (first | simp only [add_plain] at hx279_0 | simp only [add_at] at hx279_0 | simp only [Addr.add, Nat.zero_add] at hx279_0 | skip); replace p279 := eq_true p279; replace q279 := eq_true q279; have p280 : 0 ≤ (x15_3 : Int) := of_decide_eq_true (by first | (with_reducible assumption) | assumption); have q280 : x15_3 < (y276.length : Int) := (by have h_ : (x15_3 : Int) < ((x12_3.length : Int) : Int) := of_decide_eq_true (by first | (with_reducible assumption) | assumption); first | (have e_ := (Kd.R_reads' HO_12.out).1; omega) | simpa only [Ny276.out, List.length_set] using h_); have ql280 : ((x15_3 : Int) < ((x12_3.length : Int) : Int)) = True := eq_true (of_decide_eq_true (by first | (with_reducible assumption) | assumption)); obtain ⟨ad280, e280, hx280_0⟩ := Kd.at_int (Kd.R_reads' HO_12.out).2.2 x15_3 p280 q280; obtain rfl : (⟨go31, 0, none⟩ : Addr) = ad280 := (by injection e280); (first | simp only [add_plain] at hx280_0 | simp only [add_at] at hx280_0 | simp only [Addr.add, Nat.zero_add] at hx280_0 | skip); replace p280 := eq_true p280; replace q280 := eq_true q280; have p37 : 0 ≤ (t274 : Int) := of_decide_eq_true (by first | (with_reducible assumption) | assumption); have q37 : (t274 : Int) < ((x12_3.length : Int) : Int) := of_decide_eq_true (by first | (with_reducible assumption) | assumption); obtain ⟨hx37_0, hf37_0⟩ := Kd.R_celln 0 HO_12.out (t274 : Int) p37 q37; replace p37 := eq_true p37; replace q37 := eq_true q37; obtain ⟨hy40_, hz40_⟩ := Kd.R_celln 0 HO_12.out (t274 : Int) (of_decide_eq_true (by first | (with_reducible assumption) | assumption)) (of_decide_eq_true (by first | (with_reducible assumption) | assumption)); have HP40 := Kd.R_putg HO_12.out (t274 : Int) (rd y276 x15_3)) | ((with_reducible refine gate_store (t := 3) (p := 114) rfl ?_); (try (rw [drewN_self w39]; generalize hq_ : World.drewN w39 _ = w39; have n0_ := Aside0.mk (Kd.S_at hq_ HO_10.out); have n1_ := Aside0.mk (Kd.R_at hq_ HO_12.out); have n2_ := Aside0.mk (below_at hq_ HB.out); clear hq_ HO_10 HO_12 HB; have HO_10 := n0_; have HO_12 := n1_; have HB := n2_; clear n0_ n1_ n2_; (try (obtain ⟨hy40_, hz40_⟩ := Kd.R_celln 0 HO_12.out (t274 : Int) (of_decide_eq_true (by first | (with_reducible assumption) | assumption)) (of_decide_eq_true (by first | (with_reducible assumption) | assumption)))); (try (have HP40 := Kd.R_putg HO_12.out (t274 : Int) (rd y276 x15_3))))); refine store_event (t := 3) (p := 114) (v := ?vo_w41) (w1 := (w39.setCell ⟨go31, (t274 : Int).toNat, none⟩ (.int .i64 (rd y276 x15_3)))) ?hg ?ho ?hn ?hr ?_; (case ho => rfl); (case hg => rfl); (case hn => rfl); (case hr => first | (go_simp; done) | (go_simp; rfl)); intro w41 hw; have hg : w39.grownBy w41 (some go31) := (by rw [hw]; exact HP40.2); have hp_ : Kd.R (Kd.int .i64) 3 w41 w.heap.size (fun _ => True) (.slice (some ⟨go31, 0, none⟩) x12_3.length co31) y281 := (by rw [hw, Ny281.out]; exact HP40.1); clear HP40; have n0_ := Aside0.mk (Kd.S_after (v := (.slice (some ⟨go31, 0, none⟩) x12_3.length co31)) (v1 := (.slice (some ⟨go31, 0, none⟩) x12_3.length co31)) (ok := (fun _ => True)) (by (with_reducible repeat (first | apply Kd.S_alloc | apply Kd.S_drewN | apply Kd.S_drew)); exact HO_10.out) hg (.inl rfl)); have n1_ := Aside0.mk (hp_); have n2_ := Aside0.mk ((by rw [hw]; exact below_set (HB.out) GB31.out : Below w.heap.size w w41)); clear HO_10; clear HO_12; clear HB; have HO_10 := n0_; have HO_12 := n1_; have HB := n2_; clear n0_ n1_ n2_; clear hg hw hp_)); try go_wp2_with (first | (go_at_call 273; (with_reducible refine (spec_l1Least.calls x15_3 ji23 t274 _ A21.out).mono ?_); rintro e w' ⟨rfl, ⟨nd, rfl⟩⟩; (try first | exact ⟨rfl, _, World.drewN_drewN _ _ _⟩ | exact ⟨rfl, _, Eq.trans (World.drewN_drewN _ _ _) (congrArg (World.drewN _) (Nat.add_assoc _ _ _))⟩); have p275 : 0 ≤ ((ji26) : Int) := of_decide_eq_true (by first | (with_reducible assumption) | assumption); have q275 : (ji26) < (l0.length : Int) := of_decide_eq_true (by first | (with_reducible assumption) | assumption); obtain ⟨ad275, e275, hx275_0⟩ := Kd.at_int HR0.out (ji26) p275 q275; cases e275; replace hx275_0 := (HB.out.cell (World.block_lt_of_cell? w _ hx275_0)).trans hx275_0; replace p275 := eq_true p275; replace q275 := eq_true q275; have p31 : 0 ≤ (x15_3 : Int) := of_decide_eq_true (by first | (with_reducible assumption) | assumption); have q31 : (x15_3 : Int) < ((x12_3.length : Int) : Int) := of_decide_eq_true (by first | (with_reducible assumption) | assumption); obtain ⟨go31, co31, eo31, gb31, gl31, cl31, HG31⟩ := Kd.R_form HO_12.out (by omega); (first | cases eo31 | (injection eo31 with ea_ en_ ec_; (first | subst ea_ | (injection ea_ with ea_; subst ea_)); subst ec_; clear en_)); have GB31 := Aside0.mk gb31; have GG31 := Aside0.mk HG31; clear gb31 gl31 HG31; obtain ⟨hx31_0, hf31_0⟩ := Kd.R_celln 0 HO_12.out (x15_3 : Int) p31 q31; replace p31 := eq_true p31; replace q31 := eq_true q31; obtain ⟨hy38_, hz38_⟩ := Kd.R_celln 0 HO_12.out (x15_3 : Int) (of_decide_eq_true (by first | (with_reducible assumption) | assumption)) (of_decide_eq_true (by first | (with_reducible assumption) | assumption)); have HP38 := Kd.R_putg HO_12.out (x15_3 : Int) (wrap64 ((wrap64 ((rd l0 (ji26)) + (wrap64 (a2 * (Int.tmod (ji25) 2))))) - x13_3))) | ((with_reducible refine gate_store (t := 3) (p := 87) rfl ?_); (try (rw [drewN_self wc]; generalize hq_ : World.drewN wc _ = wc; have n0_ := Aside0.mk (Kd.S_at hq_ HO_10.out); have n1_ := Aside0.mk (Kd.R_at hq_ HO_12.out); have n2_ := Aside0.mk (below_at hq_ HB.out); clear hq_ HO_10 HO_12 HB; have HO_10 := n0_; have HO_12 := n1_; have HB := n2_; clear n0_ n1_ n2_; (try (obtain ⟨hy38_, hz38_⟩ := Kd.R_celln 0 HO_12.out (x15_3 : Int) (of_decide_eq_true (by first | (with_reducible assumption) | assumption)) (of_decide_eq_true (by first | (with_reducible assumption) | assumption)))); (try (have HP38 := Kd.R_putg HO_12.out (x15_3 : Int) (wrap64 ((wrap64 ((rd l0 (ji26)) + (wrap64 (a2 * (Int.tmod (ji25) 2))))) - x13_3)))))); refine store_event (t := 3) (p := 87) (v := ?vo_w39) (w1 := (wc.setCell ⟨go31, (x15_3 : Int).toNat, none⟩ (.int .i64 (wrap64 ((wrap64 ((rd l0 (ji26)) + (wrap64 (a2 * (Int.tmod (ji25) 2))))) - x13_3))))) ?hg ?ho ?hn ?hr ?_; (case ho => rfl); (case hg => rfl); (case hn => rfl); (case hr => first | (go_simp; done) | (go_simp; rfl)); intro w39 hw; have hg : wc.grownBy w39 (some go31) := (by rw [hw]; exact HP38.2); have hp_ : Kd.R (Kd.int .i64) 3 w39 w.heap.size (fun _ => True) (.slice (some ⟨go31, 0, none⟩) x12_3.length co31) y276 := (by rw [hw, Ny276.out]; exact HP38.1); clear HP38; have n0_ := Aside0.mk (Kd.S_after (v := (.slice (some ⟨go31, 0, none⟩) x12_3.length co31)) (v1 := (.slice (some ⟨go31, 0, none⟩) x12_3.length co31)) (ok := (fun _ => True)) (by (with_reducible repeat (first | apply Kd.S_alloc | apply Kd.S_drewN | apply Kd.S_drew)); exact Kd.S_mono HO_10.out (fun _ hk => ⟨trivial, hk⟩)) hg (.inl rfl)); have n1_ := Aside0.mk (hp_); have n2_ := Aside0.mk ((by rw [hw]; exact below_set (HB.out) GB31.out : Below w.heap.size w w39)); clear HO_10; clear HO_12; clear HB; have HO_10 := n0_; have HO_12 := n1_; have HB := n2_; clear n0_ n1_ n2_; clear hg hw hp_; have p277 : 0 ≤ (x15_3 : Int) := of_decide_eq_true (by first | (with_reducible assumption) | assumption); have q277 : x15_3 < (y276.length : Int) := (by have h_ : (x15_3 : Int) < ((x12_3.length : Int) : Int) := of_decide_eq_true (by first | (with_reducible assumption) | assumption); first | (have e_ := (Kd.R_reads' HO_12.out).1; omega) | simpa only [Ny276.out, List.length_set] using h_); have ql277 : ((x15_3 : Int) < ((x12_3.length : Int) : Int)) = True := eq_true (of_decide_eq_true (by first | (with_reducible assumption) | assumption)); obtain ⟨ad277, e277, hx277_0⟩ := Kd.at_int (Kd.R_reads' HO_12.out).2.2 x15_3 p277 q277; obtain rfl : (⟨go31, 0, none⟩ : Addr) = ad277 := (by injection e277); (first | simp only [add_plain] at hx277_0 | simp only [add_at] at hx277_0 | simp only [Addr.add, Nat.zero_add] at hx277_0 | skip); replace p277 := eq_true p277; replace q277 := eq_true q277) | (go_at_call 197; (with_reducible refine (spec_l1In.calls (rd y276 x15_3) 0 (wrap64 ((wrap64 (2 * a2)) - 2)) true _ A32.out).mono ?_); rintro e w' ⟨rfl, ⟨nd, rfl⟩⟩; (try first | exact ⟨rfl, _, World.drewN_drewN _ _ _⟩ | exact ⟨rfl, _, Eq.trans (World.drewN_drewN _ _ _) (congrArg (World.drewN _) (Nat.add_assoc _ _ _))⟩); have p279 : 0 ≤ (x15_3 : Int) := of_decide_eq_true (by first | (with_reducible assumption) | assumption); have q279 : x15_3 < (y276.length : Int) := (by have h_ : (x15_3 : Int) < ((x12_3.length : Int) : Int) := of_decide_eq_true (by first | (with_reducible assumption) | assumption); first | (have e_ := (Kd.R_reads' HO_12.out).1; omega) | simpa only [Ny276.out, List.length_set] using h_); have ql279 : ((x15_3 : Int) < ((x12_3.length : Int) : Int)) = True := eq_true (of_decide_eq_true (by first | (with_reducible assumption) | assumption)); obtain ⟨ad279, e279, hx279_0⟩ := Kd.at_int (Kd.R_reads' HO_12.out).2.2 x15_3 p279 q279; obtain rfl : (⟨go31, 0, none⟩ : Addr) = ad279 := (by injection e279); (first | simp only [add_plain] at hx279_0 | simp only [add_at] at hx279_0 | simp only [Addr.add, Nat.zero_add] at hx279_0 | skip); replace p279 := eq_true p279; replace q279 := eq_true q279; have p280 : 0 ≤ (x15_3 : Int) := of_decide_eq_true (by first | (with_reducible assumption) | assumption); have q280 : x15_3 < (y276.length : Int) := (by have h_ : (x15_3 : Int) < ((x12_3.length : Int) : Int) := of_decide_eq_true (by first | (with_reducible assumption) | assumption); first | (have e_ := (Kd.R_reads' HO_12.out).1; omega) | simpa only [Ny276.out, List.length_set] using h_); have ql280 : ((x15_3 : Int) < ((x12_3.length : Int) : Int)) = True := eq_true (of_decide_eq_true (by first | (with_reducible assumption) | assumption)); obtain ⟨ad280, e280, hx280_0⟩ := Kd.at_int (Kd.R_reads' HO_12.out).2.2 x15_3 p280 q280; obtain rfl : (⟨go31, 0, none⟩ : Addr) = ad280 := (by injection e280); (first | simp only [add_plain] at hx280_0 | simp only [add_at] at hx280_0 | simp only [Addr.add, Nat.zero_add] at hx280_0 | skip); replace p280 := eq_true p280; replace q280 := eq_true q280; have p37 : 0 ≤ (t274 : Int) := of_decide_eq_true (by first | (with_reducible assumption) | assumption); have q37 : (t274 : Int) < ((x12_3.length : Int) : Int) := of_decide_eq_true (by first | (with_reducible assumption) | assumption); obtain ⟨hx37_0, hf37_0⟩ := Kd.R_celln 0 HO_12.out (t274 : Int) p37 q37; replace p37 := eq_true p37; replace q37 := eq_true q37; obtain ⟨hy40_, hz40_⟩ := Kd.R_celln 0 HO_12.out (t274 : Int) (of_decide_eq_true (by first | (with_reducible assumption) | assumption)) (of_decide_eq_true (by first | (with_reducible assumption) | assumption)); have HP40 := Kd.R_putg HO_12.out (t274 : Int) (rd y276 x15_3)) | ((with_reducible refine gate_store (t := 3) (p := 114) rfl ?_); (try (rw [drewN_self w39]; generalize hq_ : World.drewN w39 _ = w39; have n0_ := Aside0.mk (Kd.S_at hq_ HO_10.out); have n1_ := Aside0.mk (Kd.R_at hq_ HO_12.out); have n2_ := Aside0.mk (below_at hq_ HB.out); clear hq_ HO_10 HO_12 HB; have HO_10 := n0_; have HO_12 := n1_; have HB := n2_; clear n0_ n1_ n2_; (try (obtain ⟨hy40_, hz40_⟩ := Kd.R_celln 0 HO_12.out (t274 : Int) (of_decide_eq_true (by first | (with_reducible assumption) | assumption)) (of_decide_eq_true (by first | (with_reducible assumption) | assumption)))); (try (have HP40 := Kd.R_putg HO_12.out (t274 : Int) (rd y276 x15_3))))); refine store_event (t := 3) (p := 114) (v := ?vo_w41) (w1 := (w39.setCell ⟨go31, (t274 : Int).toNat, none⟩ (.int .i64 (rd y276 x15_3)))) ?hg ?ho ?hn ?hr ?_; (case ho => rfl); (case hg => rfl); (case hn => rfl); (case hr => first | (go_simp; done) | (go_simp; rfl)); intro w41 hw; have hg : w39.grownBy w41 (some go31) := (by rw [hw]; exact HP40.2); have hp_ : Kd.R (Kd.int .i64) 3 w41 w.heap.size (fun _ => True) (.slice (some ⟨go31, 0, none⟩) x12_3.length co31) y281 := (by rw [hw, Ny281.out]; exact HP40.1); clear HP40; have n0_ := Aside0.mk (Kd.S_after (v := (.slice (some ⟨go31, 0, none⟩) x12_3.length co31)) (v1 := (.slice (some ⟨go31, 0, none⟩) x12_3.length co31)) (ok := (fun _ => True)) (by (with_reducible repeat (first | apply Kd.S_alloc | apply Kd.S_drewN | apply Kd.S_drew)); exact HO_10.out) hg (.inl rfl)); have n1_ := Aside0.mk (hp_); have n2_ := Aside0.mk ((by rw [hw]; exact below_set (HB.out) GB31.out : Below w.heap.size w w41)); clear HO_10; clear HO_12; clear HB; have HO_10 := n0_; have HO_12 := n1_; have HB := n2_; clear n0_ n1_ n2_; clear hg hw hp_)))
                         go_roundg kj17
                         case measure => have := HJ3.out; have := HK2.out; have := HK3.out; have := HJ17.out; omega
                         case rel => exact ⟨(y281), (Int.tmod (ji25) 2), (((wrap64 (Int.tdiv (wrap64 ((rd y276 x15_3) + x13_3)) a2)) == (Int.tmod (ji25) 2))), (wrap64 (x15_3 - 1)), (by first | rfl | (simp; done) | (simp only [← hji25] <;> (first | rfl | simp)) | (simp [*]; done)), (by first | rfl | (simp; done) | (simp only [← hji25] <;> (first | rfl | simp)) | (simp [*]; done)), (by first | rfl | (simp; done) | (simp [*]; done)), H', ⟨by have := HJ3.out; have := HK2.out; have := HK3.out; have := HJ17.out; omega⟩, ⟨by (with_reducible repeat (first | apply Kd.S_alloc | apply Kd.S_drewN | apply Kd.S_drew)); exact Kd.S_mono HO_10.out (fun _ hk => hk.2)⟩, ⟨by (with_reducible repeat (first | apply Kd.R_alloc | apply Kd.R_drewN | apply Kd.R_drew)); exact HO_12.out⟩, ⟨by repeat (first | (with_reducible first | exact HB.out | apply below_alloc | apply pw_below_drewN | apply below_drew1) | exact HB.out)⟩⟩
                        ·rw [if_neg c36] at H
                         exact absurd H (by simp)
                       ·rw [if_neg c35] at H
                        exact absurd H (by simp)
                     ·replace c33 := Bool.eq_false_iff.mpr c33
                      subst c33
                      have H1 : (if 0 ≤ t274 then (if t274 < (x12_3.length : Int) then (spec_rvWays.l1 kj17 l0 a1 a2 (wrap64 ((l0.length : Int) - a1)) (ji10) x10_2 x11_2 (y276.set (t274 : Int).toNat (rd y276 x15_3)) (Int.tmod (ji25) 2) false (wrap64 (x15_3 - 1))) else (none)) else (none)) = some (r1, r2) := by rw [if_neg (show ¬ (false = true) by decide)] at H; exact H
                      clear H
                      have H := H1
                      clear H1
                      by_cases c42 : 0 ≤ t274
                      ·rw [if_pos c42] at H
                       have c42b0 : decide (0 ≤ t274) = true := decide_eq_true c42
                       clear c42
                       by_cases c43 : t274 < (x12_3.length : Int)
                       ·rw [if_pos c43] at H
                        have c43b0 : decide (t274 < (x12_3.length : Int)) = true := decide_eq_true c43
                        clear c43
                        obtain ⟨y283, hy283⟩ : ∃ y_ : List Int, y_ = (y276.set (t274 : Int).toNat (rd y276 x15_3)) := ⟨_, rfl⟩
                        replace H : (spec_rvWays.l1 kj17 l0 a1 a2 (wrap64 ((l0.length : Int) - a1)) (ji10) x10_2 x11_2 y283 (Int.tmod (ji25) 2) false (wrap64 (x15_3 - 1))) = some (r1, r2) := by first | (rw [hy283]; with_reducible exact H) | (have H2_ := (Option.bind_some _ _).symm.trans H; rw [hy283]; with_reducible exact H2_) | (have H2_ := (Option.bind_some _ _).symm.trans H; with_reducible exact H2_) | with_reducible exact H | (rw [hy283]; exact H) | exact H
                        have Ny283 := Aside0.mk hy283
                        clear hy283
                        have H' := Aside0.mk H
                        clear H
                        go_wp2_with (first | (go_at_call 273; (with_reducible refine (spec_l1Least.calls x15_3 ji23 t274 _ A21.out).mono ?_); rintro e w' ⟨rfl, ⟨nd, rfl⟩⟩; (try first | exact ⟨rfl, _, World.drewN_drewN _ _ _⟩ | exact ⟨rfl, _, Eq.trans (World.drewN_drewN _ _ _) (congrArg (World.drewN _) (Nat.add_assoc _ _ _))⟩); have p275 : 0 ≤ ((ji26) : Int) := of_decide_eq_true (by first | (with_reducible assumption) | assumption); have q275 : (ji26) < (l0.length : Int) := of_decide_eq_true (by first | (with_reducible assumption) | assumption); obtain ⟨ad275, e275, hx275_0⟩ := Kd.at_int HR0.out (ji26) p275 q275; cases e275; replace hx275_0 := (HB.out.cell (World.block_lt_of_cell? w _ hx275_0)).trans hx275_0; replace p275 := eq_true p275; replace q275 := eq_true q275; have p31 : 0 ≤ (x15_3 : Int) := of_decide_eq_true (by first | (with_reducible assumption) | assumption); have q31 : (x15_3 : Int) < ((x12_3.length : Int) : Int) := of_decide_eq_true (by first | (with_reducible assumption) | assumption); obtain ⟨go31, co31, eo31, gb31, gl31, cl31, HG31⟩ := Kd.R_form HO_12.out (by omega); (first | cases eo31 | (injection eo31 with ea_ en_ ec_; (first | subst ea_ | (injection ea_ with ea_; subst ea_)); subst ec_; clear en_)); have GB31 := Aside0.mk gb31; have GG31 := Aside0.mk HG31; clear gb31 gl31 HG31; obtain ⟨hx31_0, hf31_0⟩ := Kd.R_celln 0 HO_12.out (x15_3 : Int) p31 q31; replace p31 := eq_true p31; replace q31 := eq_true q31; obtain ⟨hy45_, hz45_⟩ := Kd.R_celln 0 HO_12.out (x15_3 : Int) (of_decide_eq_true (by first | (with_reducible assumption) | assumption)) (of_decide_eq_true (by first | (with_reducible assumption) | assumption)); have HP45 := Kd.R_putg HO_12.out (x15_3 : Int) (wrap64 ((wrap64 ((rd l0 (ji26)) + (wrap64 (a2 * (Int.tmod (ji25) 2))))) - x13_3))) | ((with_reducible refine gate_store (t := 3) (p := 87) rfl ?_); (try (rw [drewN_self wc]; generalize hq_ : World.drewN wc _ = wc; have n0_ := Aside0.mk (Kd.S_at hq_ HO_10.out); have n1_ := Aside0.mk (Kd.R_at hq_ HO_12.out); have n2_ := Aside0.mk (below_at hq_ HB.out); clear hq_ HO_10 HO_12 HB; have HO_10 := n0_; have HO_12 := n1_; have HB := n2_; clear n0_ n1_ n2_; (try (obtain ⟨hy45_, hz45_⟩ := Kd.R_celln 0 HO_12.out (x15_3 : Int) (of_decide_eq_true (by first | (with_reducible assumption) | assumption)) (of_decide_eq_true (by first | (with_reducible assumption) | assumption)))); (try (have HP45 := Kd.R_putg HO_12.out (x15_3 : Int) (wrap64 ((wrap64 ((rd l0 (ji26)) + (wrap64 (a2 * (Int.tmod (ji25) 2))))) - x13_3)))))); refine store_event (t := 3) (p := 87) (v := ?vo_w46) (w1 := (wc.setCell ⟨go31, (x15_3 : Int).toNat, none⟩ (.int .i64 (wrap64 ((wrap64 ((rd l0 (ji26)) + (wrap64 (a2 * (Int.tmod (ji25) 2))))) - x13_3))))) ?hg ?ho ?hn ?hr ?_; (case ho => rfl); (case hg => rfl); (case hn => rfl); (case hr => first | (go_simp; done) | (go_simp; rfl)); intro w46 hw; have hg : wc.grownBy w46 (some go31) := (by rw [hw]; exact HP45.2); have hp_ : Kd.R (Kd.int .i64) 3 w46 w.heap.size (fun _ => True) (.slice (some ⟨go31, 0, none⟩) x12_3.length co31) y276 := (by rw [hw, Ny276.out]; exact HP45.1); clear HP45; have n0_ := Aside0.mk (Kd.S_after (v := (.slice (some ⟨go31, 0, none⟩) x12_3.length co31)) (v1 := (.slice (some ⟨go31, 0, none⟩) x12_3.length co31)) (ok := (fun _ => True)) (by (with_reducible repeat (first | apply Kd.S_alloc | apply Kd.S_drewN | apply Kd.S_drew)); exact Kd.S_mono HO_10.out (fun _ hk => ⟨trivial, hk⟩)) hg (.inl rfl)); have n1_ := Aside0.mk (hp_); have n2_ := Aside0.mk ((by rw [hw]; exact below_set (HB.out) GB31.out : Below w.heap.size w w46)); clear HO_10; clear HO_12; clear HB; have HO_10 := n0_; have HO_12 := n1_; have HB := n2_; clear n0_ n1_ n2_; clear hg hw hp_; have p277 : 0 ≤ (x15_3 : Int) := of_decide_eq_true (by first | (with_reducible assumption) | assumption); have q277 : x15_3 < (y276.length : Int) := (by have h_ : (x15_3 : Int) < ((x12_3.length : Int) : Int) := of_decide_eq_true (by first | (with_reducible assumption) | assumption); first | (have e_ := (Kd.R_reads' HO_12.out).1; omega) | simpa only [Ny276.out, List.length_set] using h_); have ql277 : ((x15_3 : Int) < ((x12_3.length : Int) : Int)) = True := eq_true (of_decide_eq_true (by first | (with_reducible assumption) | assumption)); obtain ⟨ad277, e277, hx277_0⟩ := Kd.at_int (Kd.R_reads' HO_12.out).2.2 x15_3 p277 q277; obtain rfl : (⟨go31, 0, none⟩ : Addr) = ad277 := (by injection e277); (first | simp only [add_plain] at hx277_0 | simp only [add_at] at hx277_0 | simp only [Addr.add, Nat.zero_add] at hx277_0 | skip); replace p277 := eq_true p277; replace q277 := eq_true q277) | (go_at_call 197; (with_reducible refine (spec_l1In.calls (rd y276 x15_3) 0 (wrap64 ((wrap64 (2 * a2)) - 2)) false _ A32.out).mono ?_); rintro e w' ⟨rfl, ⟨nd, rfl⟩⟩; (try first | exact ⟨rfl, _, World.drewN_drewN _ _ _⟩ | exact ⟨rfl, _, Eq.trans (World.drewN_drewN _ _ _) (congrArg (World.drewN _) (Nat.add_assoc _ _ _))⟩); have p282 : 0 ≤ (x15_3 : Int) := of_decide_eq_true (by first | (with_reducible assumption) | assumption); have q282 : x15_3 < (y276.length : Int) := (by have h_ : (x15_3 : Int) < ((x12_3.length : Int) : Int) := of_decide_eq_true (by first | (with_reducible assumption) | assumption); first | (have e_ := (Kd.R_reads' HO_12.out).1; omega) | simpa only [Ny276.out, List.length_set] using h_); have ql282 : ((x15_3 : Int) < ((x12_3.length : Int) : Int)) = True := eq_true (of_decide_eq_true (by first | (with_reducible assumption) | assumption)); obtain ⟨ad282, e282, hx282_0⟩ := Kd.at_int (Kd.R_reads' HO_12.out).2.2 x15_3 p282 q282; obtain rfl : (⟨go31, 0, none⟩ : Addr) = ad282 := (by injection e282); (first | simp only [add_plain] at hx282_0 | simp only [add_at] at hx282_0 | simp only [Addr.add, Nat.zero_add] at hx282_0 | skip); replace p282 := eq_true p282; replace q282 := eq_true q282; have p44 : 0 ≤ (t274 : Int) := of_decide_eq_true (by first | (with_reducible assumption) | assumption); have q44 : (t274 : Int) < ((x12_3.length : Int) : Int) := of_decide_eq_true (by first | (with_reducible assumption) | assumption); obtain ⟨hx44_0, hf44_0⟩ := Kd.R_celln 0 HO_12.out (t274 : Int) p44 q44; replace p44 := eq_true p44; replace q44 := eq_true q44; obtain ⟨hy47_, hz47_⟩ := Kd.R_celln 0 HO_12.out (t274 : Int) (of_decide_eq_true (by first | (with_reducible assumption) | assumption)) (of_decide_eq_true (by first | (with_reducible assumption) | assumption)); have HP47 := Kd.R_putg HO_12.out (t274 : Int) (rd y276 x15_3)) | ((with_reducible refine gate_store (t := 3) (p := 114) rfl ?_); (try (rw [drewN_self w46]; generalize hq_ : World.drewN w46 _ = w46; have n0_ := Aside0.mk (Kd.S_at hq_ HO_10.out); have n1_ := Aside0.mk (Kd.R_at hq_ HO_12.out); have n2_ := Aside0.mk (below_at hq_ HB.out); clear hq_ HO_10 HO_12 HB; have HO_10 := n0_; have HO_12 := n1_; have HB := n2_; clear n0_ n1_ n2_; (try (obtain ⟨hy47_, hz47_⟩ := Kd.R_celln 0 HO_12.out (t274 : Int) (of_decide_eq_true (by first | (with_reducible assumption) | assumption)) (of_decide_eq_true (by first | (with_reducible assumption) | assumption)))); (try (have HP47 := Kd.R_putg HO_12.out (t274 : Int) (rd y276 x15_3))))); refine store_event (t := 3) (p := 114) (v := ?vo_w48) (w1 := (w46.setCell ⟨go31, (t274 : Int).toNat, none⟩ (.int .i64 (rd y276 x15_3)))) ?hg ?ho ?hn ?hr ?_; (case ho => rfl); (case hg => rfl); (case hn => rfl); (case hr => first | (go_simp; done) | (go_simp; rfl)); intro w48 hw; have hg : w46.grownBy w48 (some go31) := (by rw [hw]; exact HP47.2); have hp_ : Kd.R (Kd.int .i64) 3 w48 w.heap.size (fun _ => True) (.slice (some ⟨go31, 0, none⟩) x12_3.length co31) y283 := (by rw [hw, Ny283.out]; exact HP47.1); clear HP47; have n0_ := Aside0.mk (Kd.S_after (v := (.slice (some ⟨go31, 0, none⟩) x12_3.length co31)) (v1 := (.slice (some ⟨go31, 0, none⟩) x12_3.length co31)) (ok := (fun _ => True)) (by (with_reducible repeat (first | apply Kd.S_alloc | apply Kd.S_drewN | apply Kd.S_drew)); exact HO_10.out) hg (.inl rfl)); have n1_ := Aside0.mk (hp_); have n2_ := Aside0.mk ((by rw [hw]; exact below_set (HB.out) GB31.out : Below w.heap.size w w48)); clear HO_10; clear HO_12; clear HB; have HO_10 := n0_; have HO_12 := n1_; have HB := n2_; clear n0_ n1_ n2_; clear hg hw hp_))
                        repeat (go_quiet (first | (go_at_call 273; (with_reducible refine (spec_l1Least.calls x15_3 ji23 t274 _ A21.out).mono ?_); rintro e w' ⟨rfl, ⟨nd, rfl⟩⟩; (try first | exact ⟨rfl, _, World.drewN_drewN _ _ _⟩ | exact ⟨rfl, _, Eq.trans (World.drewN_drewN _ _ _) (congrArg (World.drewN _) (Nat.add_assoc _ _ _))⟩); have p275 : 0 ≤ ((ji26) : Int) := of_decide_eq_true (by first | (with_reducible assumption) | assumption); have q275 : (ji26) < (l0.length : Int) := of_decide_eq_true (by first | (with_reducible assumption) | assumption); obtain ⟨ad275, e275, hx275_0⟩ := Kd.at_int HR0.out (ji26) p275 q275; cases e275; replace hx275_0 := (HB.out.cell (World.block_lt_of_cell? w _ hx275_0)).trans hx275_0; replace p275 := eq_true p275; replace q275 := eq_true q275; have p31 : 0 ≤ (x15_3 : Int) := of_decide_eq_true (by first | (with_reducible assumption) | assumption); have q31 : (x15_3 : Int) < ((x12_3.length : Int) : Int) := of_decide_eq_true (by first | (with_reducible assumption) | assumption); obtain ⟨go31, co31, eo31, gb31, gl31, cl31, HG31⟩ := Kd.R_form HO_12.out (by omega); (first | cases eo31 | (injection eo31 with ea_ en_ ec_; (first | subst ea_ | (injection ea_ with ea_; subst ea_)); subst ec_; clear en_)); have GB31 := Aside0.mk gb31; have GG31 := Aside0.mk HG31; clear gb31 gl31 HG31; obtain ⟨hx31_0, hf31_0⟩ := Kd.R_celln 0 HO_12.out (x15_3 : Int) p31 q31; replace p31 := eq_true p31; replace q31 := eq_true q31; obtain ⟨hy45_, hz45_⟩ := Kd.R_celln 0 HO_12.out (x15_3 : Int) (of_decide_eq_true (by first | (with_reducible assumption) | assumption)) (of_decide_eq_true (by first | (with_reducible assumption) | assumption)); have HP45 := Kd.R_putg HO_12.out (x15_3 : Int) (wrap64 ((wrap64 ((rd l0 (ji26)) + (wrap64 (a2 * (Int.tmod (ji25) 2))))) - x13_3))) | ((with_reducible refine gate_store (t := 3) (p := 87) rfl ?_); (try (rw [drewN_self wc]; generalize hq_ : World.drewN wc _ = wc; have n0_ := Aside0.mk (Kd.S_at hq_ HO_10.out); have n1_ := Aside0.mk (Kd.R_at hq_ HO_12.out); have n2_ := Aside0.mk (below_at hq_ HB.out); clear hq_ HO_10 HO_12 HB; have HO_10 := n0_; have HO_12 := n1_; have HB := n2_; clear n0_ n1_ n2_; (try (obtain ⟨hy45_, hz45_⟩ := Kd.R_celln 0 HO_12.out (x15_3 : Int) (of_decide_eq_true (by first | (with_reducible assumption) | assumption)) (of_decide_eq_true (by first | (with_reducible assumption) | assumption)))); (try (have HP45 := Kd.R_putg HO_12.out (x15_3 : Int) (wrap64 ((wrap64 ((rd l0 (ji26)) + (wrap64 (a2 * (Int.tmod (ji25) 2))))) - x13_3)))))); refine store_event (t := 3) (p := 87) (v := ?vo_w46) (w1 := (wc.setCell ⟨go31, (x15_3 : Int).toNat, none⟩ (.int .i64 (wrap64 ((wrap64 ((rd l0 (ji26)) + (wrap64 (a2 * (Int.tmod (ji25) 2))))) - x13_3))))) ?hg ?ho ?hn ?hr ?_; (case ho => rfl); (case hg => rfl); (case hn => rfl); (case hr => first | (go_simp; done) | (go_simp; rfl)); intro w46 hw; have hg : wc.grownBy w46 (some go31) := (by rw [hw]; exact HP45.2); have hp_ : Kd.R (Kd.int .i64) 3 w46 w.heap.size (fun _ => True) (.slice (some ⟨go31, 0, none⟩) x12_3.length co31) y276 := (by rw [hw, Ny276.out]; exact HP45.1); clear HP45; have n0_ := Aside0.mk (Kd.S_after (v := (.slice (some ⟨go31, 0, none⟩) x12_3.length co31)) (v1 := (.slice (some ⟨go31, 0, none⟩) x12_3.length co31)) (ok := (fun _ => True)) (by (with_reducible repeat (first | apply Kd.S_alloc | apply Kd.S_drewN | apply Kd.S_drew)); exact Kd.S_mono HO_10.out (fun _ hk => ⟨trivial, hk⟩)) hg (.inl rfl)); have n1_ := Aside0.mk (hp_); have n2_ := Aside0.mk ((by rw [hw]; exact below_set (HB.out) GB31.out : Below w.heap.size w w46)); clear HO_10; clear HO_12; clear HB; have HO_10 := n0_; have HO_12 := n1_; have HB := n2_; clear n0_ n1_ n2_; clear hg hw hp_; have p277 : 0 ≤ (x15_3 : Int) := of_decide_eq_true (by first | (with_reducible assumption) | assumption); have q277 : x15_3 < (y276.length : Int) := (by have h_ : (x15_3 : Int) < ((x12_3.length : Int) : Int) := of_decide_eq_true (by first | (with_reducible assumption) | assumption); first | (have e_ := (Kd.R_reads' HO_12.out).1; omega) | simpa only [Ny276.out, List.length_set] using h_); have ql277 : ((x15_3 : Int) < ((x12_3.length : Int) : Int)) = True := eq_true (of_decide_eq_true (by first | (with_reducible assumption) | assumption)); obtain ⟨ad277, e277, hx277_0⟩ := Kd.at_int (Kd.R_reads' HO_12.out).2.2 x15_3 p277 q277; obtain rfl : (⟨go31, 0, none⟩ : Addr) = ad277 := (by injection e277); (first | simp only [add_plain] at hx277_0 | simp only [add_at] at hx277_0 | simp only [Addr.add, Nat.zero_add] at hx277_0 | skip); replace p277 := eq_true p277; replace q277 := eq_true q277) | (go_at_call 197; (with_reducible refine (spec_l1In.calls (rd y276 x15_3) 0 (wrap64 ((wrap64 (2 * a2)) - 2)) false _ A32.out).mono ?_); rintro e w' ⟨rfl, ⟨nd, rfl⟩⟩; (try first | exact ⟨rfl, _, World.drewN_drewN _ _ _⟩ | exact ⟨rfl, _, Eq.trans (World.drewN_drewN _ _ _) (congrArg (World.drewN _) (Nat.add_assoc _ _ _))⟩); have p282 : 0 ≤ (x15_3 : Int) := of_decide_eq_true (by first | (with_reducible assumption) | assumption); have q282 : x15_3 < (y276.length : Int) := (by have h_ : (x15_3 : Int) < ((x12_3.length : Int) : Int) := of_decide_eq_true (by first | (with_reducible assumption) | assumption); first | (have e_ := (Kd.R_reads' HO_12.out).1; omega) | simpa only [Ny276.out, List.length_set] using h_); have ql282 : ((x15_3 : Int) < ((x12_3.length : Int) : Int)) = True := eq_true (of_decide_eq_true (by first | (with_reducible assumption) | assumption)); obtain ⟨ad282, e282, hx282_0⟩ := Kd.at_int (Kd.R_reads' HO_12.out).2.2 x15_3 p282 q282; obtain rfl : (⟨go31, 0, none⟩ : Addr) = ad282 := (by injection e282); (first | simp only [add_plain] at hx282_0 | simp only [add_at] at hx282_0 | simp only [Addr.add, Nat.zero_add] at hx282_0 | skip); replace p282 := eq_true p282; replace q282 := eq_true q282; have p44 : 0 ≤ (t274 : Int) := of_decide_eq_true (by first | (with_reducible assumption) | assumption); have q44 : (t274 : Int) < ((x12_3.length : Int) : Int) := of_decide_eq_true (by first | (with_reducible assumption) | assumption); obtain ⟨hx44_0, hf44_0⟩ := Kd.R_celln 0 HO_12.out (t274 : Int) p44 q44; replace p44 := eq_true p44; replace q44 := eq_true q44; obtain ⟨hy47_, hz47_⟩ := Kd.R_celln 0 HO_12.out (t274 : Int) (of_decide_eq_true (by first | (with_reducible assumption) | assumption)) (of_decide_eq_true (by first | (with_reducible assumption) | assumption)); have HP47 := Kd.R_putg HO_12.out (t274 : Int) (rd y276 x15_3)) | ((with_reducible refine gate_store (t := 3) (p := 114) rfl ?_); (try (rw [drewN_self w46]; generalize hq_ : World.drewN w46 _ = w46; have n0_ := Aside0.mk (Kd.S_at hq_ HO_10.out); have n1_ := Aside0.mk (Kd.R_at hq_ HO_12.out); have n2_ := Aside0.mk (below_at hq_ HB.out); clear hq_ HO_10 HO_12 HB; have HO_10 := n0_; have HO_12 := n1_; have HB := n2_; clear n0_ n1_ n2_; (try (obtain ⟨hy47_, hz47_⟩ := Kd.R_celln 0 HO_12.out (t274 : Int) (of_decide_eq_true (by first | (with_reducible assumption) | assumption)) (of_decide_eq_true (by first | (with_reducible assumption) | assumption)))); (try (have HP47 := Kd.R_putg HO_12.out (t274 : Int) (rd y276 x15_3))))); refine store_event (t := 3) (p := 114) (v := ?vo_w48) (w1 := (w46.setCell ⟨go31, (t274 : Int).toNat, none⟩ (.int .i64 (rd y276 x15_3)))) ?hg ?ho ?hn ?hr ?_; (case ho => rfl); (case hg => rfl); (case hn => rfl); (case hr => first | (go_simp; done) | (go_simp; rfl)); intro w48 hw; have hg : w46.grownBy w48 (some go31) := (by rw [hw]; exact HP47.2); have hp_ : Kd.R (Kd.int .i64) 3 w48 w.heap.size (fun _ => True) (.slice (some ⟨go31, 0, none⟩) x12_3.length co31) y283 := (by rw [hw, Ny283.out]; exact HP47.1); clear HP47; have n0_ := Aside0.mk (Kd.S_after (v := (.slice (some ⟨go31, 0, none⟩) x12_3.length co31)) (v1 := (.slice (some ⟨go31, 0, none⟩) x12_3.length co31)) (ok := (fun _ => True)) (by (with_reducible repeat (first | apply Kd.S_alloc | apply Kd.S_drewN | apply Kd.S_drew)); exact HO_10.out) hg (.inl rfl)); have n1_ := Aside0.mk (hp_); have n2_ := Aside0.mk ((by rw [hw]; exact below_set (HB.out) GB31.out : Below w.heap.size w w48)); clear HO_10; clear HO_12; clear HB; have HO_10 := n0_; have HO_12 := n1_; have HB := n2_; clear n0_ n1_ n2_; clear hg hw hp_)); try go_wp2_with (first | (go_at_call 273; (with_reducible refine (spec_l1Least.calls x15_3 ji23 t274 _ A21.out).mono ?_); rintro e w' ⟨rfl, ⟨nd, rfl⟩⟩; (try first | exact ⟨rfl, _, World.drewN_drewN _ _ _⟩ | exact ⟨rfl, _, Eq.trans (World.drewN_drewN _ _ _) (congrArg (World.drewN _) (Nat.add_assoc _ _ _))⟩); have p275 : 0 ≤ ((ji26) : Int) := of_decide_eq_true (by first | (with_reducible assumption) | assumption); have q275 : (ji26) < (l0.length : Int) := of_decide_eq_true (by first | (with_reducible assumption) | assumption); obtain ⟨ad275, e275, hx275_0⟩ := Kd.at_int HR0.out (ji26) p275 q275; cases e275; replace hx275_0 := (HB.out.cell (World.block_lt_of_cell? w _ hx275_0)).trans hx275_0; replace p275 := eq_true p275; replace q275 := eq_true q275; have p31 : 0 ≤ (x15_3 : Int) := of_decide_eq_true (by first | (with_reducible assumption) | assumption); have q31 : (x15_3 : Int) < ((x12_3.length : Int) : Int) := of_decide_eq_true (by first | (with_reducible assumption) | assumption); obtain ⟨go31, co31, eo31, gb31, gl31, cl31, HG31⟩ := Kd.R_form HO_12.out (by omega); (first | cases eo31 | (injection eo31 with ea_ en_ ec_; (first | subst ea_ | (injection ea_ with ea_; subst ea_)); subst ec_; clear en_)); have GB31 := Aside0.mk gb31; have GG31 := Aside0.mk HG31; clear gb31 gl31 HG31; obtain ⟨hx31_0, hf31_0⟩ := Kd.R_celln 0 HO_12.out (x15_3 : Int) p31 q31; replace p31 := eq_true p31; replace q31 := eq_true q31; obtain ⟨hy45_, hz45_⟩ := Kd.R_celln 0 HO_12.out (x15_3 : Int) (of_decide_eq_true (by first | (with_reducible assumption) | assumption)) (of_decide_eq_true (by first | (with_reducible assumption) | assumption)); have HP45 := Kd.R_putg HO_12.out (x15_3 : Int) (wrap64 ((wrap64 ((rd l0 (ji26)) + (wrap64 (a2 * (Int.tmod (ji25) 2))))) - x13_3))) | ((with_reducible refine gate_store (t := 3) (p := 87) rfl ?_); (try (rw [drewN_self wc]; generalize hq_ : World.drewN wc _ = wc; have n0_ := Aside0.mk (Kd.S_at hq_ HO_10.out); have n1_ := Aside0.mk (Kd.R_at hq_ HO_12.out); have n2_ := Aside0.mk (below_at hq_ HB.out); clear hq_ HO_10 HO_12 HB; have HO_10 := n0_; have HO_12 := n1_; have HB := n2_; clear n0_ n1_ n2_; (try (obtain ⟨hy45_, hz45_⟩ := Kd.R_celln 0 HO_12.out (x15_3 : Int) (of_decide_eq_true (by first | (with_reducible assumption) | assumption)) (of_decide_eq_true (by first | (with_reducible assumption) | assumption)))); (try (have HP45 := Kd.R_putg HO_12.out (x15_3 : Int) (wrap64 ((wrap64 ((rd l0 (ji26)) + (wrap64 (a2 * (Int.tmod (ji25) 2))))) - x13_3)))))); refine store_event (t := 3) (p := 87) (v := ?vo_w46) (w1 := (wc.setCell ⟨go31, (x15_3 : Int).toNat, none⟩ (.int .i64 (wrap64 ((wrap64 ((rd l0 (ji26)) + (wrap64 (a2 * (Int.tmod (ji25) 2))))) - x13_3))))) ?hg ?ho ?hn ?hr ?_; (case ho => rfl); (case hg => rfl); (case hn => rfl); (case hr => first | (go_simp; done) | (go_simp; rfl)); intro w46 hw; have hg : wc.grownBy w46 (some go31) := (by rw [hw]; exact HP45.2); have hp_ : Kd.R (Kd.int .i64) 3 w46 w.heap.size (fun _ => True) (.slice (some ⟨go31, 0, none⟩) x12_3.length co31) y276 := (by rw [hw, Ny276.out]; exact HP45.1); clear HP45; have n0_ := Aside0.mk (Kd.S_after (v := (.slice (some ⟨go31, 0, none⟩) x12_3.length co31)) (v1 := (.slice (some ⟨go31, 0, none⟩) x12_3.length co31)) (ok := (fun _ => True)) (by (with_reducible repeat (first | apply Kd.S_alloc | apply Kd.S_drewN | apply Kd.S_drew)); exact Kd.S_mono HO_10.out (fun _ hk => ⟨trivial, hk⟩)) hg (.inl rfl)); have n1_ := Aside0.mk (hp_); have n2_ := Aside0.mk ((by rw [hw]; exact below_set (HB.out) GB31.out : Below w.heap.size w w46)); clear HO_10; clear HO_12; clear HB; have HO_10 := n0_; have HO_12 := n1_; have HB := n2_; clear n0_ n1_ n2_; clear hg hw hp_; have p277 : 0 ≤ (x15_3 : Int) := of_decide_eq_true (by first | (with_reducible assumption) | assumption); have q277 : x15_3 < (y276.length : Int) := (by have h_ : (x15_3 : Int) < ((x12_3.length : Int) : Int) := of_decide_eq_true (by first | (with_reducible assumption) | assumption); first | (have e_ := (Kd.R_reads' HO_12.out).1; omega) | simpa only [Ny276.out, List.length_set] using h_); have ql277 : ((x15_3 : Int) < ((x12_3.length : Int) : Int)) = True := eq_true (of_decide_eq_true (by first | (with_reducible assumption) | assumption)); obtain ⟨ad277, e277, hx277_0⟩ := Kd.at_int (Kd.R_reads' HO_12.out).2.2 x15_3 p277 q277; obtain rfl : (⟨go31, 0, none⟩ : Addr) = ad277 := (by injection e277); (first | simp only [add_plain] at hx277_0 | simp only [add_at] at hx277_0 | simp only [Addr.add, Nat.zero_add] at hx277_0 | skip); replace p277 := eq_true p277; replace q277 := eq_true q277) | (go_at_call 197; (with_reducible refine (spec_l1In.calls (rd y276 x15_3) 0 (wrap64 ((wrap64 (2 * a2)) - 2)) false _ A32.out).mono ?_); rintro e w' ⟨rfl, ⟨nd, rfl⟩⟩; (try first | exact ⟨rfl, _, World.drewN_drewN _ _ _⟩ | exact ⟨rfl, _, Eq.trans (World.drewN_drewN _ _ _) (congrArg (World.drewN _) (Nat.add_assoc _ _ _))⟩); have p282 : 0 ≤ (x15_3 : Int) := of_decide_eq_true (by first | (with_reducible assumption) | assumption); have q282 : x15_3 < (y276.length : Int) := (by have h_ : (x15_3 : Int) < ((x12_3.length : Int) : Int) := of_decide_eq_true (by first | (with_reducible assumption) | assumption); first | (have e_ := (Kd.R_reads' HO_12.out).1; omega) | simpa only [Ny276.out, List.length_set] using h_); have ql282 : ((x15_3 : Int) < ((x12_3.length : Int) : Int)) = True := eq_true (of_decide_eq_true (by first | (with_reducible assumption) | assumption)); obtain ⟨ad282, e282, hx282_0⟩ := Kd.at_int (Kd.R_reads' HO_12.out).2.2 x15_3 p282 q282; obtain rfl : (⟨go31, 0, none⟩ : Addr) = ad282 := (by injection e282); (first | simp only [add_plain] at hx282_0 | simp only [add_at] at hx282_0 | simp only [Addr.add, Nat.zero_add] at hx282_0 | skip); replace p282 := eq_true p282; replace q282 := eq_true q282; have p44 : 0 ≤ (t274 : Int) := of_decide_eq_true (by first | (with_reducible assumption) | assumption); have q44 : (t274 : Int) < ((x12_3.length : Int) : Int) := of_decide_eq_true (by first | (with_reducible assumption) | assumption); obtain ⟨hx44_0, hf44_0⟩ := Kd.R_celln 0 HO_12.out (t274 : Int) p44 q44; replace p44 := eq_true p44; replace q44 := eq_true q44; obtain ⟨hy47_, hz47_⟩ := Kd.R_celln 0 HO_12.out (t274 : Int) (of_decide_eq_true (by first | (with_reducible assumption) | assumption)) (of_decide_eq_true (by first | (with_reducible assumption) | assumption)); have HP47 := Kd.R_putg HO_12.out (t274 : Int) (rd y276 x15_3)) | ((with_reducible refine gate_store (t := 3) (p := 114) rfl ?_); (try (rw [drewN_self w46]; generalize hq_ : World.drewN w46 _ = w46; have n0_ := Aside0.mk (Kd.S_at hq_ HO_10.out); have n1_ := Aside0.mk (Kd.R_at hq_ HO_12.out); have n2_ := Aside0.mk (below_at hq_ HB.out); clear hq_ HO_10 HO_12 HB; have HO_10 := n0_; have HO_12 := n1_; have HB := n2_; clear n0_ n1_ n2_; (try (obtain ⟨hy47_, hz47_⟩ := Kd.R_celln 0 HO_12.out (t274 : Int) (of_decide_eq_true (by first | (with_reducible assumption) | assumption)) (of_decide_eq_true (by first | (with_reducible assumption) | assumption)))); (try (have HP47 := Kd.R_putg HO_12.out (t274 : Int) (rd y276 x15_3))))); refine store_event (t := 3) (p := 114) (v := ?vo_w48) (w1 := (w46.setCell ⟨go31, (t274 : Int).toNat, none⟩ (.int .i64 (rd y276 x15_3)))) ?hg ?ho ?hn ?hr ?_; (case ho => rfl); (case hg => rfl); (case hn => rfl); (case hr => first | (go_simp; done) | (go_simp; rfl)); intro w48 hw; have hg : w46.grownBy w48 (some go31) := (by rw [hw]; exact HP47.2); have hp_ : Kd.R (Kd.int .i64) 3 w48 w.heap.size (fun _ => True) (.slice (some ⟨go31, 0, none⟩) x12_3.length co31) y283 := (by rw [hw, Ny283.out]; exact HP47.1); clear HP47; have n0_ := Aside0.mk (Kd.S_after (v := (.slice (some ⟨go31, 0, none⟩) x12_3.length co31)) (v1 := (.slice (some ⟨go31, 0, none⟩) x12_3.length co31)) (ok := (fun _ => True)) (by (with_reducible repeat (first | apply Kd.S_alloc | apply Kd.S_drewN | apply Kd.S_drew)); exact HO_10.out) hg (.inl rfl)); have n1_ := Aside0.mk (hp_); have n2_ := Aside0.mk ((by rw [hw]; exact below_set (HB.out) GB31.out : Below w.heap.size w w48)); clear HO_10; clear HO_12; clear HB; have HO_10 := n0_; have HO_12 := n1_; have HB := n2_; clear n0_ n1_ n2_; clear hg hw hp_)))
                        go_roundg kj17
                        case measure => have := HJ3.out; have := HK2.out; have := HK3.out; have := HJ17.out; omega
                        case rel => exact ⟨(y283), (Int.tmod (ji25) 2), (false), (wrap64 (x15_3 - 1)), (by first | rfl | (simp; done) | (simp only [← hji25] <;> (first | rfl | simp)) | (simp [*]; done)), (by first | rfl | (simp; done) | (simp [*]; done)), (by first | rfl | (simp; done) | (simp [*]; done)), H', ⟨by have := HJ3.out; have := HK2.out; have := HK3.out; have := HJ17.out; omega⟩, ⟨by (with_reducible repeat (first | apply Kd.S_alloc | apply Kd.S_drewN | apply Kd.S_drew)); exact Kd.S_mono HO_10.out (fun _ hk => hk.2)⟩, ⟨by (with_reducible repeat (first | apply Kd.R_alloc | apply Kd.R_drewN | apply Kd.R_drew)); exact HO_12.out⟩, ⟨by repeat (first | (with_reducible first | exact HB.out | apply below_alloc | apply pw_below_drewN | apply below_drew1) | exact HB.out)⟩⟩
                       ·rw [if_neg c43] at H
                        exact absurd H (by simp)
                      ·rw [if_neg c42] at H
                       exact absurd H (by simp)
                    ·rw [if_neg c30] at H
                     exact absurd H (by simp)
                   ·rw [if_neg c29] at H
                    exact absurd H (by simp)
                  ·rw [if_neg c28] at H
                   exact absurd H (by simp)
                 ·rw [if_neg c27] at H
                  exact absurd H (by simp)
                ·rw [if_neg c24] at H
                 exact absurd H (by simp)
               ·rw [if_neg c22] at H
                have c22b0 : decide ((wrap64 (a1 - (ji10))) ≤ x15_3) = false := decide_eq_false c22
                clear c22
                by_cases c49 : 0 ≤ t274
                ·rw [if_pos c49] at H
                 have c49b0 : decide (0 ≤ t274) = true := decide_eq_true c49
                 clear c49
                 by_cases c50 : t274 < (x12_3.length : Int)
                 ·rw [if_pos c50] at H
                  have c50b0 : decide (t274 < (x12_3.length : Int)) = true := decide_eq_true c50
                  clear c50
                  by_cases c51 : a2 = 0
                  ·rw [if_pos c51] at H
                   exact absurd H (by simp)
                  ·rw [if_neg c51] at H
                   have c51b0 : (a2 == 0) = false := beq_eq_false_iff_ne.mpr c51
                   have c51b1 : (a2 != 0) = true := bne_iff_ne.mpr c51
                   obtain ⟨ji52, hji52⟩ : ∃ j_ : Int, (wrap64 ((wrap64 ((l0.length : Int) - a1)) + x15_3)) = j_ := ⟨_, rfl⟩
                   replace H : (if 0 ≤ (ji52) then (if (ji52) < (l0.length : Int) then (spec_rvWays.l1 kj17 l0 a1 a2 (wrap64 ((l0.length : Int) - a1)) (ji10) x10_2 x11_2 x12_3 (wrap64 (Int.tdiv (wrap64 ((rd x12_3 t274) + x13_3)) a2)) ((Int.tmod (wrap64 ((rd x12_3 t274) + x13_3)) a2) == (rd l0 (ji52))) (wrap64 (x15_3 - 1))) else (none)) else (none)) = some (r1, r2) := by first | (rw [hji52] at H; exact H) | (simp only [hji52] at H ⊢; exact H)
                   (try rw [hji52] at A21)
                   have hji52w : (IntKind.i64.wrap ((wrap64 ((l0.length : Int) - a1)) + x15_3)) = ji52 := (i64_w _).trans hji52
                   by_cases c53 : 0 ≤ (ji52)
                   ·rw [if_pos c53] at H
                    have c53b0 : decide (0 ≤ (ji52)) = true := decide_eq_true c53
                    clear c53
                    by_cases c54 : (ji52) < (l0.length : Int)
                    ·rw [if_pos c54] at H
                     have c54b0 : decide ((ji52) < (l0.length : Int)) = true := decide_eq_true c54
                     clear c54
                     have H' := Aside0.mk H
                     clear H
                     go_wp2_with (first | (go_at_call 273; (with_reducible refine (spec_l1Least.calls x15_3 (wrap64 ((wrap64 (a1 - 1)) - x15_3)) t274 _ A21.out).mono ?_); rintro e w' ⟨rfl, ⟨nd, rfl⟩⟩; (try first | exact ⟨rfl, _, World.drewN_drewN _ _ _⟩ | exact ⟨rfl, _, Eq.trans (World.drewN_drewN _ _ _) (congrArg (World.drewN _) (Nat.add_assoc _ _ _))⟩); obtain ⟨Ao55, co55, eo55⟩ := Kd.R_slice HO_12.out; subst eo55; have p284 : 0 ≤ (t274 : Int) := of_decide_eq_true (by first | (with_reducible assumption) | assumption); have q284 : t274 < (x12_3.length : Int) := of_decide_eq_true (by first | (with_reducible assumption) | assumption); obtain ⟨ad284, e284, hx284_0⟩ := Kd.at_int (Kd.R_reads' HO_12.out).2.2 t274 p284 q284; cases e284; replace p284 := eq_true p284; replace q284 := eq_true q284; have p285 : 0 ≤ ((ji52) : Int) := of_decide_eq_true (by first | (with_reducible assumption) | assumption); have q285 : (ji52) < (l0.length : Int) := of_decide_eq_true (by first | (with_reducible assumption) | assumption); obtain ⟨ad285, e285, hx285_0⟩ := Kd.at_int HR0.out (ji52) p285 q285; cases e285; replace hx285_0 := (HB.out.cell (World.block_lt_of_cell? w _ hx285_0)).trans hx285_0; replace p285 := eq_true p285; replace q285 := eq_true q285; have p286 : 0 ≤ (t274 : Int) := of_decide_eq_true (by first | (with_reducible assumption) | assumption); have q286 : t274 < (x12_3.length : Int) := of_decide_eq_true (by first | (with_reducible assumption) | assumption); obtain ⟨ad286, e286, hx286_0⟩ := Kd.at_int (Kd.R_reads' HO_12.out).2.2 t274 p286 q286; obtain rfl : ad284 = ad286 := (by injection e286); replace p286 := eq_true p286; replace q286 := eq_true q286))
                     repeat (go_quiet (first | (go_at_call 273; (with_reducible refine (spec_l1Least.calls x15_3 (wrap64 ((wrap64 (a1 - 1)) - x15_3)) t274 _ A21.out).mono ?_); rintro e w' ⟨rfl, ⟨nd, rfl⟩⟩; (try first | exact ⟨rfl, _, World.drewN_drewN _ _ _⟩ | exact ⟨rfl, _, Eq.trans (World.drewN_drewN _ _ _) (congrArg (World.drewN _) (Nat.add_assoc _ _ _))⟩); obtain ⟨Ao55, co55, eo55⟩ := Kd.R_slice HO_12.out; subst eo55; have p284 : 0 ≤ (t274 : Int) := of_decide_eq_true (by first | (with_reducible assumption) | assumption); have q284 : t274 < (x12_3.length : Int) := of_decide_eq_true (by first | (with_reducible assumption) | assumption); obtain ⟨ad284, e284, hx284_0⟩ := Kd.at_int (Kd.R_reads' HO_12.out).2.2 t274 p284 q284; cases e284; replace p284 := eq_true p284; replace q284 := eq_true q284; have p285 : 0 ≤ ((ji52) : Int) := of_decide_eq_true (by first | (with_reducible assumption) | assumption); have q285 : (ji52) < (l0.length : Int) := of_decide_eq_true (by first | (with_reducible assumption) | assumption); obtain ⟨ad285, e285, hx285_0⟩ := Kd.at_int HR0.out (ji52) p285 q285; cases e285; replace hx285_0 := (HB.out.cell (World.block_lt_of_cell? w _ hx285_0)).trans hx285_0; replace p285 := eq_true p285; replace q285 := eq_true q285; have p286 : 0 ≤ (t274 : Int) := of_decide_eq_true (by first | (with_reducible assumption) | assumption); have q286 : t274 < (x12_3.length : Int) := of_decide_eq_true (by first | (with_reducible assumption) | assumption); obtain ⟨ad286, e286, hx286_0⟩ := Kd.at_int (Kd.R_reads' HO_12.out).2.2 t274 p286 q286; obtain rfl : ad284 = ad286 := (by injection e286); replace p286 := eq_true p286; replace q286 := eq_true q286)); try go_wp2_with (first | (go_at_call 273; (with_reducible refine (spec_l1Least.calls x15_3 (wrap64 ((wrap64 (a1 - 1)) - x15_3)) t274 _ A21.out).mono ?_); rintro e w' ⟨rfl, ⟨nd, rfl⟩⟩; (try first | exact ⟨rfl, _, World.drewN_drewN _ _ _⟩ | exact ⟨rfl, _, Eq.trans (World.drewN_drewN _ _ _) (congrArg (World.drewN _) (Nat.add_assoc _ _ _))⟩); obtain ⟨Ao55, co55, eo55⟩ := Kd.R_slice HO_12.out; subst eo55; have p284 : 0 ≤ (t274 : Int) := of_decide_eq_true (by first | (with_reducible assumption) | assumption); have q284 : t274 < (x12_3.length : Int) := of_decide_eq_true (by first | (with_reducible assumption) | assumption); obtain ⟨ad284, e284, hx284_0⟩ := Kd.at_int (Kd.R_reads' HO_12.out).2.2 t274 p284 q284; cases e284; replace p284 := eq_true p284; replace q284 := eq_true q284; have p285 : 0 ≤ ((ji52) : Int) := of_decide_eq_true (by first | (with_reducible assumption) | assumption); have q285 : (ji52) < (l0.length : Int) := of_decide_eq_true (by first | (with_reducible assumption) | assumption); obtain ⟨ad285, e285, hx285_0⟩ := Kd.at_int HR0.out (ji52) p285 q285; cases e285; replace hx285_0 := (HB.out.cell (World.block_lt_of_cell? w _ hx285_0)).trans hx285_0; replace p285 := eq_true p285; replace q285 := eq_true q285; have p286 : 0 ≤ (t274 : Int) := of_decide_eq_true (by first | (with_reducible assumption) | assumption); have q286 : t274 < (x12_3.length : Int) := of_decide_eq_true (by first | (with_reducible assumption) | assumption); obtain ⟨ad286, e286, hx286_0⟩ := Kd.at_int (Kd.R_reads' HO_12.out).2.2 t274 p286 q286; obtain rfl : ad284 = ad286 := (by injection e286); replace p286 := eq_true p286; replace q286 := eq_true q286)))
                     go_roundg kj17
                     case measure => have := HJ3.out; have := HK2.out; have := HK3.out; have := HJ17.out; omega
                     case rel => exact ⟨(x12_3), (wrap64 (Int.tdiv (wrap64 ((rd x12_3 t274) + x13_3)) a2)), (((Int.tmod (wrap64 ((rd x12_3 t274) + x13_3)) a2) == (rd l0 (ji52)))), (wrap64 (x15_3 - 1)), (by first | rfl | (simp; done) | (simp [*]; done)), (by first | rfl | (simp; done) | (simp only [← hji52] <;> (first | rfl | simp)) | (simp [*]; done)), (by first | rfl | (simp; done) | (simp [*]; done)), H', ⟨by have := HJ3.out; have := HK2.out; have := HK3.out; have := HJ17.out; omega⟩, ⟨by (with_reducible repeat (first | apply Kd.S_alloc | apply Kd.S_drewN | apply Kd.S_drew)); exact HO_10.out⟩, ⟨by (with_reducible repeat (first | apply Kd.R_alloc | apply Kd.R_drewN | apply Kd.R_drew)); exact HO_12.out⟩, ⟨by repeat (first | (with_reducible first | exact HB.out | apply below_alloc | apply pw_below_drewN | apply below_drew1) | exact HB.out)⟩⟩
                    ·rw [if_neg c54] at H
                     exact absurd H (by simp)
                   ·rw [if_neg c53] at H
                    exact absurd H (by simp)
                 ·rw [if_neg c50] at H
                  exact absurd H (by simp)
                ·rw [if_neg c49] at H
                 exact absurd H (by simp)
              ·replace c20 := Bool.eq_false_iff.mpr c20
               subst c20
               have H1 : (if x14_3 = true then (if x13_3 = (wrap64 ((l0.length : Int) - a1)) then (if x10_2.length < 5864062014805 then (spec_rvWays.l0 kj17 l0 a1 a2 (wrap64 ((l0.length : Int) - a1)) (ji10) (x10_2 ++ [x12_3]) (wrap64 (x11_2 + 1))) else (none)) else (spec_rvWays.l0 kj17 l0 a1 a2 (wrap64 ((l0.length : Int) - a1)) (ji10) x10_2 (wrap64 (x11_2 + 1)))) else (spec_rvWays.l0 kj17 l0 a1 a2 (wrap64 ((l0.length : Int) - a1)) (ji10) x10_2 (wrap64 (x11_2 + 1)))) = some (r1, r2) := by rw [if_neg (show ¬ (false = true) by decide)] at H; exact H
               clear H
               have H := H1
               clear H1
               by_cases c56 : x14_3 = true
               ·subst c56
                have H1 : (if x13_3 = (wrap64 ((l0.length : Int) - a1)) then (if x10_2.length < 5864062014805 then (spec_rvWays.l0 kj17 l0 a1 a2 (wrap64 ((l0.length : Int) - a1)) (ji10) (x10_2 ++ [x12_3]) (wrap64 (x11_2 + 1))) else (none)) else (spec_rvWays.l0 kj17 l0 a1 a2 (wrap64 ((l0.length : Int) - a1)) (ji10) x10_2 (wrap64 (x11_2 + 1)))) = some (r1, r2) := by rw [if_pos rfl] at H; exact H
                clear H
                have H := H1
                clear H1
                by_cases c57 : x13_3 = (wrap64 ((l0.length : Int) - a1))
                ·rw [if_pos c57] at H
                 have c57b0 : (x13_3 == (wrap64 ((l0.length : Int) - a1))) = true := beq_iff_eq.mpr c57
                 have c57b1 : (x13_3 != (wrap64 ((l0.length : Int) - a1))) = false := bne_eq_false_iff_eq.mpr c57
                 clear c57
                 by_cases c58 : x10_2.length < 5864062014805
                 ·rw [if_pos c58] at H
                  have LMc58 := Aside0.mk c58
                  clear c58
                  obtain ⟨y271, hy271⟩ : ∃ y_ : List (List Int), y_ = (x10_2 ++ [x12_3]) := ⟨_, rfl⟩
                  replace H : (spec_rvWays.l0 kj17 l0 a1 a2 (wrap64 ((l0.length : Int) - a1)) (ji10) y271 (wrap64 (x11_2 + 1))) = some (r1, r2) := by first | (rw [hy271]; with_reducible exact H) | (have H2_ := (Option.bind_some _ _).symm.trans H; rw [hy271]; with_reducible exact H2_) | (have H2_ := (Option.bind_some _ _).symm.trans H; with_reducible exact H2_) | with_reducible exact H | (rw [hy271]; exact H) | exact H
                  have Ny271 := Aside0.mk hy271
                  clear hy271
                  have H' := Aside0.mk H
                  clear H
                  obtain ⟨Ao60, co60, eo60⟩ := Kd.R_slice HO_12.out
                  subst eo60
                  go_wp2_with (first | ((with_reducible refine gate_builtin (b := .append) (xs := #[.tmp 145, .tmp 147]) rfl ?_); at_builtin; refine Kd.S_append (Kd.slice 3 (Kd.int .i64)) (w0 := w) w.heap.size rfl (.tmp 145) (.tmp 147) 25 29 (.slice none 0 0) 24 rfl Try.underlying25 info29 rfl (by decide) (by omega) u10 x10_2 x12_3 [.slice Ao60 x12_3.length co60] (fun _ => True) (fun k_ => some k_ = (.slice Ao60 x12_3.length co60 : Value).ownBlock) rfl rfl ?aP (fun k_ hk_ => ((Kd.R_mono (ok' := fun k_ => ((fun _ => True)) k_ ∧ some k_ ≠ (u10 : Value).ownBlock) (Kd.R_apart' (HO_12.out) (Kd.S_typed HO_10.out) (by decide)) (fun k_ hk => ⟨trivial, hk.2⟩))).1 k_ hk_.symm) ?aF ?aO ?aB ?aS ?aL ?_; (case aP => exact Kd.M_row (Kd.R_mono (Kd.R_tight rfl (Kd.R_mono (ok' := fun k_ => ((fun _ => True)) k_ ∧ some k_ ≠ (u10 : Value).ownBlock) (Kd.R_apart' (HO_12.out) (Kd.S_typed HO_10.out) (by decide)) (fun k_ hk => ⟨trivial, hk.2⟩))) (fun _ h_ => h_))); (case aB => exact (by repeat (first | (with_reducible first | exact HB.out | apply below_alloc | apply pw_below_drewN | apply below_drew1) | exact HB.out))); (case aF => exact (fun _ _ => trivial)); (case aO => exact (by (with_reducible repeat (first | apply Kd.S_alloc | apply Kd.S_drewN | apply Kd.S_drew)); exact Kd.S_mono HO_10.out (fun k_ hk => ⟨trivial, fun e_ => hk e_⟩))); (case aS => exact (below_size (by repeat (first | (with_reducible first | exact HB.out | apply below_alloc | apply pw_below_drewN | apply below_drew1) | exact HB.out)))); (case aL => have := LMc58.out; omega); intro v272 w59 ho hb hg hat; rw [← Ny271.out] at ho; have n0_ := Aside0.mk (hb); have n1_ := Aside0.mk (ho); clear HB; clear HO_10; clear HO_12; have HB := n0_; have HO273 := n1_; clear n0_ n1_; clear ho hb hg hat))
                  repeat (go_quiet (first | ((with_reducible refine gate_builtin (b := .append) (xs := #[.tmp 145, .tmp 147]) rfl ?_); at_builtin; refine Kd.S_append (Kd.slice 3 (Kd.int .i64)) (w0 := w) w.heap.size rfl (.tmp 145) (.tmp 147) 25 29 (.slice none 0 0) 24 rfl Try.underlying25 info29 rfl (by decide) (by omega) u10 x10_2 x12_3 [.slice Ao60 x12_3.length co60] (fun _ => True) (fun k_ => some k_ = (.slice Ao60 x12_3.length co60 : Value).ownBlock) rfl rfl ?aP (fun k_ hk_ => ((Kd.R_mono (ok' := fun k_ => ((fun _ => True)) k_ ∧ some k_ ≠ (u10 : Value).ownBlock) (Kd.R_apart' (HO_12.out) (Kd.S_typed HO_10.out) (by decide)) (fun k_ hk => ⟨trivial, hk.2⟩))).1 k_ hk_.symm) ?aF ?aO ?aB ?aS ?aL ?_; (case aP => exact Kd.M_row (Kd.R_mono (Kd.R_tight rfl (Kd.R_mono (ok' := fun k_ => ((fun _ => True)) k_ ∧ some k_ ≠ (u10 : Value).ownBlock) (Kd.R_apart' (HO_12.out) (Kd.S_typed HO_10.out) (by decide)) (fun k_ hk => ⟨trivial, hk.2⟩))) (fun _ h_ => h_))); (case aB => exact (by repeat (first | (with_reducible first | exact HB.out | apply below_alloc | apply pw_below_drewN | apply below_drew1) | exact HB.out))); (case aF => exact (fun _ _ => trivial)); (case aO => exact (by (with_reducible repeat (first | apply Kd.S_alloc | apply Kd.S_drewN | apply Kd.S_drew)); exact Kd.S_mono HO_10.out (fun k_ hk => ⟨trivial, fun e_ => hk e_⟩))); (case aS => exact (below_size (by repeat (first | (with_reducible first | exact HB.out | apply below_alloc | apply pw_below_drewN | apply below_drew1) | exact HB.out)))); (case aL => have := LMc58.out; omega); intro v272 w59 ho hb hg hat; rw [← Ny271.out] at ho; have n0_ := Aside0.mk (hb); have n1_ := Aside0.mk (ho); clear HB; clear HO_10; clear HO_12; have HB := n0_; have HO273 := n1_; clear n0_ n1_; clear ho hb hg hat)); try go_wp2_with (first | ((with_reducible refine gate_builtin (b := .append) (xs := #[.tmp 145, .tmp 147]) rfl ?_); at_builtin; refine Kd.S_append (Kd.slice 3 (Kd.int .i64)) (w0 := w) w.heap.size rfl (.tmp 145) (.tmp 147) 25 29 (.slice none 0 0) 24 rfl Try.underlying25 info29 rfl (by decide) (by omega) u10 x10_2 x12_3 [.slice Ao60 x12_3.length co60] (fun _ => True) (fun k_ => some k_ = (.slice Ao60 x12_3.length co60 : Value).ownBlock) rfl rfl ?aP (fun k_ hk_ => ((Kd.R_mono (ok' := fun k_ => ((fun _ => True)) k_ ∧ some k_ ≠ (u10 : Value).ownBlock) (Kd.R_apart' (HO_12.out) (Kd.S_typed HO_10.out) (by decide)) (fun k_ hk => ⟨trivial, hk.2⟩))).1 k_ hk_.symm) ?aF ?aO ?aB ?aS ?aL ?_; (case aP => exact Kd.M_row (Kd.R_mono (Kd.R_tight rfl (Kd.R_mono (ok' := fun k_ => ((fun _ => True)) k_ ∧ some k_ ≠ (u10 : Value).ownBlock) (Kd.R_apart' (HO_12.out) (Kd.S_typed HO_10.out) (by decide)) (fun k_ hk => ⟨trivial, hk.2⟩))) (fun _ h_ => h_))); (case aB => exact (by repeat (first | (with_reducible first | exact HB.out | apply below_alloc | apply pw_below_drewN | apply below_drew1) | exact HB.out))); (case aF => exact (fun _ _ => trivial)); (case aO => exact (by (with_reducible repeat (first | apply Kd.S_alloc | apply Kd.S_drewN | apply Kd.S_drew)); exact Kd.S_mono HO_10.out (fun k_ hk => ⟨trivial, fun e_ => hk e_⟩))); (case aS => exact (below_size (by repeat (first | (with_reducible first | exact HB.out | apply below_alloc | apply pw_below_drewN | apply below_drew1) | exact HB.out)))); (case aL => have := LMc58.out; omega); intro v272 w59 ho hb hg hat; rw [← Ny271.out] at ho; have n0_ := Aside0.mk (hb); have n1_ := Aside0.mk (ho); clear HB; clear HO_10; clear HO_12; have HB := n0_; have HO273 := n1_; clear n0_ n1_; clear ho hb hg hat)))
                  subst hji10
                  go_roundg kj17
                  case measure => have := HJ3.out; have := HK2.out; have := HK3.out; have := HJ17.out; omega
                  case rel => exact ⟨(y271), (wrap64 (x11_2 + 1)), (by first | rfl | (simp; done) | (simp [*]; done)), H', ⟨by have := HJ3.out; have := HK2.out; have := HK3.out; have := HJ17.out; omega⟩, ⟨by (with_reducible repeat (first | apply Kd.S_alloc | apply Kd.S_drewN | apply Kd.S_drew)); exact HO273.out⟩, ⟨by repeat (first | (with_reducible first | exact HB.out | apply below_alloc | apply pw_below_drewN | apply below_drew1) | exact HB.out)⟩⟩
                 ·rw [if_neg c58] at H
                  exact absurd H (by simp)
                ·rw [if_neg c57] at H
                 have c57b0 : (x13_3 == (wrap64 ((l0.length : Int) - a1))) = false := beq_eq_false_iff_ne.mpr c57
                 have c57b1 : (x13_3 != (wrap64 ((l0.length : Int) - a1))) = true := bne_iff_ne.mpr c57
                 have H' := Aside0.mk H
                 clear H
                 go_wp2
                 repeat (go_quiet (fail); try go_wp2)
                 subst hji10
                 go_roundg kj17
                 case measure => have := HJ3.out; have := HK2.out; have := HK3.out; have := HJ17.out; omega
                 case rel => exact ⟨(x10_2), (wrap64 (x11_2 + 1)), (by first | rfl | (simp; done) | (simp [*]; done)), H', ⟨by have := HJ3.out; have := HK2.out; have := HK3.out; have := HJ17.out; omega⟩, ⟨by (with_reducible repeat (first | apply Kd.S_alloc | apply Kd.S_drewN | apply Kd.S_drew)); exact Kd.S_mono HO_10.out (fun _ hk => trivial)⟩, ⟨by repeat (first | (with_reducible first | exact HB.out | apply below_alloc | apply pw_below_drewN | apply below_drew1) | exact HB.out)⟩⟩
               ·replace c56 := Bool.eq_false_iff.mpr c56
                subst c56
                have H1 : (spec_rvWays.l0 kj17 l0 a1 a2 (wrap64 ((l0.length : Int) - a1)) (ji10) x10_2 (wrap64 (x11_2 + 1))) = some (r1, r2) := by rw [if_neg (show ¬ (false = true) by decide)] at H; exact H
                clear H
                have H := H1
                clear H1
                have H' := Aside0.mk H
                clear H
                go_wp2
                repeat (go_quiet (fail); try go_wp2)
                subst hji10
                go_roundg kj17
                case measure => have := HJ3.out; have := HK2.out; have := HK3.out; have := HJ17.out; omega
                case rel => exact ⟨(x10_2), (wrap64 (x11_2 + 1)), (by first | rfl | (simp; done) | (simp [*]; done)), H', ⟨by have := HJ3.out; have := HK2.out; have := HK3.out; have := HJ17.out; omega⟩, ⟨by (with_reducible repeat (first | apply Kd.S_alloc | apply Kd.S_drewN | apply Kd.S_drew)); exact Kd.S_mono HO_10.out (fun _ hk => trivial)⟩, ⟨by repeat (first | (with_reducible first | exact HB.out | apply below_alloc | apply pw_below_drewN | apply below_drew1) | exact HB.out)⟩⟩
         ·rw [if_neg c15] at H
          exact absurd H (by simp)
        ·rw [if_neg c14] at H
         exact absurd H (by simp)
       ·rw [if_neg c13] at H
        have c13b0 : decide (x11_2 < (ji12)) = false := decide_eq_false c13
        clear c13
        simp only [Option.some.injEq, Prod.mk.injEq] at H
        obtain ⟨rfl, rfl⟩ := H
        go_wp2
        repeat (go_quiet (fail); try go_wp2)
        go_ret2
        exact ⟨_, by first | rfl | (simp [errW_none, errW_some] <;> rfl) | (simp only [← hji10, ← hji12]; first | rfl | (simp [errW_none, errW_some] <;> rfl)) | (simp [*, errW_none, errW_some] <;> rfl), by (with_reducible repeat (first | apply Kd.S_alloc | apply Kd.S_drewN | apply Kd.S_drew)); exact HO_10.out, by repeat (first | (with_reducible first | exact HB.out | apply below_alloc | apply pw_below_drewN | apply below_drew1) | exact HB.out)⟩
      ·rw [if_neg c11] at H
       exact absurd H (by simp)

end Go.Proofs.Ytiheocddlopfcaa.PFnSourcesOfSums
