-- out of the kit's print, turned by wip/own_print.py
import Derived.Test.YtclnhbppcmcalaaPFnStepsToOnex0
import Derived.Test.YtclnhbppcmcalaaPFnStepsToOnex1
import Derived.Test.YtclnhbppcmcalaaPFnStepsToOnex2
import Derived.Test.YtclnhbppcmcalaaPFnStepsToOnex3
import Derived.Test.YtclnhbppcmcalaaPFnStepsToOnex4
import Derived.Test.YtclnhbppcmcalaaPFnStepsToOnex5
namespace Go.Proofs.Ytclnhbppcmcalaa.PFnStepsToOne
open Go.RowKit Go.Proofs.YtclnhbppcmcalaaW.PrintWords Go.Proofs.YtclnhbppcmcalaaW.PrintLast Go.Proofs.YtclnhbppcmcalaaW.PrintMore
attribute [local go_sem] max2_int min2_int max_two min_two max_three min_three max_four min_four   -- for this text's walks alone
set_option linter.unusedVariables false
set_option linter.unusedSimpArgs false

/-! ### impl_ShortStep: function 26 -/
def impl_ShortStep.f (a0 : Int) : Option (Int × Bool) := (impl_isPlace.f a0).bind fun t352 => (if t352 = true then ((impl_short.f a0).bind fun t353 => ((impl_told.f t353).bind fun bt354 => (some (bt354.1, bt354.2)))) else (some (0, false)))
set_option maxHeartbeats 8000000 in
set_option maxRecDepth 100000 in
theorem impl_ShortStep.calls (a0 : Int) (r1 : Int) (r2 : Bool) (w : World) (h : impl_ShortStep.f a0 = some (r1, r2)) :
    Calls Try.prog 26 #[.int .i64 a0] w fun e w' => e = .returned (.tuple #[.int .i64 r1, .bool r2]) ∧ Drawn0 w w' := by
  have H : ((impl_isPlace.f a0).bind fun t352 => (if t352 = true then ((impl_short.f a0).bind fun t353 => ((impl_told.f t353).bind fun bt354 => (some (bt354.1, bt354.2)))) else (some (0, false)))) = some (r1, r2) := h
  clear h
  replace H := Option.bind_eq_some_iff.mp H
  obtain ⟨t352, A20, H⟩ := H
  replace H : (if t352 = true then ((impl_short.f a0).bind fun t353 => ((impl_told.f t353).bind fun bt354 => (some (bt354.1, bt354.2)))) else (some (0, false))) = some (r1, r2) := H
  have A2 := Aside0.mk A20
  clear A20
  by_cases c3 : t352 = true
  · subst c3
    have H1 : ((impl_short.f a0).bind fun t353 => ((impl_told.f t353).bind fun bt354 => (some (bt354.1, bt354.2)))) = some (r1, r2) := by rw [if_pos rfl] at H; exact H
    clear H
    have H := H1
    clear H1
    replace H := Option.bind_eq_some_iff.mp H
    obtain ⟨t353, A40, H⟩ := H
    replace H : ((impl_told.f t353).bind fun bt354 => (some (bt354.1, bt354.2))) = some (r1, r2) := H
    have A4 := Aside0.mk A40
    clear A40
    replace H := Option.bind_eq_some_iff.mp H
    obtain ⟨⟨t354, t355⟩, A50, H⟩ := H
    replace H : (some (t354, t355)) = some (r1, r2) := H
    have A5 := Aside0.mk A50
    clear A50
    simp only [Option.some.injEq, Prod.mk.injEq] at H
    obtain ⟨rfl, rfl⟩ := H
    go_enter Try.func26, Try.ntmps26
    go_wp2_with (first | ((with_reducible refine gate_callee (f := 46) rfl ?_); refine goesL_ (some 5) rfl rfl Try.func46 (by kernel_rfl) rfl #[.int .i64 a0] rfl (by (try simp only [List.map_toArray, List.map_cons, List.map_nil]); first | done | rfl | (simp only [List.length_drop, List.length_take]; rfl)) ?_; (with_reducible refine (impl_isPlace.calls a0 true _ A2.out).mono ?_); rintro e w' ⟨rfl, ⟨nd, rfl⟩⟩; refine ⟨_, rfl, ?_⟩) | ((with_reducible refine gate_callee (f := 59) rfl ?_); refine goesL_ (some 8) rfl rfl Try.func59 (by kernel_rfl) rfl #[.int .i64 a0] rfl (by (try simp only [List.map_toArray, List.map_cons, List.map_nil]); first | done | rfl | (simp only [List.length_drop, List.length_take]; rfl)) ?_; (with_reducible refine (impl_short.calls a0 t353 _ A4.out).mono ?_); rintro e w' ⟨rfl, ⟨nd, rfl⟩⟩; refine ⟨_, rfl, ?_⟩) | ((with_reducible refine gate_callee (f := 47) rfl ?_); refine goesL_ (some 9) rfl rfl Try.func47 (by kernel_rfl) rfl #[.int .i64 t353] rfl (by (try simp only [List.map_toArray, List.map_cons, List.map_nil]); first | done | rfl | (simp only [List.length_drop, List.length_take]; rfl)) ?_; (with_reducible refine (impl_told.calls t353 t354 t355 _ A5.out).mono ?_); rintro e w' ⟨rfl, ⟨nd, rfl⟩⟩; refine ⟨_, rfl, ?_⟩))
    go_ret2
    exact ⟨by first | rfl | (simp; done) | (simp [*]; done), by repeat (first | exact Drawn0.refl _ | apply Drawn0.step)⟩
  · replace c3 := Bool.eq_false_iff.mpr c3
    subst c3
    have H1 : (some (0, false)) = some (r1, r2) := by rw [if_neg (show ¬ (false = true) by decide)] at H; exact H
    clear H
    have H := H1
    clear H1
    simp only [Option.some.injEq, Prod.mk.injEq] at H
    obtain ⟨rfl, rfl⟩ := H
    go_enter Try.func26, Try.ntmps26
    go_wp2_with (first | ((with_reducible refine gate_callee (f := 46) rfl ?_); refine goesL_ (some 5) rfl rfl Try.func46 (by kernel_rfl) rfl #[.int .i64 a0] rfl (by (try simp only [List.map_toArray, List.map_cons, List.map_nil]); first | done | rfl | (simp only [List.length_drop, List.length_take]; rfl)) ?_; (with_reducible refine (impl_isPlace.calls a0 false _ A2.out).mono ?_); rintro e w' ⟨rfl, ⟨nd, rfl⟩⟩; refine ⟨_, rfl, ?_⟩))
    go_ret2
    exact ⟨by first | rfl | (simp; done) | (simp [*]; done), by repeat (first | exact Drawn0.refl _ | apply Drawn0.step)⟩

/-! ### spec_stShort: function 60 -/
def spec_stShort.f (a0 : Int) : Option (Int) := if (Int.tmod a0 2) = 0 then (some (wrap64 (Int.tdiv a0 2))) else (some (wrap64 (Int.tdiv (wrap64 ((wrap64 (3 * a0)) + 1)) 2)))
set_option maxHeartbeats 8000000 in
set_option maxRecDepth 100000 in
theorem spec_stShort.calls (a0 : Int) (r : Int) (w : World) (h : spec_stShort.f a0 = some r) :
    Calls Try.prog 60 #[.int .i64 a0] w fun e w' => e = .returned (.int .i64 r) ∧ Drawn0 w w' := by
  have H : (if (Int.tmod a0 2) = 0 then (some (wrap64 (Int.tdiv a0 2))) else (some (wrap64 (Int.tdiv (wrap64 ((wrap64 (3 * a0)) + 1)) 2)))) = some r := h
  clear h
  by_cases c2 : (Int.tmod a0 2) = 0
  · rw [if_pos c2] at H
    have c2b0 : ((Int.tmod a0 2) == 0) = true := beq_iff_eq.mpr c2
    have c2b1 : ((Int.tmod a0 2) != 0) = false := bne_eq_false_iff_eq.mpr c2
    clear c2
    obtain rfl := Option.some.inj H
    go_enter Try.func60, Try.ntmps60
    go_wp2
    go_ret
    exact ⟨by first | rfl | (simp; done) | (simp [*]; done), by repeat (first | exact Drawn0.refl _ | apply Drawn0.step)⟩
  · rw [if_neg c2] at H
    have c2b0 : ((Int.tmod a0 2) == 0) = false := beq_eq_false_iff_ne.mpr c2
    have c2b1 : ((Int.tmod a0 2) != 0) = true := bne_iff_ne.mpr c2
    obtain rfl := Option.some.inj H
    go_enter Try.func60, Try.ntmps60
    go_wp2
    go_ret
    exact ⟨by first | rfl | (simp; done) | (simp [*]; done), by repeat (first | exact Drawn0.refl _ | apply Drawn0.step)⟩

/-! ### spec_ShortStep: function 27 -/
def spec_ShortStep.f (a0 : Int) : Option (Int × Bool) := (spec_stNumber.f a0).bind fun t356 => (if t356 = true then ((spec_stShort.f a0).bind fun t357 => ((spec_stIf.f t357).bind fun bt358 => (some (bt358.1, bt358.2)))) else (some (0, false)))
set_option maxHeartbeats 8000000 in
set_option maxRecDepth 100000 in
theorem spec_ShortStep.calls (a0 : Int) (r1 : Int) (r2 : Bool) (w : World) (h : spec_ShortStep.f a0 = some (r1, r2)) :
    Calls Try.prog 27 #[.int .i64 a0] w fun e w' => e = .returned (.tuple #[.int .i64 r1, .bool r2]) ∧ Drawn0 w w' := by
  have H : ((spec_stNumber.f a0).bind fun t356 => (if t356 = true then ((spec_stShort.f a0).bind fun t357 => ((spec_stIf.f t357).bind fun bt358 => (some (bt358.1, bt358.2)))) else (some (0, false)))) = some (r1, r2) := h
  clear h
  replace H := Option.bind_eq_some_iff.mp H
  obtain ⟨t356, A20, H⟩ := H
  replace H : (if t356 = true then ((spec_stShort.f a0).bind fun t357 => ((spec_stIf.f t357).bind fun bt358 => (some (bt358.1, bt358.2)))) else (some (0, false))) = some (r1, r2) := H
  have A2 := Aside0.mk A20
  clear A20
  by_cases c3 : t356 = true
  · subst c3
    have H1 : ((spec_stShort.f a0).bind fun t357 => ((spec_stIf.f t357).bind fun bt358 => (some (bt358.1, bt358.2)))) = some (r1, r2) := by rw [if_pos rfl] at H; exact H
    clear H
    have H := H1
    clear H1
    replace H := Option.bind_eq_some_iff.mp H
    obtain ⟨t357, A40, H⟩ := H
    replace H : ((spec_stIf.f t357).bind fun bt358 => (some (bt358.1, bt358.2))) = some (r1, r2) := H
    have A4 := Aside0.mk A40
    clear A40
    replace H := Option.bind_eq_some_iff.mp H
    obtain ⟨⟨t358, t359⟩, A50, H⟩ := H
    replace H : (some (t358, t359)) = some (r1, r2) := H
    have A5 := Aside0.mk A50
    clear A50
    simp only [Option.some.injEq, Prod.mk.injEq] at H
    obtain ⟨rfl, rfl⟩ := H
    go_enter Try.func27, Try.ntmps27
    go_wp2_with (first | ((with_reducible refine gate_callee (f := 42) rfl ?_); refine goesL_ (some 5) rfl rfl Try.func42 (by kernel_rfl) rfl #[.int .i64 a0] rfl (by (try simp only [List.map_toArray, List.map_cons, List.map_nil]); first | done | rfl | (simp only [List.length_drop, List.length_take]; rfl)) ?_; (with_reducible refine (spec_stNumber.calls a0 true _ A2.out).mono ?_); rintro e w' ⟨rfl, ⟨nd, rfl⟩⟩; refine ⟨_, rfl, ?_⟩) | ((with_reducible refine gate_callee (f := 60) rfl ?_); refine goesL_ (some 8) rfl rfl Try.func60 (by kernel_rfl) rfl #[.int .i64 a0] rfl (by (try simp only [List.map_toArray, List.map_cons, List.map_nil]); first | done | rfl | (simp only [List.length_drop, List.length_take]; rfl)) ?_; (with_reducible refine (spec_stShort.calls a0 t357 _ A4.out).mono ?_); rintro e w' ⟨rfl, ⟨nd, rfl⟩⟩; refine ⟨_, rfl, ?_⟩) | ((with_reducible refine gate_callee (f := 57) rfl ?_); refine goesL_ (some 9) rfl rfl Try.func57 (by kernel_rfl) rfl #[.int .i64 t357] rfl (by (try simp only [List.map_toArray, List.map_cons, List.map_nil]); first | done | rfl | (simp only [List.length_drop, List.length_take]; rfl)) ?_; (with_reducible refine (spec_stIf.calls t357 t358 t359 _ A5.out).mono ?_); rintro e w' ⟨rfl, ⟨nd, rfl⟩⟩; refine ⟨_, rfl, ?_⟩))
    go_ret2
    exact ⟨by first | rfl | (simp; done) | (simp [*]; done), by repeat (first | exact Drawn0.refl _ | apply Drawn0.step)⟩
  · replace c3 := Bool.eq_false_iff.mpr c3
    subst c3
    have H1 : (some (0, false)) = some (r1, r2) := by rw [if_neg (show ¬ (false = true) by decide)] at H; exact H
    clear H
    have H := H1
    clear H1
    simp only [Option.some.injEq, Prod.mk.injEq] at H
    obtain ⟨rfl, rfl⟩ := H
    go_enter Try.func27, Try.ntmps27
    go_wp2_with (first | ((with_reducible refine gate_callee (f := 42) rfl ?_); refine goesL_ (some 5) rfl rfl Try.func42 (by kernel_rfl) rfl #[.int .i64 a0] rfl (by (try simp only [List.map_toArray, List.map_cons, List.map_nil]); first | done | rfl | (simp only [List.length_drop, List.length_take]; rfl)) ?_; (with_reducible refine (spec_stNumber.calls a0 false _ A2.out).mono ?_); rintro e w' ⟨rfl, ⟨nd, rfl⟩⟩; refine ⟨_, rfl, ?_⟩))
    go_ret2
    exact ⟨by first | rfl | (simp; done) | (simp [*]; done), by repeat (first | exact Drawn0.refl _ | apply Drawn0.step)⟩

/-! ### spec_BeforeStep: function 28 -/
def spec_BeforeStep.f (a0 : Int) : Option (List Int × Bool) := (spec_stNumber.f a0).bind fun t360 => (if t360 = true then ((spec_stBefore.f a0).bind fun t361 => (some (t361, true))) else (some (([] : List Int), false)))
set_option maxHeartbeats 8000000 in
set_option maxRecDepth 100000 in
theorem spec_BeforeStep.calls (a0 : Int) (r1 : List Int) (r2 : Bool) (w : World) (h : spec_BeforeStep.f a0 = some (r1, r2)) :
    Calls Try.prog 28 #[.int .i64 a0] w fun e w' => ∃ v0_ : Value, e = .returned (.tuple #[v0_, .bool r2]) ∧ Kd.R (Kd.int .i64) 3 w' w.heap.size (fun _ => True) v0_ r1 ∧ Below w.heap.size w w' := by
  have HB := Aside0.mk (Below.refl w.heap.size w)
  have H : ((spec_stNumber.f a0).bind fun t360 => (if t360 = true then ((spec_stBefore.f a0).bind fun t361 => (some (t361, true))) else (some (([] : List Int), false)))) = some (r1, r2) := h
  clear h
  replace H := Option.bind_eq_some_iff.mp H
  obtain ⟨t360, A20, H⟩ := H
  replace H : (if t360 = true then ((spec_stBefore.f a0).bind fun t361 => (some (t361, true))) else (some (([] : List Int), false))) = some (r1, r2) := H
  have A2 := Aside0.mk A20
  clear A20
  by_cases c3 : t360 = true
  · subst c3
    have H1 : ((spec_stBefore.f a0).bind fun t361 => (some (t361, true))) = some (r1, r2) := by rw [if_pos rfl] at H; exact H
    clear H
    have H := H1
    clear H1
    replace H := Option.bind_eq_some_iff.mp H
    obtain ⟨t361, A40, H⟩ := H
    replace H : (some (t361, true)) = some (r1, r2) := H
    have A4 := Aside0.mk A40
    clear A40
    simp only [Option.some.injEq, Prod.mk.injEq] at H
    obtain ⟨rfl, rfl⟩ := H
    go_enter Try.func28, Try.ntmps28
    go_wp2_with (first | ((with_reducible refine gate_callee (f := 42) rfl ?_); refine goesL_ (some 5) rfl rfl Try.func42 (by kernel_rfl) rfl #[.int .i64 a0] rfl (by (try simp only [List.map_toArray, List.map_cons, List.map_nil]); first | done | rfl | (simp only [List.length_drop, List.length_take]; rfl)) ?_; (with_reducible refine (spec_stNumber.calls a0 true _ A2.out).mono ?_); rintro e w' ⟨rfl, ⟨nd, rfl⟩⟩; refine ⟨_, rfl, ?_⟩) | ((with_reducible refine gate_callee (f := 54) rfl ?_); refine goesL_ (some 8) rfl rfl Try.func54 (by kernel_rfl) rfl #[.int .i64 a0] rfl (by (try simp only [List.map_toArray, List.map_cons, List.map_nil]); first | done | rfl | (simp only [List.length_drop, List.length_take]; rfl)) ?_; (with_reducible refine (spec_stBefore.calls a0 t361 _ A4.out).mono ?_); rintro e w5 ⟨v362, rfl, ho0, hb⟩; refine ⟨_, rfl, ?_⟩; have n0_ := Aside0.mk (Kd.R_lower ho0 (below_size (by repeat (first | (with_reducible first | exact HB.out | apply below_alloc | apply pw_below_drewN | apply below_drew1) | exact HB.out)))); have n1_ := Aside0.mk (below_step (by repeat (first | (with_reducible first | exact HB.out | apply below_alloc | apply pw_below_drewN | apply below_drew1) | exact HB.out)) hb); clear HB; have HO363 := n0_; have HB := n1_; clear n0_ n1_; (try clear hb); (try clear hb2); (try clear hk); (try clear hi); (try clear ho0)))
    go_ret2
    exact ⟨_, by first | rfl | (simp [errW_none, errW_some] <;> rfl) | (simp [*, errW_none, errW_some] <;> rfl), by (with_reducible repeat (first | apply Kd.R_alloc | apply Kd.R_drewN | apply Kd.R_drew)); exact HO363.out, by repeat (first | (with_reducible first | exact HB.out | apply below_alloc | apply pw_below_drewN | apply below_drew1) | exact HB.out)⟩
  · replace c3 := Bool.eq_false_iff.mpr c3
    subst c3
    have H1 : (some (([] : List Int), false)) = some (r1, r2) := by rw [if_neg (show ¬ (false = true) by decide)] at H; exact H
    clear H
    have H := H1
    clear H1
    simp only [Option.some.injEq, Prod.mk.injEq] at H
    obtain ⟨rfl, rfl⟩ := H
    go_enter Try.func28, Try.ntmps28
    go_wp2_with (first | ((with_reducible refine gate_callee (f := 42) rfl ?_); refine goesL_ (some 5) rfl rfl Try.func42 (by kernel_rfl) rfl #[.int .i64 a0] rfl (by (try simp only [List.map_toArray, List.map_cons, List.map_nil]); first | done | rfl | (simp only [List.length_drop, List.length_take]; rfl)) ?_; (with_reducible refine (spec_stNumber.calls a0 false _ A2.out).mono ?_); rintro e w' ⟨rfl, ⟨nd, rfl⟩⟩; refine ⟨_, rfl, ?_⟩))
    go_ret2
    exact ⟨_, by first | rfl | (simp [errW_none, errW_some] <;> rfl) | (simp [*, errW_none, errW_some] <;> rfl), by first | exact Kd.R_nil _ _ _ _ _ | exact Kd.N_nil _ _ _ _ _ | exact Kd.V_nil _ _ _ _ _ | exact Kd.Q_nil _ _ _ _ _ | exact Kd.S_nil _ _ _ _ _, by repeat (first | (with_reducible first | exact HB.out | apply below_alloc | apply pw_below_drewN | apply below_drew1) | exact HB.out)⟩

/-! ### impl_FallsBelow: function 29 -/
set_option maxHeartbeats 4000000 in
set_option maxRecDepth 100000 in
theorem impl_FallsBelow.runs (e : Int → Bool) (k : Nat) (n : Int) (r1 : List Int) (r2 : Bool) (g : Nat) (w : World)
    (hs : ∀ (W : World) (x : Int), Below w.heap.size w W → Calls Try.prog 62 #[.int .i64 x, .pointer (some ⟨g, 0, none⟩)] W fun o w' => o = .returned (.bool (e x)) ∧ Below W.heap.size W w')
    (h : impl_toOne.wy e k [n] n 0 = some (r1, r2)) :
    Calls Try.prog 61 #[.int .i64 n, .func (.func 62) #[] #[.pointer (some ⟨g, 0, none⟩)]] w fun o w' => ∃ v0_ : Value, o = .returned (.tuple #[v0_, .bool r2]) ∧ Kd.R (Kd.int .i64) 3 w' w.heap.size (fun _ => True) v0_ r1 ∧ Below w.heap.size w w' := by
  have HS := Aside0.mk hs
  clear hs
  have eg : ∀ args w, (callFunc 62 args).run Try.prog w = .ok (.enter 62 args) w := Go.Proofs.enters_of Try.func62 (by kernel_rfl) rfl
  have H' := Aside0.mk h
  clear h
  have HB := Aside0.mk (Below.refl w.heap.size w)
  go_enter Try.func61, Try.ntmps61
  go_wp2_with (first | ((with_reducible refine gate_dst (N := 9) rfl ?_); refine Kd.R_lit (Kd.int .i64) _ 3 ?hg (N := 9) ?hd (xs := ([n] : List Int)) (inner := [.int .i64 n]) (ok := fun _ => True) (okp := fun _ => True) ?hr ?hp (fun _ hk => hk) trivial (Below.refl _ _) (Nat.le_refl _) (by simp) ?_; (case hd => rfl); (case hg => rfl); (case hr => first | (go_simp; done) | (go_simp; rfl)); (case hp => exact (Reps.one (show Kd.M (Kd.int .i64) _ _ _ n [.int .i64 n] from rfl) (Reps.none _ _))); intro v159 w6 ho7 hb hg_ hnew_; clear hg_ hnew_; have HO := Aside0.mk ho7; have n1_ := Aside0.mk (below_step HB.out hb); clear HB; have HB := n1_; clear n1_ hb ho7))
  go_loopg [0, 6, 7] k (fun kq v0 v6 v7 w' => ∃ (x j : Int) (xs : List Int), v0 = .int .i64 x ∧ v7 = .int .i64 j ∧ Aside0 (impl_toOne.wy e kq xs x j = some (r1, r2)) ∧ Aside0 (kq ≤ k) ∧ Aside0 (Kd.R (Kd.int .i64) 3 w' w.heap.size (fun _ => True) v6 xs) ∧ Aside0 (Below w.heap.size w w'))
  case atStart => exact ⟨n, 0, [n], rfl, rfl, H', ⟨Nat.le_refl _⟩, HO, HB⟩
  case round =>
    clear H' HO HB
    obtain ⟨x, j, xs, rfl, rfl, HA, HK1, HO, HB⟩ := hrel
    cases gk with
    | zero => exact absurd HA.out (by simp [impl_toOne.wy])
    | succ k1 =>
      have H := HA.out
      clear HA
      simp only [impl_toOne.wy] at H
      obtain ⟨b, hb⟩ : ∃ b, e x = b := ⟨_, rfl⟩
      have hcon := HS.out
      have HC := Aside0.mk (fun W hB => hcon W x hB)
      rw [hb] at H HC
      clear hcon hb
      cases b with
      | true =>
        rw [if_pos rfl] at H
        obtain ⟨rfl, rfl⟩ := Prod.mk.inj (Option.some.inj H)
        clear H
        go_wp2_with (first
          | (go_at_call 62; refine (HC.out _ HB.out).mono ?_; rintro o w3 ⟨rfl, hb3⟩; have n1_ := Aside0.mk (below_step HB.out hb3); have n2_ := Aside0.mk (Kd.R_below HO.out hb3); clear HB HO hb3; have HB := n1_; have HO := n2_; clear n1_ n2_))
        go_ret2
        exact ⟨_, rfl, HO.out, HB.out⟩
      | false =>
        rw [if_neg (by simp)] at H
        obtain ⟨m, hm, H⟩ := Option.bind_eq_some_iff.1 H
        have HM := Aside0.mk hm
        clear hm
        by_cases q1 : j = 1000
        case pos =>
          rw [if_pos q1] at H
          have q1b : (j == 1000) = true := beq_iff_eq.mpr q1
          clear q1
          obtain ⟨rfl, rfl⟩ := Prod.mk.inj (Option.some.inj H)
          clear H
          go_wp2_with (first
            | (go_at_call 62; refine (HC.out _ HB.out).mono ?_; rintro o w3 ⟨rfl, hb3⟩; have n1_ := Aside0.mk (below_step HB.out hb3); have n2_ := Aside0.mk (Kd.R_below HO.out hb3); clear HB HO hb3; have HB := n1_; have HO := n2_; clear n1_ n2_)
            | (go_at_call 48; refine (impl_stepWith.calls x 1 m _ HM.out).mono ?_; rintro o w4 ⟨rfl, hd4⟩; have n1_ := Aside0.mk (below_step HB.out hd4.below); have n2_ := Aside0.mk (Kd.R_below HO.out hd4.below); clear HB HO hd4; have HB := n1_; have HO := n2_; clear n1_ n2_))
          go_ret2
          exact ⟨_, rfl, Kd.R_nil _ _ _ _ _, HB.out⟩
        case neg =>
          rw [if_neg q1] at H
          have q1b : (j == 1000) = false := beq_eq_false_iff_ne.mpr q1
          clear q1
          by_cases q2 : m > 1000000000000
          case pos =>
            rw [if_pos q2] at H
            have q2b : decide (m > 1000000000000) = true := decide_eq_true q2
            have q2c : decide (1000000000000 < m) = true := decide_eq_true q2
            clear q2
            obtain ⟨rfl, rfl⟩ := Prod.mk.inj (Option.some.inj H)
            clear H
            go_wp2_with (first
              | (go_at_call 62; refine (HC.out _ HB.out).mono ?_; rintro o w3 ⟨rfl, hb3⟩; have n1_ := Aside0.mk (below_step HB.out hb3); have n2_ := Aside0.mk (Kd.R_below HO.out hb3); clear HB HO hb3; have HB := n1_; have HO := n2_; clear n1_ n2_)
              | (go_at_call 48; refine (impl_stepWith.calls x 1 m _ HM.out).mono ?_; rintro o w4 ⟨rfl, hd4⟩; have n1_ := Aside0.mk (below_step HB.out hd4.below); have n2_ := Aside0.mk (Kd.R_below HO.out hd4.below); clear HB HO hd4; have HB := n1_; have HO := n2_; clear n1_ n2_))
            go_ret2
            exact ⟨_, rfl, Kd.R_nil _ _ _ _ _, HB.out⟩
          case neg =>
            rw [if_neg q2] at H
            have q2b : decide (m > 1000000000000) = false := decide_eq_false q2
            have q2c : decide (1000000000000 < m) = false := decide_eq_false q2
            clear q2
            by_cases q3 : xs.length < 17592186044416
            case neg => rw [if_neg q3] at H; exact absurd H (by simp)
            case pos =>
              rw [if_pos q3] at H
              have HL := Aside0.mk q3
              have H' := Aside0.mk H
              clear q3 H
              go_wp2_with (first
                | (go_at_call 62; refine (HC.out _ HB.out).mono ?_; rintro o w3 ⟨rfl, hb3⟩; have n1_ := Aside0.mk (below_step HB.out hb3); have n2_ := Aside0.mk (Kd.R_below HO.out hb3); clear HB HO hb3; have HB := n1_; have HO := n2_; clear n1_ n2_)
                | (go_at_call 48; refine (impl_stepWith.calls x 1 m _ HM.out).mono ?_; rintro o w4 ⟨rfl, hd4⟩; have n1_ := Aside0.mk (below_step HB.out hd4.below); have n2_ := Aside0.mk (Kd.R_below HO.out hd4.below); clear HB HO hd4; have HB := n1_; have HO := n2_; clear n1_ n2_)
                | ((with_reducible refine gate_builtin (b := .append) (xs := #[.tmp 24, .tmp 26]) rfl ?_); at_builtin; (refine Kd.R_append (Kd.int .i64) (w0 := w) w.heap.size rfl (.tmp 24) (.tmp 26) 25 3 (.int .i64 0) 8 rfl Try.underlying25 info3 rfl (by decide) (by omega) u6 xs m [.int .i64 m] (fun _ => True) (fun _ => False) rfl rfl ?aP (fun _ hk => hk.elim) ?aF ?aO ?aB ?aS ?aL ?_); (case aP => exact rfl); (case aB => exact HB.out); (case aF => exact (fun _ _ => trivial)); (case aO => exact HO.out); (case aS => exact HB.out.size); (case aL => have := HL.out; omega); intro v2 w2 ho2 hb2 hg2 hat2; clear hg2 hat2; have HO2 := Aside0.mk ho2; have HB2 := Aside0.mk hb2; clear ho2 hb2))
              go_roundg k1
              case measure => have := HK1.out; omega
              case rel => exact ⟨m, wrap64 (j + 1), xs ++ [m], rfl, rfl, H', ⟨by have := HK1.out; omega⟩, HO2, HB2⟩
set_option maxHeartbeats 1000000 in
theorem impl_FallsBelow.c1 (x n : Int) (g : Nat) (w : World) (hc : w.cell? ⟨g, 0, none⟩ = some (.int .i64 n)) : Calls Try.prog 62 #[.int .i64 x, .pointer (some ⟨g, 0, none⟩)] w fun o w' => o = .returned (.bool (decide (x < n))) ∧ Below w.heap.size w w' := by
  go_enter Try.func62, Try.ntmps62
  go_wp2
  go_ret
  exact ⟨rfl, Below.refl _ _⟩
def impl_FallsBelow.f (k : Nat) (a0 : Int) : Option (Int × Bool) := (impl_in.f a0 2 1000000000000).bind fun t => if t = true then (impl_toOne.wy (fun x => decide (x < a0)) k [a0] a0 0).bind fun z => some (mx (wrap64 ((z.1.length : Int) - 1)) 0, z.2) else some (0, false)
theorem impl_FallsBelow.mono : ∀ a0 k, LeO (impl_FallsBelow.f k a0) (impl_FallsBelow.f (k + 1) a0) := by
  intro a0 k
  unfold impl_FallsBelow.f
  exact LeO.bind (LeO.refl _) (fun _ => LeO.ite (LeO.bind (impl_toOne.wy_mono _ _ _ _ _) (fun _ => LeO.refl _)) (LeO.refl _))
set_option maxHeartbeats 2000000 in
set_option maxRecDepth 100000 in
theorem impl_FallsBelow.calls (k : Nat) (a0 : Int) (r1 : Int) (r2 : Bool) (w : World) (h : impl_FallsBelow.f k a0 = some (r1, r2)) :
    Calls Try.prog 29 #[.int .i64 a0] w fun e w' => e = .returned (.tuple #[.int .i64 r1, .bool r2]) ∧ Below w.heap.size w w' := by
  unfold impl_FallsBelow.f at h
  have hmf : ∀ (fn : Fn) (first cap : Array Value) (w : World), (Instr.makeFunc fn first cap).run Try.prog w = .ok (.func fn first cap) w := fun _ _ _ _ => rfl
  obtain ⟨t, ht, h⟩ := Option.bind_eq_some_iff.1 h
  have HN := Aside0.mk ht
  clear ht
  have hb1 : Below w.heap.size w (w.alloc (.cells #[.int .i64 a0] 3)) := below_alloc (Below.refl _ _) _
  have hg1 : (w.alloc (.cells #[.int .i64 a0] 3)).heap[w.heap.size]? = some (.cells #[.int .i64 a0] 3 (0, 0)) := heap_alloc_new w _
  generalize hW : w.alloc (.cells #[.int .i64 a0] 3) = w1 at hb1 hg1
  have HB := Aside0.mk hb1
  cases t with
  | true =>
    rw [if_pos rfl] at h
    obtain ⟨⟨l, b⟩, hl, h⟩ := Option.bind_eq_some_iff.1 h
    obtain ⟨hr1, rfl⟩ := Prod.mk.inj (Option.some.inj h)
    have hr1_ : (if (wrap64 ((l.length : Int) - 1)) < 0 then 0 else (wrap64 ((l.length : Int) - 1))) = r1 := hr1
    clear hr1
    have HW := Aside0.mk hl
    have HG := Aside0.mk hg1
    have hc1 : w1.cell? ⟨w.heap.size, 0, none⟩ = some (.int .i64 a0) := (blk_cell hg1 0).trans rfl
    clear h hl hg1 hb1
    subst hW
    go_enter Try.func29, Try.ntmps29
    go_wp2_with (first
      | (go_at_call 51; refine (impl_in.calls a0 2 1000000000000 true _ HN.out).mono ?_; rintro o w3 ⟨rfl, hd3⟩; have n1_ := Aside0.mk (below_step HB.out hd3.below); have n2_ := Aside0.mk ((hd3.below.block _ (blk_lt HG.out)).trans HG.out); replace hc1 := pw_cell_below hd3.below hc1; clear HB HG hd3; have HB := n1_; have HG := n2_; clear n1_ n2_)
      | (go_at_call 61; refine (impl_FallsBelow.runs (fun x => decide (x < a0)) k a0 l b w.heap.size _ (fun W x hBW => impl_FallsBelow.c1 x a0 w.heap.size W ((blk_cell ((hBW.block _ (blk_lt HG.out)).trans HG.out) 0).trans rfl)) HW.out).mono ?_; rintro o w4 ⟨v4, rfl, ho, hb⟩; have HO := Aside0.mk ho; have HB4 := Aside0.mk (below_step HB.out hb); clear hc1 ho hb; obtain ⟨A4, c4, e4⟩ := Kd.R_slice HO.out; subst e4))
    go_ret2
    exact ⟨rfl, HB4.out⟩
  | false =>
    rw [if_neg (by simp)] at h
    obtain ⟨rfl, rfl⟩ := Prod.mk.inj (Option.some.inj h)
    have hc1 : w1.cell? ⟨w.heap.size, 0, none⟩ = some (.int .i64 a0) := (blk_cell hg1 0).trans rfl
    clear h hg1 hb1
    subst hW
    go_enter Try.func29, Try.ntmps29
    go_wp2_with (first
      | (go_at_call 51; refine (impl_in.calls a0 2 1000000000000 false _ HN.out).mono ?_; rintro o w3 ⟨rfl, hd3⟩; have n1_ := Aside0.mk (below_step HB.out hd3.below); clear HB hd3; have HB := n1_; clear n1_))
    go_ret2
    exact ⟨rfl, HB.out⟩

/-! ### spec_FallsBelow: function 30 -/
def spec_FallsBelow.l0 : Nat → Int → Int → Int → Option (Int × Bool)
  | 0, _, _, _ => none
  | k + 1, x0, x4, x5 => if x4 ≥ x0 then ((spec_stStep.f x4 1).bind fun t365 => ((spec_stNumber.f t365).bind fun t366 => (if t366 = true then (if (wrap64 (x5 + 1)) > 1000 then (some (0, false)) else (spec_FallsBelow.l0 k x0 t365 (wrap64 (x5 + 1)))) else (some (0, false))))) else (some (x5, true))
def spec_FallsBelow.f (k : Nat) (a0 : Int) : Option (Int × Bool) := (spec_l1In.f a0 2 1000000000000).bind fun t364 => (if t364 = true then (spec_FallsBelow.l0 k a0 a0 0) else (some (0, false)))
theorem spec_FallsBelow.mono_l : ∀ k, (∀ y0 y1 y2, LeO (spec_FallsBelow.l0 k y0 y1 y2) (spec_FallsBelow.l0 (k + 1) y0 y1 y2))
  | 0 => fun _ _ _ r h => by simp [spec_FallsBelow.l0] at h
  | k + 1 => by
    have ih0 := spec_FallsBelow.mono_l k
    · intro y0 y1 y2
      unfold spec_FallsBelow.l0
      repeat' first
      | (with_reducible exact ih0 _ _ _)
      | (with_reducible exact LeO.refl _)
      | (with_reducible exact LeO.none _)
      | (with_reducible refine LeO.ite ?_ ?_)
      | (with_reducible refine LeO.bind ?_ (fun _ => ?_))
      | exact ih0 _ _ _
      | exact LeO.none _
      | refine LeO.ite ?_ ?_
      | refine LeO.bind ?_ (fun _ => ?_)
theorem spec_FallsBelow.mono : ∀ a0 k, LeO (spec_FallsBelow.f k a0) (spec_FallsBelow.f (k + 1) a0) := by
  intro a0 k
  have ih0 := spec_FallsBelow.mono_l k
  unfold spec_FallsBelow.f
  repeat' first
      | (with_reducible exact ih0 _ _ _)
      | (with_reducible exact LeO.refl _)
      | (with_reducible exact LeO.none _)
      | (with_reducible refine LeO.ite ?_ ?_)
      | (with_reducible refine LeO.bind ?_ (fun _ => ?_))
      | exact ih0 _ _ _
      | exact LeO.none _
      | refine LeO.ite ?_ ?_
      | refine LeO.bind ?_ (fun _ => ?_)
set_option maxHeartbeats 8000000 in
set_option maxRecDepth 100000 in
theorem spec_FallsBelow.calls (k : Nat) (a0 : Int) (r1 : Int) (r2 : Bool) (w : World) (h : spec_FallsBelow.f k a0 = some (r1, r2)) :
    Calls Try.prog 30 #[.int .i64 a0] w fun e w' => e = .returned (.tuple #[.int .i64 r1, .bool r2]) ∧ Drawn0 w w' := by
  have H : ((spec_l1In.f a0 2 1000000000000).bind fun t364 => (if t364 = true then (spec_FallsBelow.l0 k a0 a0 0) else (some (0, false)))) = some (r1, r2) := h
  clear h
  replace H := Option.bind_eq_some_iff.mp H
  obtain ⟨t364, A20, H⟩ := H
  replace H : (if t364 = true then (spec_FallsBelow.l0 k a0 a0 0) else (some (0, false))) = some (r1, r2) := H
  have A2 := Aside0.mk A20
  clear A20
  by_cases c3 : t364 = true
  · subst c3
    have H1 : (spec_FallsBelow.l0 k a0 a0 0) = some (r1, r2) := by rw [if_pos rfl] at H; exact H
    clear H
    have H := H1
    clear H1
    have H' := Aside0.mk H
    clear H
    go_enter Try.func30, Try.ntmps30
    go_wp2_with (first | ((with_reducible refine gate_callee (f := 53) rfl ?_); refine goesL_ (some 7) rfl rfl Try.func53 (by kernel_rfl) rfl #[.int .i64 a0, .int .i64 2, .int .i64 1000000000000] rfl (by (try simp only [List.map_toArray, List.map_cons, List.map_nil]); first | done | rfl | (simp only [List.length_drop, List.length_take]; rfl)) ?_; (with_reducible refine (spec_l1In.calls a0 2 1000000000000 true _ A2.out).mono ?_); rintro e w' ⟨rfl, ⟨nd, rfl⟩⟩; refine ⟨_, rfl, ?_⟩))
    go_loopg [4, 5] k (fun kq v4 v5 w' => ∃ (x4_1 : Int) (x5_1 : Int), v4 = .int .i64 x4_1 ∧ v5 = .int .i64 x5_1 ∧ Aside0 (spec_FallsBelow.l0 kq a0 x4_1 x5_1 = some (r1, r2)) ∧ Aside0 (kq ≤ k) ∧ Drawn0 w w')
    case atStart => exact ⟨(a0), (0), (by first | rfl | (simp; done) | (simp [*]; done)), (by first | rfl | (simp; done) | (simp [*]; done)), H', ⟨Nat.le_refl _⟩, by repeat (first | exact Drawn0.refl _ | apply Drawn0.step)⟩
    case round =>
      clear H'
      try clear p2
      try clear c3
      obtain ⟨x4_1, x5_1, rfl, rfl, HA, HK1, ⟨m1, rfl⟩⟩ := hrel
      cases gk with
      | zero => exact absurd HA.out (by simp [spec_FallsBelow.l0])
      | succ k1 =>
        have H := HA.out
        clear HA
        simp only [spec_FallsBelow.l0] at H
        by_cases c4 : x4_1 ≥ a0
        · rw [if_pos c4] at H
          have c4b0 : decide (a0 ≤ x4_1) = true := decide_eq_true c4
          clear c4
          replace H := Option.bind_eq_some_iff.mp H
          obtain ⟨t365, A50, H⟩ := H
          replace H : ((spec_stNumber.f t365).bind fun t366 => (if t366 = true then (if (wrap64 (x5_1 + 1)) > 1000 then (some (0, false)) else (spec_FallsBelow.l0 k1 a0 t365 (wrap64 (x5_1 + 1)))) else (some (0, false)))) = some (r1, r2) := H
          have A5 := Aside0.mk A50
          clear A50
          replace H := Option.bind_eq_some_iff.mp H
          obtain ⟨t366, A60, H⟩ := H
          replace H : (if t366 = true then (if (wrap64 (x5_1 + 1)) > 1000 then (some (0, false)) else (spec_FallsBelow.l0 k1 a0 t365 (wrap64 (x5_1 + 1)))) else (some (0, false))) = some (r1, r2) := H
          have A6 := Aside0.mk A60
          clear A60
          by_cases c7 : t366 = true
          · subst c7
            have H1 : (if (wrap64 (x5_1 + 1)) > 1000 then (some (0, false)) else (spec_FallsBelow.l0 k1 a0 t365 (wrap64 (x5_1 + 1)))) = some (r1, r2) := by rw [if_pos rfl] at H; exact H
            clear H
            have H := H1
            clear H1
            by_cases c8 : (wrap64 (x5_1 + 1)) > 1000
            · rw [if_pos c8] at H
              have c8b0 : decide (1000 < (wrap64 (x5_1 + 1))) = true := decide_eq_true c8
              clear c8
              simp only [Option.some.injEq, Prod.mk.injEq] at H
              obtain ⟨rfl, rfl⟩ := H
              go_wp2_with (first | ((with_reducible refine gate_callee (f := 58) rfl ?_); refine goesL_ (some 14) rfl rfl Try.func58 (by kernel_rfl) rfl #[.int .i64 x4_1, .int .i64 1] rfl (by (try simp only [List.map_toArray, List.map_cons, List.map_nil]); first | done | rfl | (simp only [List.length_drop, List.length_take]; rfl)) ?_; (with_reducible refine (spec_stStep.calls x4_1 1 t365 _ A5.out).mono ?_); rintro e w' ⟨rfl, ⟨nd, rfl⟩⟩; refine ⟨_, rfl, ?_⟩) | ((with_reducible refine gate_callee (f := 42) rfl ?_); refine goesL_ (some 18) rfl rfl Try.func42 (by kernel_rfl) rfl #[.int .i64 t365] rfl (by (try simp only [List.map_toArray, List.map_cons, List.map_nil]); first | done | rfl | (simp only [List.length_drop, List.length_take]; rfl)) ?_; (with_reducible refine (spec_stNumber.calls t365 true _ A6.out).mono ?_); rintro e w' ⟨rfl, ⟨nd, rfl⟩⟩; refine ⟨_, rfl, ?_⟩))
              go_ret2
              exact ⟨by first | rfl | (simp; done) | (simp [*]; done), by repeat (first | exact Drawn0.refl _ | apply Drawn0.step)⟩
            · rw [if_neg c8] at H
              have c8b0 : decide (1000 < (wrap64 (x5_1 + 1))) = false := decide_eq_false c8
              clear c8
              have H' := Aside0.mk H
              clear H
              go_wp2_with (first | ((with_reducible refine gate_callee (f := 58) rfl ?_); refine goesL_ (some 14) rfl rfl Try.func58 (by kernel_rfl) rfl #[.int .i64 x4_1, .int .i64 1] rfl (by (try simp only [List.map_toArray, List.map_cons, List.map_nil]); first | done | rfl | (simp only [List.length_drop, List.length_take]; rfl)) ?_; (with_reducible refine (spec_stStep.calls x4_1 1 t365 _ A5.out).mono ?_); rintro e w' ⟨rfl, ⟨nd, rfl⟩⟩; refine ⟨_, rfl, ?_⟩) | ((with_reducible refine gate_callee (f := 42) rfl ?_); refine goesL_ (some 18) rfl rfl Try.func42 (by kernel_rfl) rfl #[.int .i64 t365] rfl (by (try simp only [List.map_toArray, List.map_cons, List.map_nil]); first | done | rfl | (simp only [List.length_drop, List.length_take]; rfl)) ?_; (with_reducible refine (spec_stNumber.calls t365 true _ A6.out).mono ?_); rintro e w' ⟨rfl, ⟨nd, rfl⟩⟩; refine ⟨_, rfl, ?_⟩))
              go_roundg k1
              case measure => have := HK1.out; omega
              case rel => exact ⟨(t365), (wrap64 (x5_1 + 1)), (by first | rfl | (simp; done) | (simp [*]; done)), (by first | rfl | (simp; done) | (simp [*]; done)), H', ⟨by have := HK1.out; omega⟩, by repeat (first | exact Drawn0.refl _ | apply Drawn0.step)⟩
          · replace c7 := Bool.eq_false_iff.mpr c7
            subst c7
            have H1 : (some (0, false)) = some (r1, r2) := by rw [if_neg (show ¬ (false = true) by decide)] at H; exact H
            clear H
            have H := H1
            clear H1
            simp only [Option.some.injEq, Prod.mk.injEq] at H
            obtain ⟨rfl, rfl⟩ := H
            go_wp2_with (first | ((with_reducible refine gate_callee (f := 58) rfl ?_); refine goesL_ (some 14) rfl rfl Try.func58 (by kernel_rfl) rfl #[.int .i64 x4_1, .int .i64 1] rfl (by (try simp only [List.map_toArray, List.map_cons, List.map_nil]); first | done | rfl | (simp only [List.length_drop, List.length_take]; rfl)) ?_; (with_reducible refine (spec_stStep.calls x4_1 1 t365 _ A5.out).mono ?_); rintro e w' ⟨rfl, ⟨nd, rfl⟩⟩; refine ⟨_, rfl, ?_⟩) | ((with_reducible refine gate_callee (f := 42) rfl ?_); refine goesL_ (some 18) rfl rfl Try.func42 (by kernel_rfl) rfl #[.int .i64 t365] rfl (by (try simp only [List.map_toArray, List.map_cons, List.map_nil]); first | done | rfl | (simp only [List.length_drop, List.length_take]; rfl)) ?_; (with_reducible refine (spec_stNumber.calls t365 false _ A6.out).mono ?_); rintro e w' ⟨rfl, ⟨nd, rfl⟩⟩; refine ⟨_, rfl, ?_⟩))
            go_ret2
            exact ⟨by first | rfl | (simp; done) | (simp [*]; done), by repeat (first | exact Drawn0.refl _ | apply Drawn0.step)⟩
        · rw [if_neg c4] at H
          have c4b0 : decide (a0 ≤ x4_1) = false := decide_eq_false c4
          clear c4
          simp only [Option.some.injEq, Prod.mk.injEq] at H
          obtain ⟨rfl, rfl⟩ := H
          go_wp2
          go_ret2
          exact ⟨by first | rfl | (simp; done) | (simp [*]; done), by repeat (first | exact Drawn0.refl _ | apply Drawn0.step)⟩
  · replace c3 := Bool.eq_false_iff.mpr c3
    subst c3
    have H1 : (some (0, false)) = some (r1, r2) := by rw [if_neg (show ¬ (false = true) by decide)] at H; exact H
    clear H
    have H := H1
    clear H1
    simp only [Option.some.injEq, Prod.mk.injEq] at H
    obtain ⟨rfl, rfl⟩ := H
    go_enter Try.func30, Try.ntmps30
    go_wp2_with (first | ((with_reducible refine gate_callee (f := 53) rfl ?_); refine goesL_ (some 7) rfl rfl Try.func53 (by kernel_rfl) rfl #[.int .i64 a0, .int .i64 2, .int .i64 1000000000000] rfl (by (try simp only [List.map_toArray, List.map_cons, List.map_nil]); first | done | rfl | (simp only [List.length_drop, List.length_take]; rfl)) ?_; (with_reducible refine (spec_l1In.calls a0 2 1000000000000 false _ A2.out).mono ?_); rintro e w' ⟨rfl, ⟨nd, rfl⟩⟩; refine ⟨_, rfl, ?_⟩))
    go_ret2
    exact ⟨by first | rfl | (simp; done) | (simp [*]; done), by repeat (first | exact Drawn0.refl _ | apply Drawn0.step)⟩

end Go.Proofs.Ytclnhbppcmcalaa.PFnStepsToOne
