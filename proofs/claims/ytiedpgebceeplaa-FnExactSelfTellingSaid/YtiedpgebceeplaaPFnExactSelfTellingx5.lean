-- the law's own walk, typed by hand
import Derived.Test.YtiedpgebceeplaaPFnExactSelfTellingx0
import Derived.Test.YtiedpgebceeplaaPFnExactSelfTellingx1
import Derived.Test.YtiedpgebceeplaaPFnExactSelfTellingx3
import Derived.Test.YtiedpgebceeplaaPFnExactSelfTellingx4
namespace Go.Proofs.Ytiedpgebceeplaa.PFnExactSelfTelling
open Go.RowKit Go.Proofs.YtiedpgebceeplaaW.PrintWords Go.Proofs.YtiedpgebceeplaaW.PrintLast Go.Proofs.YtiedpgebceeplaaW.PrintMore
attribute [local go_sem] max2_int min2_int max_two min_two max_three min_three max_four min_four   -- for this text's walks alone
set_option linter.unusedVariables false
set_option linter.unusedSimpArgs false

/-! ### laws_FnExactSelfTelling: function 3 -/
def laws_FnExactSelfTelling.Pure : Prop := ∀ (a0 : Int), (Lit.int .i64 a0).wf = true → ∃ (k : Nat) (R : List (List Int)) (b : Bool) (m : Int) (R' : List (List Int)), spec_SelfTelling.f k a0 = some (R, b) ∧ impl_SelfTelling.f k a0 = some (R, b) ∧ laws_eqIntSS.f k R R = some true ∧ laws_markIntSS.f k R 1 = some (m, R') ∧ laws_heldIntSS.f k R' 1 = some m ∧ 0 ≤ m
theorem laws_heldIntSS.at_ (k : Nat) (A0 : Option Addr) (c0 : Nat) (l0 : List (List Int)) (a1 : Int) (r : Int) (n : Nat) (hn : n = l0.length) (w : World) (hr0 : Kd.C (Kd.slice 3 (Kd.int .i64)) w A0 l0.length l0) (hc0 : n ≤ c0) (h : laws_heldIntSS.f k l0 a1 = some r) :
    Calls Try.prog 9 #[.slice A0 n c0, .int .i64 a1] w fun e w' => e = .returned (.int .i64 r) ∧ Drawn0 w w' := by
  subst hn
  exact laws_heldIntSS.calls k A0 c0 l0 a1 r w hr0 hc0 h
set_option maxHeartbeats 8000000 in
set_option maxRecDepth 100000 in
theorem laws_FnExactSelfTelling.walk (P : laws_FnExactSelfTelling.Pure) (a0 : Int) (w : World) (w0 : (Lit.int .i64 a0).wf = true) :
    Calls Try.prog 3 #[.int .i64 a0] w fun e w' => e = .returned (.bool true) ∧ Below w.heap.size w w' := by
  obtain ⟨k, R, b, m, R', h1, h2, h3, h4, h5, h6⟩ := P a0 w0
  have A1 := Aside0.mk h1
  have A2 := Aside0.mk h2
  have A3 := Aside0.mk h3
  have A4 := Aside0.mk h4
  have A5 := Aside0.mk h5
  have d1 : decide (m < 0) = false := decide_eq_false (by omega)
  have d2 : (m != m) = false := by simp
  have d3 : (b != b) = false := by simp
  clear h1 h2 h3 h4 h5 h6 P w0
  have HB := Aside0.mk (Below.refl w.heap.size w)
  have ONE := True.intro
  have TWO := True.intro
  go_enter Try.func3, Try.ntmps3
  go_wp2_with (first
    | (go_at_call 5; (with_reducible refine (spec_SelfTelling.calls k a0 R b _ A1.out).mono ?_); rintro e w2 ⟨vw, rfl, ho, hb⟩; have n0_ := Aside0.mk (Kd.N_lower ho (below_size (by repeat (first | (with_reducible first | exact HB.out | apply below_alloc | apply pw_below_drewN | apply below_drew1) | exact HB.out)))); have n1_ := Aside0.mk (below_step (by repeat (first | (with_reducible first | exact HB.out | apply below_alloc | apply pw_below_drewN | apply below_drew1) | exact HB.out)) hb); clear HB ho hb; have HB := n1_; have HW := n0_; clear n0_ n1_; obtain ⟨Aw, cw, ew⟩ := Kd.N_slice HW.out; subst ew)
    | (go_at_call 6; clear ONE; (with_reducible refine (impl_SelfTelling.calls k a0 R b _ A2.out).mono ?_); rintro e w3 ⟨vg, rfl, ho, hb⟩; have HG := Aside0.mk ho; have HBG := Aside0.mk hb; have HW3 := Aside0.mk (Kd.N_below (by (with_reducible repeat (first | apply Kd.N_alloc | apply Kd.N_drewN | apply Kd.N_drew)); exact HW.out) hb); clear ho hb; obtain ⟨Ag, cg, eg⟩ := Kd.S_slice HG.out; subst eg)
    | (go_at_call 7; clear TWO; (with_reducible refine (laws_eqIntSS.calls k _ _ R _ _ R true _ ?p1 ?p2 ?p3 ?p4 A3.out).mono ?_); (case p1 => repeat (first | exact (Kd.S_reads' HG.out).2.2 | (with_reducible refine Kd.C_alloc ?_ _) | (with_reducible refine Kd.C_drewN ?_ _) | (with_reducible refine Kd.C_drew ?_))); (case p2 => exact (Kd.S_reads' HG.out).2.1); (case p3 => repeat (first | exact (Kd.N_reads' HW3.out).2.2 | (with_reducible refine Kd.C_alloc ?_ _) | (with_reducible refine Kd.C_drewN ?_ _) | (with_reducible refine Kd.C_drew ?_))); (case p4 => exact (Kd.N_reads' HW3.out).2.1); rintro e w' ⟨rfl, ⟨nd, rfl⟩⟩)
    | (go_at_call 8; refine (laws_markIntSS.calls k _ R 1 m R' ?w0_ _ ?mB ?mS A4.out).mono ?_; (case mB => exact (by repeat (first | (with_reducible first | exact HBG.out | apply below_alloc | apply pw_below_drewN | apply below_drew1) | exact HBG.out))); (case mS => (with_reducible repeat (first | apply Kd.S_alloc | apply Kd.S_drewN | apply Kd.S_drew)); exact HG.out); rintro e w5 ⟨rfl, hS, hb5⟩; have n0_ := Aside0.mk hS; have n1_ := Aside0.mk (Kd.N_below (by (with_reducible repeat (first | apply Kd.N_alloc | apply Kd.N_drewN | apply Kd.N_drew)); exact HW.out) hb5); have n2_ := Aside0.mk (below_step (by repeat (first | (with_reducible first | exact HB.out | apply below_alloc | apply pw_below_drewN | apply below_drew1) | exact HB.out)) hb5); clear HG HW HB HBG HW3 hS hb5; have HG := n0_; have HW := n1_; have HB := n2_; clear n0_ n1_ n2_; have HRl := Aside0.mk (show R.length = R'.length from (Kd.S_reads' HG.out).1))
    | (go_at_call 9; (with_reducible refine (laws_heldIntSS.at_ k _ _ R' 1 m _ HRl.out _ ?q1 ?q2 A5.out).mono ?_); (case q1 => repeat (first | exact (Kd.S_reads' HG.out).2.2 | (with_reducible refine Kd.C_alloc ?_ _) | (with_reducible refine Kd.C_drewN ?_ _) | (with_reducible refine Kd.C_drew ?_))); (case q2 => exact (Kd.S_reads' HG.out).2.1); rintro e w' ⟨rfl, ⟨nd, rfl⟩⟩)
    | (go_at_call 6; (with_reducible refine (impl_SelfTelling.calls k a0 R b _ A2.out).mono ?_); rintro e w6 ⟨vh, rfl, ho, hb⟩; have HH := Aside0.mk ho; have n0_ := Aside0.mk (Kd.S_below (by (with_reducible repeat (first | apply Kd.S_alloc | apply Kd.S_drewN | apply Kd.S_drew)); exact HG.out) hb); have n1_ := Aside0.mk (Kd.N_below (by (with_reducible repeat (first | apply Kd.N_alloc | apply Kd.N_drewN | apply Kd.N_drew)); exact HW.out) hb); have n2_ := Aside0.mk (below_step (by repeat (first | (with_reducible first | exact HB.out | apply below_alloc | apply pw_below_drewN | apply below_drew1) | exact HB.out)) hb); clear HG HW HB ho hb; have HG := n0_; have HW := n1_; have HB := n2_; clear n0_ n1_ n2_; obtain ⟨Ah, ch, eh⟩ := Kd.S_slice HH.out; subst eh)
    | (go_at_call 7; (with_reducible refine (laws_eqIntSS.calls k _ _ R _ _ R true _ ?r1 ?r2 ?r3 ?r4 A3.out).mono ?_); (case r1 => repeat (first | exact (Kd.S_reads' HH.out).2.2 | (with_reducible refine Kd.C_alloc ?_ _) | (with_reducible refine Kd.C_drewN ?_ _) | (with_reducible refine Kd.C_drew ?_))); (case r2 => exact (Kd.S_reads' HH.out).2.1); (case r3 => repeat (first | exact (Kd.N_reads' HW.out).2.2 | (with_reducible refine Kd.C_alloc ?_ _) | (with_reducible refine Kd.C_drewN ?_ _) | (with_reducible refine Kd.C_drew ?_))); (case r4 => exact (Kd.N_reads' HW.out).2.1); rintro e w' ⟨rfl, ⟨nd, rfl⟩⟩))
  go_ret
  exact ⟨rfl, by repeat (first | (with_reducible first | exact HB.out | apply below_alloc | apply pw_below_drewN | apply below_drew1) | exact HB.out)⟩

end Go.Proofs.Ytiedpgebceeplaa.PFnExactSelfTelling
