-- the law's own walk, typed by hand
import Derived.Test.YtnmoafgfnlpfjaaPFnExactSayRunx0
import Derived.Test.YtnmoafgfnlpfjaaPFnExactSayRunx1
import Derived.Test.YtnmoafgfnlpfjaaPFnExactSayRunx2
import Derived.Test.YtnmoafgfnlpfjaaPFnExactSayRunx3
import Derived.Test.YtnmoafgfnlpfjaaPFnExactSayRunx4
namespace Go.Proofs.Ytnmoafgfnlpfjaa.PFnExactSayRun
open Go.RowKit Go.Proofs.YtnmoafgfnlpfjaaW.PrintWords Go.Proofs.YtnmoafgfnlpfjaaW.PrintLast Go.Proofs.YtnmoafgfnlpfjaaW.PrintMore
attribute [local go_sem] max2_int min2_int max_two min_two max_three min_three max_four min_four   -- for this text's walks alone
set_option linter.unusedVariables false
set_option linter.unusedSimpArgs false

/-! ### laws_FnExactSayRun: function 6 -/
set_option maxHeartbeats 8000000 in
set_option maxRecDepth 100000 in
theorem impl_SayRun.callsS (k : Nat) (A0 : Option Addr) (c0 : Nat) (l0 : List Int) (a1 : Int) (r1 : List (List Int)) (r2 : Bool) (w : World) (hr0 : Kd.C (Kd.int .i64) w A0 l0.length l0) (hc0 : l0.length ≤ c0) (h : impl_SayRun.f k l0 a1 = some (r1, r2)) :
    Calls Try.prog 21 #[.slice A0 l0.length c0, .int .i64 a1] w fun e w' => ∃ v0_ : Value, e = .returned (.tuple #[v0_, .bool r2]) ∧ Kd.S (Kd.slice 3 (Kd.int .i64)) 22 w' w.heap.size (fun _ => True) v0_ r1 ∧ Below w.heap.size w w' := by
  have HR0 := Aside0.mk hr0
  have HC0 := Aside0.mk hc0
  clear hr0 hc0
  have HB := Aside0.mk (Below.refl w.heap.size w)
  have no : ∀ b : Bool, b = true → impl_SayRun.j0 k l0 a1 b = some (r1, r2) → r1 = [] ∧ r2 = false := by
    intro b hb hj
    subst hb
    cases k with
    | zero => exact absurd hj (by simp [impl_SayRun.j0])
    | succ k =>
      simp only [impl_SayRun.j0, if_true] at hj
      obtain ⟨rfl, rfl⟩ := Prod.mk.inj (Option.some.inj hj)
      exact ⟨rfl, rfl⟩
  unfold impl_SayRun.f at h
  obtain ⟨t, g1, h⟩ := Option.bind_eq_some_iff.1 h
  have A1 := Aside0.mk g1
  clear g1
  cases t with
  | false =>
    rw [if_neg (by simp)] at h
    obtain ⟨rfl, rfl⟩ := no _ rfl h
    clear no h
    go_enter Try.func21, Try.ntmps21
    go_wp2_with (first
      | (go_at_call 30; (with_reducible refine (impl_isSaid.calls _ _ l0 false _ ?a1_ ?a2_ A1.out).mono ?_); (case a1_ => (repeat (first | exact (Kd.C_below HR0.out (by repeat (first | (with_reducible first | exact HB.out | apply below_alloc | apply pw_below_drewN | apply below_drew1) | exact HB.out))) | (with_reducible refine Kd.C_alloc ?_ _) | (with_reducible refine Kd.C_drewN ?_ _) | (with_reducible refine Kd.C_drew ?_)))); (case a2_ => exact HC0.out); rintro e w2 ⟨rfl, hb⟩; have n0_ := Aside0.mk (below_step (by repeat (first | (with_reducible first | exact HB.out | apply below_alloc | apply pw_below_drewN | apply below_drew1) | exact HB.out)) hb); clear HB hb; have HB := n0_; clear n0_))
    go_ret2
    exact ⟨_, rfl, Kd.S_nil _ _ _ _ _, (by repeat (first | (with_reducible first | exact HB.out | apply below_alloc | apply pw_below_drewN | apply below_drew1) | exact HB.out))⟩
  | true =>
    rw [if_pos rfl] at h
    obtain ⟨t, g1, h⟩ := Option.bind_eq_some_iff.1 h
    have A2 := Aside0.mk g1
    clear g1
    cases t with
    | false =>
      rw [if_neg (by simp)] at h
      obtain ⟨rfl, rfl⟩ := no _ rfl h
      clear no h
      go_enter Try.func21, Try.ntmps21
      go_wp2_with (first
        | (go_at_call 30; (with_reducible refine (impl_isSaid.calls _ _ l0 true _ ?a1_ ?a2_ A1.out).mono ?_); (case a1_ => (repeat (first | exact (Kd.C_below HR0.out (by repeat (first | (with_reducible first | exact HB.out | apply below_alloc | apply pw_below_drewN | apply below_drew1) | exact HB.out))) | (with_reducible refine Kd.C_alloc ?_ _) | (with_reducible refine Kd.C_drewN ?_ _) | (with_reducible refine Kd.C_drew ?_)))); (case a2_ => exact HC0.out); rintro e w2 ⟨rfl, hb⟩; have n0_ := Aside0.mk (below_step (by repeat (first | (with_reducible first | exact HB.out | apply below_alloc | apply pw_below_drewN | apply below_drew1) | exact HB.out)) hb); clear HB hb; have HB := n0_; clear n0_)
        | (go_at_call 24; (with_reducible refine (impl_in.calls a1 0 30 false _ A2.out).mono ?_); rintro e w' ⟨rfl, ⟨nd, rfl⟩⟩))
      go_ret2
      exact ⟨_, rfl, Kd.S_nil _ _ _ _ _, (by repeat (first | (with_reducible first | exact HB.out | apply below_alloc | apply pw_below_drewN | apply below_drew1) | exact HB.out))⟩
    | true =>
      rw [if_pos rfl] at h
      obtain ⟨t, g1, h⟩ := Option.bind_eq_some_iff.1 h
      have A3 := Aside0.mk g1
      clear g1
      cases t with
      | false =>
        obtain ⟨rfl, rfl⟩ := no _ rfl h
        clear no h
        go_enter Try.func21, Try.ntmps21
        go_wp2_with (first
          | (go_at_call 30; (with_reducible refine (impl_isSaid.calls _ _ l0 true _ ?a1_ ?a2_ A1.out).mono ?_); (case a1_ => (repeat (first | exact (Kd.C_below HR0.out (by repeat (first | (with_reducible first | exact HB.out | apply below_alloc | apply pw_below_drewN | apply below_drew1) | exact HB.out))) | (with_reducible refine Kd.C_alloc ?_ _) | (with_reducible refine Kd.C_drewN ?_ _) | (with_reducible refine Kd.C_drew ?_)))); (case a2_ => exact HC0.out); rintro e w2 ⟨rfl, hb⟩; have n0_ := Aside0.mk (below_step (by repeat (first | (with_reducible first | exact HB.out | apply below_alloc | apply pw_below_drewN | apply below_drew1) | exact HB.out)) hb); clear HB hb; have HB := n0_; clear n0_)
          | (go_at_call 24; (with_reducible refine (impl_in.calls a1 0 30 true _ A2.out).mono ?_); rintro e w' ⟨rfl, ⟨nd, rfl⟩⟩)
          | (go_at_call 31; (with_reducible refine (impl_fits.calls k _ _ l0 false _ ?b1_ ?b2_ A3.out).mono ?_); (case b1_ => (repeat (first | exact (Kd.C_below HR0.out (by repeat (first | (with_reducible first | exact HB.out | apply below_alloc | apply pw_below_drewN | apply below_drew1) | exact HB.out))) | (with_reducible refine Kd.C_alloc ?_ _) | (with_reducible refine Kd.C_drewN ?_ _) | (with_reducible refine Kd.C_drew ?_)))); (case b2_ => exact HC0.out); rintro e w' ⟨rfl, ⟨nd, rfl⟩⟩))
        go_ret2
        exact ⟨_, rfl, Kd.S_nil _ _ _ _ _, (by repeat (first | (with_reducible first | exact HB.out | apply below_alloc | apply pw_below_drewN | apply below_drew1) | exact HB.out))⟩
      | true =>
        clear no
        obtain ⟨kj, ekj⟩ : ∃ kj, kj = k := ⟨_, rfl⟩
        rw [← ekj] at h
        cases kj with
        | zero => exact absurd h (by simp [impl_SayRun.j0])
        | succ kj =>
          simp only [impl_SayRun.j0, Bool.not_true] at h
          rw [if_neg (by simp)] at h
          obtain ⟨t1, g1, h⟩ := Option.bind_eq_some_iff.1 h
          have A4 := Aside0.mk g1
          have H := Aside0.mk h
          clear g1 h ekj
          go_enter Try.func21, Try.ntmps21
          go_wp2_with (first
            | (go_at_call 30; (with_reducible refine (impl_isSaid.calls _ _ l0 true _ ?a1_ ?a2_ A1.out).mono ?_); (case a1_ => (repeat (first | exact (Kd.C_below HR0.out (by repeat (first | (with_reducible first | exact HB.out | apply below_alloc | apply pw_below_drewN | apply below_drew1) | exact HB.out))) | (with_reducible refine Kd.C_alloc ?_ _) | (with_reducible refine Kd.C_drewN ?_ _) | (with_reducible refine Kd.C_drew ?_)))); (case a2_ => exact HC0.out); rintro e w2 ⟨rfl, hb⟩; have n0_ := Aside0.mk (below_step (by repeat (first | (with_reducible first | exact HB.out | apply below_alloc | apply pw_below_drewN | apply below_drew1) | exact HB.out)) hb); clear HB hb; have HB := n0_; clear n0_)
            | (go_at_call 24; (with_reducible refine (impl_in.calls a1 0 30 true _ A2.out).mono ?_); rintro e w' ⟨rfl, ⟨nd, rfl⟩⟩)
            | (go_at_call 31; (with_reducible refine (impl_fits.calls k _ _ l0 true _ ?b1_ ?b2_ A3.out).mono ?_); (case b1_ => (repeat (first | exact (Kd.C_below HR0.out (by repeat (first | (with_reducible first | exact HB.out | apply below_alloc | apply pw_below_drewN | apply below_drew1) | exact HB.out))) | (with_reducible refine Kd.C_alloc ?_ _) | (with_reducible refine Kd.C_drewN ?_ _) | (with_reducible refine Kd.C_drew ?_)))); (case b2_ => exact HC0.out); rintro e w' ⟨rfl, ⟨nd, rfl⟩⟩)
            | (go_at_call 32; (with_reducible refine (slices_Clone_int_int.calls _ _ l0 t1 _ ?c1_ ?c2_ A4.out).mono ?_); (case c1_ => (repeat (first | exact (Kd.C_below HR0.out (by repeat (first | (with_reducible first | exact HB.out | apply below_alloc | apply pw_below_drewN | apply below_drew1) | exact HB.out))) | (with_reducible refine Kd.C_alloc ?_ _) | (with_reducible refine Kd.C_drewN ?_ _) | (with_reducible refine Kd.C_drew ?_)))); (case c2_ => exact HC0.out); rintro e w4 ⟨v4, rfl, ho, hb⟩; have n0_ := Aside0.mk (Kd.R_lower ho (below_size (by repeat (first | (with_reducible first | exact HB.out | apply below_alloc | apply pw_below_drewN | apply below_drew1) | exact HB.out)))); have n1_ := Aside0.mk (below_step (by repeat (first | (with_reducible first | exact HB.out | apply below_alloc | apply pw_below_drewN | apply below_drew1) | exact HB.out)) hb); clear HB ho hb; have HO := n0_; have HB := n1_; clear n0_ n1_; obtain ⟨Ac, cc, ec⟩ := Kd.R_slice HO.out; subst ec)
            | ((with_reducible refine gate_dst (N := 25) rfl ?_); refine Kd.S_lits (Kd.slice 3 (Kd.int .i64)) (w0 := w) w.heap.size 22 ?hg (N := 25) ?hd (xs := [t1]) (inner := [.slice Ac t1.length cc]) (ok := fun _ => True) (fun j k_ => j = 0 ∧ some k_ = (Value.slice Ac t1.length cc).ownBlock) ?hr rfl ?hp (fun _ _ _ h1_ h2_ => h1_.1.trans h2_.1.symm) (fun _ _ _ => trivial) trivial (by repeat (first | (with_reducible first | exact HB.out | apply below_alloc | apply pw_below_drewN | apply below_drew1) | exact HB.out)) (below_size (by repeat (first | (with_reducible first | exact HB.out | apply below_alloc | apply pw_below_drewN | apply below_drew1) | exact HB.out))) (by simp) ?_; (case hd => rfl); (case hg => rfl); (case hr => first | (go_simp; done) | (go_simp; rfl)); (case hp => intro j x hx; cases j with | zero => (obtain rfl : t1 = x := by simpa using hx); exact Kd.M_row (Kd.R_mono (Kd.R_tight rfl (by (with_reducible repeat (first | apply Kd.R_alloc | apply Kd.R_drewN | apply Kd.R_drew)); exact HO.out)) (fun _ h_ => ⟨rfl, h_⟩)) | succ j => exact absurd hx (by simp)); intro v6 w6 ho hb hg_ hnew_; clear hg_ hnew_; have n0_ := Aside0.mk ho; have n1_ := Aside0.mk hb; clear HB ho hb HO; have HS := n0_; have HB := n1_; clear n0_ n1_))
          go_loopg [6, 27] kj (fun kq v6 v27 w' => ∃ (X : List (List Int)) (i : Int), v27 = .int .i64 i ∧ Aside0 (impl_SayRun.l0 kq X a1 i = some (r1, r2)) ∧ Aside0 (kq ≤ kj) ∧ Aside0 (Kd.S (Kd.slice 3 (Kd.int .i64)) 22 w' w.heap.size (fun _ => True) v6 X) ∧ Aside0 (Below w.heap.size w w'))
          case atStart => exact ⟨[t1], 0, rfl, H, ⟨Nat.le_refl _⟩, HS, HB⟩
          case round =>
            clear H HS HB A1 A2 A3 A4
            obtain ⟨X, i, rfl, HA, HK1, HS, HB⟩ := hrel
            cases gk with
            | zero => exact absurd HA.out (by simp [impl_SayRun.l0])
            | succ k2 =>
              have H1 := HA.out
              clear HA
              simp only [impl_SayRun.l0] at H1
              by_cases q1 : i < a1
              case neg =>
                rw [if_neg q1] at H1
                have q1d : decide (i < a1) = false := decide_eq_false q1
                clear q1
                obtain ⟨rfl, rfl⟩ := Prod.mk.inj (Option.some.inj H1)
                go_wp2
                go_ret2
                exact ⟨_, rfl, HS.out, HB.out⟩
              case pos =>
                rw [if_pos q1] at H1
                have q1d : decide (i < a1) = true := decide_eq_true q1
                clear q1
                by_cases q2 : 0 ≤ i
                case neg => rw [if_neg q2] at H1; exact absurd H1 (by simp)
                rw [if_pos q2] at H1
                by_cases q3 : i < (X.length : Int)
                case neg => rw [if_neg q3] at H1; exact absurd H1 (by simp)
                rw [if_pos q3] at H1
                obtain ⟨⟨t2, ok⟩, g1, H2⟩ := Option.bind_eq_some_iff.1 H1
                have B1 := Aside0.mk g1
                clear g1 H1
                obtain ⟨A6, c6, e6⟩ := Kd.S_slice HS.out
                subst e6
                obtain ⟨ad, Ar, cr, ead, hcell, hrl, hrow⟩ := at_L1 (Kd.S_reads' HS.out).2.2 i q2 q3
                subst ead
                have q2d : decide (0 ≤ i) = true := decide_eq_true q2
                have q3d : decide (i < (X.length : Int)) = true := decide_eq_true q3
                have q2t := eq_true q2
                have q3t := eq_true q3
                clear q2 q3
                cases ok with
                | false =>
                  rw [if_neg (by simp)] at H2
                  obtain ⟨rfl, rfl⟩ := Prod.mk.inj (Option.some.inj H2)
                  clear H2
                  go_wp2_with (first
                    | (go_at_call 33; (with_reducible refine (impl_said.calls k2 _ _ (rd_L1 X i) t2 false _ ?d1_ ?d2_ B1.out).mono ?_); (case d1_ => (repeat (first | exact hrow | (with_reducible refine Kd.C_alloc ?_ _) | (with_reducible refine Kd.C_drewN ?_ _) | (with_reducible refine Kd.C_drew ?_)))); (case d2_ => exact hrl); rintro e w8 ⟨v8, rfl, ho, hb⟩; have n0_ := Aside0.mk (Kd.S_elder' (by (with_reducible repeat (first | apply Kd.S_alloc | apply Kd.S_drewN | apply Kd.S_drew)); exact HS.out) (Kd.R_base ho) hb); have n1_ := Aside0.mk (Kd.R_lower ho (below_size (by repeat (first | (with_reducible first | exact HB.out | apply below_alloc | apply pw_below_drewN | apply below_drew1) | exact HB.out)))); have n2_ := Aside0.mk (below_step (by repeat (first | (with_reducible first | exact HB.out | apply below_alloc | apply pw_below_drewN | apply below_drew1) | exact HB.out)) hb); clear HB HS ho hb; have HS := n0_; have HO := n1_; have HB := n2_; clear n0_ n1_ n2_; obtain ⟨A8, c8, e8⟩ := Kd.R_slice HO.out; subst e8))
                  go_ret2
                  exact ⟨_, rfl, Kd.S_nil _ _ _ _ _, (by repeat (first | (with_reducible first | exact HB.out | apply below_alloc | apply pw_below_drewN | apply below_drew1) | exact HB.out))⟩
                | true =>
                  rw [if_pos rfl] at H2
                  obtain ⟨t3, g2, H3⟩ := Option.bind_eq_some_iff.1 H2
                  have B2 := Aside0.mk g2
                  clear g2 H2
                  cases t3 with
                  | false =>
                    rw [if_neg (by simp)] at H3
                    obtain ⟨rfl, rfl⟩ := Prod.mk.inj (Option.some.inj H3)
                    clear H3
                    go_wp2_with (first
                      | (go_at_call 33; (with_reducible refine (impl_said.calls k2 _ _ (rd_L1 X i) t2 true _ ?d1_ ?d2_ B1.out).mono ?_); (case d1_ => (repeat (first | exact hrow | (with_reducible refine Kd.C_alloc ?_ _) | (with_reducible refine Kd.C_drewN ?_ _) | (with_reducible refine Kd.C_drew ?_)))); (case d2_ => exact hrl); rintro e w8 ⟨v8, rfl, ho, hb⟩; have n0_ := Aside0.mk (Kd.S_elder' (by (with_reducible repeat (first | apply Kd.S_alloc | apply Kd.S_drewN | apply Kd.S_drew)); exact HS.out) (Kd.R_base ho) hb); have n1_ := Aside0.mk (Kd.R_lower ho (below_size (by repeat (first | (with_reducible first | exact HB.out | apply below_alloc | apply pw_below_drewN | apply below_drew1) | exact HB.out)))); have n2_ := Aside0.mk (below_step (by repeat (first | (with_reducible first | exact HB.out | apply below_alloc | apply pw_below_drewN | apply below_drew1) | exact HB.out)) hb); clear HB HS ho hb; have HS := n0_; have HO := n1_; have HB := n2_; clear n0_ n1_ n2_; obtain ⟨A8, c8, e8⟩ := Kd.R_slice HO.out; subst e8)
                      | (go_at_call 31; (with_reducible refine (impl_fits.calls k2 _ _ t2 false _ ?e1_ ?e2_ B2.out).mono ?_); (case e1_ => (repeat (first | exact (Kd.R_reads' HO.out).2.2 | (with_reducible refine Kd.C_alloc ?_ _) | (with_reducible refine Kd.C_drewN ?_ _) | (with_reducible refine Kd.C_drew ?_)))); (case e2_ => exact (Kd.R_reads' HO.out).2.1); rintro e w' ⟨rfl, ⟨nd, rfl⟩⟩))
                    go_ret2
                    exact ⟨_, rfl, Kd.S_nil _ _ _ _ _, (by repeat (first | (with_reducible first | exact HB.out | apply below_alloc | apply pw_below_drewN | apply below_drew1) | exact HB.out))⟩
                  | true =>
                    rw [if_pos rfl] at H3
                    by_cases q4 : X.length < 5864062014805
                    case neg => rw [if_neg q4] at H3; exact absurd H3 (by simp)
                    rw [if_pos q4] at H3
                    have HL := Aside0.mk q4
                    have H4 := Aside0.mk H3
                    clear q4 H3
                    go_wp2_with (first
                      | (go_at_call 33; (with_reducible refine (impl_said.calls k2 _ _ (rd_L1 X i) t2 true _ ?d1_ ?d2_ B1.out).mono ?_); (case d1_ => (repeat (first | exact hrow | (with_reducible refine Kd.C_alloc ?_ _) | (with_reducible refine Kd.C_drewN ?_ _) | (with_reducible refine Kd.C_drew ?_)))); (case d2_ => exact hrl); rintro e w8 ⟨v8, rfl, ho, hb⟩; have n0_ := Aside0.mk (Kd.S_elder' (by (with_reducible repeat (first | apply Kd.S_alloc | apply Kd.S_drewN | apply Kd.S_drew)); exact HS.out) (Kd.R_base ho) hb); have n1_ := Aside0.mk (Kd.R_lower ho (below_size (by repeat (first | (with_reducible first | exact HB.out | apply below_alloc | apply pw_below_drewN | apply below_drew1) | exact HB.out)))); have n2_ := Aside0.mk (below_step (by repeat (first | (with_reducible first | exact HB.out | apply below_alloc | apply pw_below_drewN | apply below_drew1) | exact HB.out)) hb); clear HB HS ho hb; have HS := n0_; have HO := n1_; have HB := n2_; clear n0_ n1_ n2_; obtain ⟨A8, c8, e8⟩ := Kd.R_slice HO.out; subst e8)
                      | (go_at_call 31; (with_reducible refine (impl_fits.calls k2 _ _ t2 true _ ?e1_ ?e2_ B2.out).mono ?_); (case e1_ => (repeat (first | exact (Kd.R_reads' HO.out).2.2 | (with_reducible refine Kd.C_alloc ?_ _) | (with_reducible refine Kd.C_drewN ?_ _) | (with_reducible refine Kd.C_drew ?_)))); (case e2_ => exact (Kd.R_reads' HO.out).2.1); rintro e w' ⟨rfl, ⟨nd, rfl⟩⟩)
                      | ((with_reducible refine gate_builtin (b := .append) (xs := #[.tmp 45, .tmp 47]) rfl ?_); at_builtin; refine Kd.S_append (Kd.slice 3 (Kd.int .i64)) (w0 := w) w.heap.size rfl (.tmp 45) (.tmp 47) 28 22 (.slice none 0 0) 24 rfl Try.underlying28 info22 rfl (by decide) (by omega) (.slice (some ad) X.length c6) X t2 [.slice A8 t2.length c8] (fun _ => True) (fun k_ => some k_ = (.slice A8 t2.length c8 : Value).ownBlock) rfl rfl ?aP (fun k_ hk_ => ⟨trivial, ((Kd.R_apart' HO.out (Kd.S_typed HS.out) (by decide)).1 k_ hk_.symm).2⟩) ?aF ?aO ?aB ?aS ?aL ?_; (case aP => exact Kd.M_row (Kd.R_tight rfl (by (with_reducible repeat (first | apply Kd.R_alloc | apply Kd.R_drewN | apply Kd.R_drew)); exact HO.out))); (case aB => exact (by repeat (first | (with_reducible first | exact HB.out | apply below_alloc | apply pw_below_drewN | apply below_drew1) | exact HB.out))); (case aF => exact (fun _ _ => trivial)); (case aO => exact (by (with_reducible repeat (first | apply Kd.S_alloc | apply Kd.S_drewN | apply Kd.S_drew)); exact Kd.S_mono HS.out (fun k_ hk => ⟨trivial, fun e_ => hk.2 e_⟩))); (case aS => exact (below_size (by repeat (first | (with_reducible first | exact HB.out | apply below_alloc | apply pw_below_drewN | apply below_drew1) | exact HB.out)))); (case aL => have := HL.out; omega); intro v9 w9 ho hb hg hat; have n0_ := Aside0.mk hb; have n1_ := Aside0.mk ho; clear HB HS HO ho hb hg hat; have HB := n0_; have HS := n1_; clear n0_ n1_))
                    go_roundg k2
                    case measure => have := HK1.out; omega
                    case rel => exact ⟨_, _, rfl, H4, ⟨by have := HK1.out; omega⟩, HS, HB⟩
theorem laws_heldIntSS.at_ (k : Nat) (A0 : Option Addr) (c0 : Nat) (l0 : List (List Int)) (a1 : Int) (r : Int) (n : Nat) (hn : n = l0.length) (w : World) (hr0 : Kd.C (Kd.slice 3 (Kd.int .i64)) w A0 l0.length l0) (hc0 : n ≤ c0) (h : laws_heldIntSS.f k l0 a1 = some r) :
    Calls Try.prog 16 #[.slice A0 n c0, .int .i64 a1] w fun e w' => e = .returned (.int .i64 r) ∧ Drawn0 w w' := by
  subst hn
  exact laws_heldIntSS.calls k A0 c0 l0 a1 r w hr0 hc0 h
theorem laws_FnExactSayRun.name {w W w1 : World} {d : Kd (List Int)} {e base : Nat} {ok : Nat → Prop} {v u : Value} {xs : List (List Int)} {ys : List Int} (hN : Kd.N d e W base ok v xs) (hR : Kd.R (Kd.int .i64) 3 w1 W.heap.size (fun _ => True) u ys) (hb : Below W.heap.size W w1) (hB : Below w.heap.size w W) :
    ∃ W1 : World, Kd.N d e W1 base ok v xs ∧ Kd.R (Kd.int .i64) 3 w1 W1.heap.size (fun _ => True) u ys ∧ Below W1.heap.size W1 w1 ∧ Below w.heap.size w W1 := ⟨W, hN, hR, hb, hB⟩
def laws_FnExactSayRun.Pure : Prop := ∀ (l0 : List Int) (a1 : Int), l0.length ≤ 1048576 → ∃ (k : Nat) (R : List (List Int)) (b : Bool) (n : Int) (X' : List Int) (m : Int) (R' : List (List Int)), laws_toIntS.f k l0 = some l0 ∧ spec_SayRun.f k l0 a1 = some (R, b) ∧ impl_SayRun.f k l0 a1 = some (R, b) ∧ laws_eqIntSS.f k R R = some true ∧ laws_eqIntS.f k l0 l0 = some true ∧ laws_markIntS.f k l0 1 = some (n, X') ∧ laws_markIntSS.f k R 1 = some (m, R') ∧ laws_heldIntSS.f k R' 1 = some m ∧ 0 ≤ n ∧ 0 ≤ m
set_option maxHeartbeats 8000000 in
set_option maxRecDepth 100000 in
theorem laws_FnExactSayRun.calls (P : laws_FnExactSayRun.Pure) (A0 : Option Addr) (c0 : Nat) (l0 : List Int) (a1 : Int) (w : World) (hr0 : Kd.C (Kd.int .i64) w A0 l0.length l0) (hc0 : l0.length ≤ c0) :
    Calls Try.prog 6 #[.slice A0 l0.length c0, .int .i64 a1] w fun e w' => e = .returned (.bool true) ∧ Below w.heap.size w w' := by
  have HR0 := Aside0.mk hr0
  have HC0 := Aside0.mk hc0
  clear hr0 hc0
  have HB := Aside0.mk (Below.refl w.heap.size w)
  by_cases hl : l0.length ≤ 1048576
  case neg =>
    have d1 : decide ((l0.length : Int) > 1048576) = true := decide_eq_true (by omega)
    have d2 : decide ((1048576 : Int) < (l0.length : Int)) = true := decide_eq_true (by omega)
    have d3 : decide (1048576 < l0.length) = true := decide_eq_true (by omega)
    clear hl P
    go_enter Try.func6, Try.ntmps6
    go_wp2
    go_ret
    exact ⟨rfl, HB.out⟩
  case pos =>
    obtain ⟨k, R, b, n, X', m, R', h1, h2, h3, h4, h5, h6, h7, h8, h9, h10⟩ := P l0 a1 hl
    have A1 := Aside0.mk h1
    have A2 := Aside0.mk h2
    have A3 := Aside0.mk h3
    have A4 := Aside0.mk h4
    have A5 := Aside0.mk h5
    have A6 := Aside0.mk h6
    have A7 := Aside0.mk h7
    have A8 := Aside0.mk h8
    have d0 : decide ((l0.length : Int) > 1048576) = false := decide_eq_false (by omega)
    have d1 : decide ((1048576 : Int) < (l0.length : Int)) = false := decide_eq_false (by omega)
    have d2 : decide (1048576 < l0.length) = false := decide_eq_false (by omega)
    have d3 : decide (n < 0) = false := decide_eq_false (by omega)
    have d4 : decide (m < 0) = false := decide_eq_false (by omega)
    have d5 : (m != m) = false := by simp
    have d6 : (b != b) = false := by simp
    clear h1 h2 h3 h4 h5 h6 h7 h8 h9 h10 P hl
    have T1_ := True.intro
    have T2_ := True.intro
    have I1_ := True.intro
    go_enter Try.func6, Try.ntmps6
    go_wp2_with (first
      | (go_at_call 18; clear T1_; (with_reducible refine (laws_toIntS.calls k _ _ l0 l0 _ ?a1_ ?a2_ A1.out).mono ?_); (case a1_ => (repeat (first | exact (Kd.C_below HR0.out (by repeat (first | (with_reducible first | exact HB.out | apply below_alloc | apply pw_below_drewN | apply below_drew1) | exact HB.out))) | (with_reducible refine Kd.C_alloc ?_ _) | (with_reducible refine Kd.C_drewN ?_ _) | (with_reducible refine Kd.C_drew ?_)))); (case a2_ => exact HC0.out); rintro e w2 ⟨v2, rfl, ho, hb⟩; have HT := Aside0.mk ho; have n1_ := Aside0.mk (below_step (by repeat (first | (with_reducible first | exact HB.out | apply below_alloc | apply pw_below_drewN | apply below_drew1) | exact HB.out)) hb); clear HB ho hb; have HB := n1_; clear n1_; obtain ⟨At, ct, et⟩ := Kd.R_slice HT.out; subst et)
      | (go_at_call 20; (with_reducible refine (spec_SayRun.calls k _ _ l0 a1 R b _ ?b1_ ?b2_ A2.out).mono ?_); (case b1_ => (repeat (first | exact (Kd.R_reads' HT.out).2.2 | (with_reducible refine Kd.C_alloc ?_ _) | (with_reducible refine Kd.C_drewN ?_ _) | (with_reducible refine Kd.C_drew ?_)))); (case b2_ => exact (Kd.R_reads' HT.out).2.1); rintro e w3 ⟨v3, rfl, ho, hb⟩; have HW := Aside0.mk ho; have n1_ := Aside0.mk (below_step (by repeat (first | (with_reducible first | exact HB.out | apply below_alloc | apply pw_below_drewN | apply below_drew1) | exact HB.out)) hb); clear HB HT ho hb; have HB := n1_; clear n1_; obtain ⟨Aw, cw, ew⟩ := Kd.N_slice HW.out; subst ew)
      | (go_at_call 18; clear T2_; (with_reducible refine (laws_toIntS.calls k _ _ l0 l0 _ ?c1_ ?c2_ A1.out).mono ?_); (case c1_ => (repeat (first | exact (Kd.C_below HR0.out (by repeat (first | (with_reducible first | exact HB.out | apply below_alloc | apply pw_below_drewN | apply below_drew1) | exact HB.out))) | (with_reducible refine Kd.C_alloc ?_ _) | (with_reducible refine Kd.C_drewN ?_ _) | (with_reducible refine Kd.C_drew ?_)))); (case c2_ => exact HC0.out); rintro e w4 ⟨v4, rfl, ho, hb⟩; obtain ⟨W1, hn_, hx_, hb_, hB_⟩ := laws_FnExactSayRun.name (by (with_reducible repeat (first | apply Kd.N_alloc | apply Kd.N_drewN | apply Kd.N_drew)); exact HW.out) ho hb (by repeat (first | (with_reducible first | exact HB.out | apply below_alloc | apply pw_below_drewN | apply below_drew1) | exact HB.out)); have HW1 := Aside0.mk hn_; have HX := Aside0.mk hx_; have HB2 := Aside0.mk hb_; have HBW := Aside0.mk hB_; clear hn_ hx_ hb_ hB_ HB HW ho hb; obtain ⟨Ax, cx, ex⟩ := Kd.R_slice HX.out; subst ex)
      | (go_at_call 21; clear I1_; (with_reducible refine (impl_SayRun.callsS k _ _ l0 a1 R b _ ?d1_ ?d2_ A3.out).mono ?_); (case d1_ => (repeat (first | exact (Kd.R_reads' HX.out).2.2 | (with_reducible refine Kd.C_alloc ?_ _) | (with_reducible refine Kd.C_drewN ?_ _) | (with_reducible refine Kd.C_drew ?_)))); (case d2_ => exact (Kd.R_reads' HX.out).2.1); rintro e w5 ⟨v5, rfl, ho, hb⟩; have n0_ := Aside0.mk (Kd.S_lower (Kd.S_new' ho (Kd.R_lt (by (with_reducible repeat (first | apply Kd.R_alloc | apply Kd.R_drewN | apply Kd.R_drew)); exact HX.out))) (below_size (by repeat (first | (with_reducible first | exact HB2.out | apply below_alloc | apply pw_below_drewN | apply below_drew1) | exact HB2.out)))); have n1_ := Aside0.mk (Kd.R_below (by (with_reducible repeat (first | apply Kd.R_alloc | apply Kd.R_drewN | apply Kd.R_drew)); exact HX.out) hb); have n2_ := Aside0.mk (below_step (by repeat (first | (with_reducible first | exact HB2.out | apply below_alloc | apply pw_below_drewN | apply below_drew1) | exact HB2.out)) hb); clear HX HB2 ho hb; have HG := n0_; have HX := n1_; have HB2 := n2_; clear n0_ n1_ n2_; obtain ⟨Ag, cg, eg⟩ := Kd.S_slice HG.out; subst eg)
      | (go_at_call 14; (with_reducible refine (laws_eqIntSS.calls k _ _ R _ _ R true _ ?e1a_ ?e2a_ ?e3a_ ?e4a_ A4.out).mono ?_); (case e1a_ => (repeat (first | exact (Kd.S_reads' HH.out).2.2 | (with_reducible refine Kd.C_alloc ?_ _) | (with_reducible refine Kd.C_drewa_ ?_ _) | (with_reducible refine Kd.C_drew ?_)))); (case e2a_ => exact (Kd.S_reads' HH.out).2.1); (case e3a_ => (repeat (first | exact (Kd.N_reads' (Kd.N_below HW1.out (by repeat (first | (with_reducible first | exact HB2.out | apply below_alloc | apply pw_below_drewa_ | apply below_drew1) | exact HB2.out)))).2.2 | (with_reducible refine Kd.C_alloc ?_ _) | (with_reducible refine Kd.C_drewa_ ?_ _) | (with_reducible refine Kd.C_drew ?_)))); (case e4a_ => exact (Kd.N_reads' HW1.out).2.1); rintro e w' ⟨rfl, ⟨nd, rfl⟩⟩)
      | (go_at_call 14; (with_reducible refine (laws_eqIntSS.calls k _ _ R _ _ R true _ ?e1b_ ?e2b_ ?e3b_ ?e4b_ A4.out).mono ?_); (case e1b_ => (repeat (first | exact (Kd.S_reads' HG.out).2.2 | (with_reducible refine Kd.C_alloc ?_ _) | (with_reducible refine Kd.C_drewb_ ?_ _) | (with_reducible refine Kd.C_drew ?_)))); (case e2b_ => exact (Kd.S_reads' HG.out).2.1); (case e3b_ => (repeat (first | exact (Kd.N_reads' (Kd.N_below HW1.out (by repeat (first | (with_reducible first | exact HB2.out | apply below_alloc | apply pw_below_drewb_ | apply below_drew1) | exact HB2.out)))).2.2 | (with_reducible refine Kd.C_alloc ?_ _) | (with_reducible refine Kd.C_drewb_ ?_ _) | (with_reducible refine Kd.C_drew ?_)))); (case e4b_ => exact (Kd.N_reads' HW1.out).2.1); rintro e w' ⟨rfl, ⟨nd, rfl⟩⟩)
      | (go_at_call 18; (with_reducible refine (laws_toIntS.calls k _ _ l0 l0 _ ?f1_ ?f2_ A1.out).mono ?_); (case f1_ => (repeat (first | exact (Kd.C_below HR0.out (below_step HBW.out (by repeat (first | (with_reducible first | exact HB2.out | apply below_alloc | apply pw_below_drewN | apply below_drew1) | exact HB2.out)))) | (with_reducible refine Kd.C_alloc ?_ _) | (with_reducible refine Kd.C_drewN ?_ _) | (with_reducible refine Kd.C_drew ?_)))); (case f2_ => exact HC0.out); rintro e w6 ⟨v6, rfl, ho, hb⟩; (try clear HT); have n0_ := Aside0.mk (Kd.S_below (by (with_reducible repeat (first | apply Kd.S_alloc | apply Kd.S_drewN | apply Kd.S_drew)); exact HG.out) hb); have n2_ := Aside0.mk (below_step (by repeat (first | (with_reducible first | exact HB2.out | apply below_alloc | apply pw_below_drewN | apply below_drew1) | exact HB2.out)) hb); have HT := Aside0.mk ho; (try (have n1_ := Aside0.mk (Kd.R_below (by (with_reducible repeat (first | apply Kd.R_alloc | apply Kd.R_drewN | apply Kd.R_drew)); exact HX.out) hb); clear HX; have HX := n1_; clear n1_)); clear HG HB2 ho hb; have HG := n0_; have HB2 := n2_; clear n0_ n2_; obtain ⟨At, ct, et⟩ := Kd.R_slice HT.out; subst et)
      | (go_at_call 9; (with_reducible refine (laws_eqIntS.calls k _ _ l0 _ _ l0 true _ ?g1_ ?g2_ ?g3_ ?g4_ A5.out).mono ?_); (case g1_ => (repeat (first | exact (Kd.R_reads' HX.out).2.2 | (with_reducible refine Kd.C_alloc ?_ _) | (with_reducible refine Kd.C_drewN ?_ _) | (with_reducible refine Kd.C_drew ?_)))); (case g2_ => exact (Kd.R_reads' HX.out).2.1); (case g3_ => (repeat (first | exact (Kd.R_reads' HT.out).2.2 | (with_reducible refine Kd.C_alloc ?_ _) | (with_reducible refine Kd.C_drewN ?_ _) | (with_reducible refine Kd.C_drew ?_)))); (case g4_ => exact (Kd.R_reads' HT.out).2.1); rintro e w' ⟨rfl, ⟨nd, rfl⟩⟩)
      | (go_at_call 10; (with_reducible refine (laws_markIntS.calls k (fun k_ => some k_ = (Value.slice Ax l0.length cx).ownBlock) (.slice Ax l0.length cx) l0 1 n X' W1 _ ?h1_ ?h2_ A6.out).mono ?_); (case h1_ => exact (by repeat (first | (with_reducible first | exact HB2.out | apply below_alloc | apply pw_below_drewN | apply below_drew1) | exact HB2.out))); (case h2_ => exact Kd.R_tight rfl (by (with_reducible repeat (first | apply Kd.R_alloc | apply Kd.R_drewN | apply Kd.R_drew)); exact HX.out)); rintro e w7 ⟨rfl, hx_, hb, hk⟩; have n0_ := Aside0.mk (Kd.S_kept (ok := fun k_ => True ∧ some k_ ≠ (Value.slice Ax l0.length cx).ownBlock) (by (with_reducible repeat (first | apply Kd.S_alloc | apply Kd.S_drewN | apply Kd.S_drew)); exact HG.out) hk (fun _ hk_ => hk_.2)); have n1_ := Aside0.mk hb; clear HG HB2 HX hx_ hb hk; have HG := n0_; have HB2 := n1_; clear n0_ n1_)
      | (go_at_call 15; (with_reducible refine (laws_markIntSS.calls k _ R 1 m R' W1 _ ?i1_ ?i2_ A7.out).mono ?_); (case i1_ => exact (by repeat (first | (with_reducible first | exact HB2.out | apply below_alloc | apply pw_below_drewN | apply below_drew1) | exact HB2.out))); (case i2_ => exact Kd.S_mono (by (with_reducible repeat (first | apply Kd.S_alloc | apply Kd.S_drewN | apply Kd.S_drew)); exact HG.out) (fun _ _ => trivial)); rintro e w8 ⟨rfl, hs_, hb⟩; clear HG HB2; have HG := Aside0.mk hs_; have HB2 := Aside0.mk hb; clear hs_ hb; have HRl := Aside0.mk (show R.length = R'.length from (Kd.S_reads' HG.out).1))
      | (go_at_call 16; (with_reducible refine (laws_heldIntSS.at_ k _ _ R' 1 m _ HRl.out _ ?j1_ ?j2_ A8.out).mono ?_); (case j1_ => (repeat (first | exact (Kd.S_reads' HG.out).2.2 | (with_reducible refine Kd.C_alloc ?_ _) | (with_reducible refine Kd.C_drewN ?_ _) | (with_reducible refine Kd.C_drew ?_)))); (case j2_ => exact (Kd.S_reads' HG.out).2.1); rintro e w' ⟨rfl, ⟨nd, rfl⟩⟩)
      | (go_at_call 21; (with_reducible refine (impl_SayRun.callsS k _ _ l0 a1 R b _ ?k1_ ?k2_ A3.out).mono ?_); (case k1_ => (repeat (first | exact (Kd.R_reads' HT.out).2.2 | (with_reducible refine Kd.C_alloc ?_ _) | (with_reducible refine Kd.C_drewN ?_ _) | (with_reducible refine Kd.C_drew ?_)))); (case k2_ => exact (Kd.R_reads' HT.out).2.1); rintro e w9 ⟨v9, rfl, ho, hb⟩; have HH := Aside0.mk ho; have n0_ := Aside0.mk (Kd.S_below (by (with_reducible repeat (first | apply Kd.S_alloc | apply Kd.S_drewN | apply Kd.S_drew)); exact HG.out) hb); have n2_ := Aside0.mk (below_step (by repeat (first | (with_reducible first | exact HB2.out | apply below_alloc | apply pw_below_drewN | apply below_drew1) | exact HB2.out)) hb); clear HG HB2 ho hb; have HG := n0_; have HB2 := n2_; clear n0_ n2_; obtain ⟨Ah, ch, eh⟩ := Kd.S_slice HH.out; subst eh))
    go_ret
    exact ⟨rfl, below_step HBW.out (by repeat (first | (with_reducible first | exact HB2.out | apply below_alloc | apply pw_below_drewN | apply below_drew1) | exact HB2.out))⟩
theorem laws_FnExactSayRun.walk (P : laws_FnExactSayRun.Pure) (a0 : Option Addr) (len0 cap0 : Nat) (z0 : List Int) (a1 : Int) (w : World) (w0 : (a0 = none ∧ len0 = 0 ∧ cap0 = 0 ∧ z0 = []) ∨ ∃ x, a0 = some x ∧ len0 ≤ cap0 ∧ cap0 ≤ maxLen ∧ z0.length = cap0 ∧ (∀ i, i < z0.length → w.cell? (x.add i) = some (.int .i64 (z0.getD i 0))) ∧ ∀ n ∈ z0, (Lit.int .i64 n).wf = true) (y0 : len0 * 8 ≤ 140737488351232) (w1 : (Lit.int .i64 a1).wf = true) :
    Calls Try.prog 6 #[.slice a0 len0 cap0, .int .i64 a1] w fun e w' => e = .returned (.bool true) ∧ Below w.heap.size w w' := by
  obtain ⟨l0, rfl, hr0, hm0, hw0, hc0⟩ := ReadsInt.ofRowC w0
  exact laws_FnExactSayRun.calls P _ _ l0 a1 w (Kd.C_of_reads (d := (0 : Int)) (h1 := fun _ => rfl) hr0) hc0

end Go.Proofs.Ytnmoafgfnlpfjaa.PFnExactSayRun
