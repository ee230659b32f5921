-- out of the kit's print, turned by wip/own_print.py
import Derived.Test.YtiheocddlopfcaaPFnSourcesOfSumsx0
import Derived.Test.YtiheocddlopfcaaPFnSourcesOfSumsx1
import Derived.Test.YtiheocddlopfcaaPFnSourcesOfSumsx5
import Derived.Test.YtiheocddlopfcaaPFnSourcesOfSumsx6
namespace Go.Proofs.Ytiheocddlopfcaa.PFnSourcesOfSums
open Go.RowKit Go.Proofs.YtiheocddlopfcaaW.PrintWords Go.Proofs.YtiheocddlopfcaaW.PrintLast Go.Proofs.YtiheocddlopfcaaW.PrintMore
attribute [local go_sem] max2_int min2_int max_two min_two max_three min_three max_four min_four   -- for this text's walks alone
set_option linter.unusedVariables false
set_option linter.unusedSimpArgs false

/-! ### spec_rvPair: function 367 -/
def spec_rvPair.l0 : Nat → Int → Int → Int → Int → Option (Int)
 | 0, _, _, _, _ => none
 | k + 1, x0, x1, x7, x8 => if x8 < x1 then ((spec_l1In.f (wrap64 (x0 - x8)) 0 (wrap64 (x1 - 1))).bind fun t287 => (if t287 = true then (spec_rvPair.l0 k x0 x1 (wrap64 (x7 + 1)) (wrap64 (x8 + 1))) else (spec_rvPair.l0 k x0 x1 x7 (wrap64 (x8 + 1))))) else (some x7)
def spec_rvPair.f (k : Nat) (a0 : Int) (a1 : Int) (a2 : Int) : Option (Int) := spec_rvPair.l0 k a0 a1 0 a2
theorem spec_rvPair.mono_l : ∀ k, (∀ y0 y1 y2 y3, LeO (spec_rvPair.l0 k y0 y1 y2 y3) (spec_rvPair.l0 (k + 1) y0 y1 y2 y3))
 | 0 => fun _ _ _ _ r h => by simp [spec_rvPair.l0] at h
 | k + 1 => by
  have ih0 := spec_rvPair.mono_l k
  ·intro y0 y1 y2 y3
   unfold spec_rvPair.l0
   repeat' first
   | (with_reducible exact ih0 _ _ _ _)
   | (with_reducible exact LeO.refl _)
   | (with_reducible exact LeO.none _)
   | (with_reducible refine LeO.ite ?_ ?_)
   | (with_reducible refine LeO.bind ?_ (fun _ => ?_))
   | exact ih0 _ _ _ _
   | exact LeO.none _
   | refine LeO.ite ?_ ?_
   | refine LeO.bind ?_ (fun _ => ?_)
theorem spec_rvPair.mono : ∀ a0 a1 a2 k, LeO (spec_rvPair.f k a0 a1 a2) (spec_rvPair.f (k + 1) a0 a1 a2) := by
 intro a0 a1 a2 k
 have ih0 := spec_rvPair.mono_l k
 unfold spec_rvPair.f
 repeat' first
   | (with_reducible exact ih0 _ _ _ _)
   | (with_reducible exact LeO.refl _)
   | (with_reducible exact LeO.none _)
   | (with_reducible refine LeO.ite ?_ ?_)
   | (with_reducible refine LeO.bind ?_ (fun _ => ?_))
   | exact ih0 _ _ _ _
   | exact LeO.none _
   | refine LeO.ite ?_ ?_
   | refine LeO.bind ?_ (fun _ => ?_)
set_option maxHeartbeats 8000000 in
set_option maxRecDepth 100000 in
theorem spec_rvPair.calls (k : Nat) (a0 : Int) (a1 : Int) (a2 : Int) (r : Int) (w : World) (h : spec_rvPair.f k a0 a1 a2 = some r) :
  Calls Try.prog 367 #[.int .i64 a0, .int .i64 a1, .int .i64 a2] w fun e w' => e = .returned (.int .i64 r) ∧ Drawn0 w w' := by
 have H : (spec_rvPair.l0 k a0 a1 0 a2) = some r := h
 clear h
 have H' := Aside0.mk H
 clear H
 go_enter Try.func367, Try.ntmps367
 go_wp2
 go_loopg [7, 8] k (fun kq v7 v8 w' => ∃ (x7_1 : Int) (x8_1 : Int), v7 = .int .i64 x7_1 ∧ v8 = .int .i64 x8_1 ∧ Aside0 (spec_rvPair.l0 kq a0 a1 x7_1 x8_1 = some r) ∧ Aside0 (kq ≤ k) ∧ Drawn0 w w')
 case atStart => exact ⟨(0), (a2), (by first | rfl | (simp; done) | (simp [*]; done)), (by first | rfl | (simp; done) | (simp [*]; done)), H', ⟨Nat.le_refl _⟩, by repeat (first | exact Drawn0.refl _ | apply Drawn0.step)⟩
 case round =>
  clear H'
  try clear p2
  try clear c3
  obtain ⟨x7_1, x8_1, rfl, rfl, HA, HK1, ⟨m1, rfl⟩⟩ := hrel
  cases gk with
  | zero => exact absurd HA.out (by simp [spec_rvPair.l0])
  | succ k1 =>
   have H := HA.out
   clear HA
   simp only [spec_rvPair.l0] at H
   by_cases c4 : x8_1 < a1
   ·rw [if_pos c4] at H
    have c4b0 : decide (x8_1 < a1) = true := decide_eq_true c4
    clear c4
    replace H := Option.bind_eq_some_iff.mp H
    obtain ⟨t287, A50, H⟩ := H
    replace H : (if t287 = true then (spec_rvPair.l0 k1 a0 a1 (wrap64 (x7_1 + 1)) (wrap64 (x8_1 + 1))) else (spec_rvPair.l0 k1 a0 a1 x7_1 (wrap64 (x8_1 + 1)))) = some r := H
    have A5 := Aside0.mk A50
    clear A50
    by_cases c6 : t287 = true
    ·subst c6
     have H1 : (spec_rvPair.l0 k1 a0 a1 (wrap64 (x7_1 + 1)) (wrap64 (x8_1 + 1))) = some r := by rw [if_pos rfl] at H; exact H
     clear H
     have H := H1
     clear H1
     have H' := Aside0.mk H
     clear H
     go_wp2_with (first | ((with_reducible refine gate_callee (f := 197) rfl ?_); refine goesL_ (some 20) rfl rfl Try.func197 (by kernel_rfl) rfl #[.int .i64 (wrap64 (a0 - x8_1)), .int .i64 0, .int .i64 (wrap64 (a1 - 1))] rfl (by (try simp only [List.map_toArray, List.map_cons, List.map_nil]); first | done | rfl | (simp only [List.length_drop, List.length_take]; rfl)) ?_; (with_reducible refine (spec_l1In.calls (wrap64 (a0 - x8_1)) 0 (wrap64 (a1 - 1)) true _ A5.out).mono ?_); rintro e w' ⟨rfl, ⟨nd, rfl⟩⟩; refine ⟨_, rfl, ?_⟩))
     go_roundg k1
     case measure => have := HK1.out; omega
     case rel => exact ⟨(wrap64 (x7_1 + 1)), (wrap64 (x8_1 + 1)), (by first | rfl | (simp; done) | (simp [*]; done)), (by first | rfl | (simp; done) | (simp [*]; done)), H', ⟨by have := HK1.out; omega⟩, by repeat (first | exact Drawn0.refl _ | apply Drawn0.step)⟩
    ·replace c6 := Bool.eq_false_iff.mpr c6
     subst c6
     have H1 : (spec_rvPair.l0 k1 a0 a1 x7_1 (wrap64 (x8_1 + 1))) = some r := by rw [if_neg (show ¬ (false = true) by decide)] at H; exact H
     clear H
     have H := H1
     clear H1
     have H' := Aside0.mk H
     clear H
     go_wp2_with (first | ((with_reducible refine gate_callee (f := 197) rfl ?_); refine goesL_ (some 20) rfl rfl Try.func197 (by kernel_rfl) rfl #[.int .i64 (wrap64 (a0 - x8_1)), .int .i64 0, .int .i64 (wrap64 (a1 - 1))] rfl (by (try simp only [List.map_toArray, List.map_cons, List.map_nil]); first | done | rfl | (simp only [List.length_drop, List.length_take]; rfl)) ?_; (with_reducible refine (spec_l1In.calls (wrap64 (a0 - x8_1)) 0 (wrap64 (a1 - 1)) false _ A5.out).mono ?_); rintro e w' ⟨rfl, ⟨nd, rfl⟩⟩; refine ⟨_, rfl, ?_⟩))
     go_roundg k1
     case measure => have := HK1.out; omega
     case rel => exact ⟨(x7_1), (wrap64 (x8_1 + 1)), (by first | rfl | (simp; done) | (simp [*]; done)), (by first | rfl | (simp; done) | (simp [*]; done)), H', ⟨by have := HK1.out; omega⟩, by repeat (first | exact Drawn0.refl _ | apply Drawn0.step)⟩
   ·rw [if_neg c4] at H
    have c4b0 : decide (x8_1 < a1) = false := decide_eq_false c4
    clear c4
    obtain rfl := Option.some.inj H
    go_wp2
    go_ret
    exact ⟨by first | rfl | (simp; done) | (simp [*]; done), by repeat (first | exact Drawn0.refl _ | apply Drawn0.step)⟩

/-! ### spec_rvCount: function 266 -/
def spec_rvCount.l0 : Nat → List Int → Int → Int → Int → Int → Option (Int)
 | 0, _, _, _, _, _ => none
 | k + 1, x0, x1, x5, x6, x7 => if x7 < (wrap64 (Int.tdiv x5 2)) then (if x7 = 0 then (if 0 ≤ x7 then (if x7 < (x0.length : Int) then ((spec_rvPair.f k (rd x0 x7) x1 1).bind fun t289 => (spec_rvCount.l0 k x0 x1 x5 (wrap64 (x6 * t289)) (wrap64 (x7 + 1)))) else (none)) else (none)) else (if 0 ≤ x7 then (if x7 < (x0.length : Int) then ((spec_rvPair.f k (rd x0 x7) x1 0).bind fun t291 => (spec_rvCount.l0 k x0 x1 x5 (wrap64 (x6 * t291)) (wrap64 (x7 + 1)))) else (none)) else (none))) else (if (Int.tmod x5 2) = 1 then (if 0 ≤ (wrap64 (Int.tdiv x5 2)) then (if (wrap64 (Int.tdiv x5 2)) < (x0.length : Int) then (if (Int.tmod (rd x0 (wrap64 (Int.tdiv x5 2))) 2) = 1 then (some 0) else (if x5 = 1 then (if 0 < (x0.length : Int) then (if (rd x0 0) = 0 then (some 0) else (some x6)) else (none)) else (some x6))) else (none)) else (none)) else (some x6))
def spec_rvCount.f (k : Nat) (l0 : List Int) (a1 : Int) : Option (Int) := spec_rvCount.l0 k l0 a1 (l0.length : Int) 1 0
theorem spec_rvCount.mono_l : ∀ k, (∀ y0 y1 y2 y3 y4, LeO (spec_rvCount.l0 k y0 y1 y2 y3 y4) (spec_rvCount.l0 (k + 1) y0 y1 y2 y3 y4))
 | 0 => fun _ _ _ _ _ r h => by simp [spec_rvCount.l0] at h
 | k + 1 => by
  have ih0 := spec_rvCount.mono_l k
  ·intro y0 y1 y2 y3 y4
   unfold spec_rvCount.l0
   repeat' first
   | (with_reducible exact ih0 _ _ _ _ _)
   | (with_reducible exact spec_rvPair.mono _ _ _ _)
   | (with_reducible exact LeO.refl _)
   | (with_reducible exact LeO.none _)
   | (with_reducible refine LeO.ite ?_ ?_)
   | (with_reducible refine LeO.bind ?_ (fun _ => ?_))
   | exact ih0 _ _ _ _ _
   | exact spec_rvPair.mono _ _ _ _
   | exact LeO.none _
   | refine LeO.ite ?_ ?_
   | refine LeO.bind ?_ (fun _ => ?_)
theorem spec_rvCount.mono : ∀ a0 a1 k, LeO (spec_rvCount.f k a0 a1) (spec_rvCount.f (k + 1) a0 a1) := by
 intro a0 a1 k
 have ih0 := spec_rvCount.mono_l k
 unfold spec_rvCount.f
 repeat' first
   | (with_reducible exact ih0 _ _ _ _ _)
   | (with_reducible exact spec_rvPair.mono _ _ _ _)
   | (with_reducible exact LeO.refl _)
   | (with_reducible exact LeO.none _)
   | (with_reducible refine LeO.ite ?_ ?_)
   | (with_reducible refine LeO.bind ?_ (fun _ => ?_))
   | exact ih0 _ _ _ _ _
   | exact spec_rvPair.mono _ _ _ _
   | exact LeO.none _
   | refine LeO.ite ?_ ?_
   | refine LeO.bind ?_ (fun _ => ?_)
set_option maxHeartbeats 8000000 in
set_option maxRecDepth 100000 in
theorem spec_rvCount.calls (k : Nat) (A0 : Option Addr) (c0 : Nat) (l0 : List Int) (a1 : Int) (r : Int) (w : World) (hr0 : Kd.C (Kd.int .i64) w A0 l0.length l0) (hc0 : l0.length ≤ c0) (h : spec_rvCount.f k l0 a1 = some r) :
  Calls Try.prog 266 #[.slice A0 l0.length c0, .int .i64 a1] w fun e w' => e = .returned (.int .i64 r) ∧ Drawn0 w w' := by
 have HR0 := Aside0.mk hr0
 have HC0 := Aside0.mk hc0
 clear hr0 hc0
 have H : (spec_rvCount.l0 k l0 a1 (l0.length : Int) 1 0) = some r := h
 clear h
 have H' := Aside0.mk H
 clear H
 go_enter Try.func266, Try.ntmps266
 go_wp2
 go_loopg [6, 7] k (fun kq v6 v7 w' => ∃ (x6_1 : Int) (x7_1 : Int), v6 = .int .i64 x6_1 ∧ v7 = .int .i64 x7_1 ∧ Aside0 (spec_rvCount.l0 kq l0 a1 (l0.length : Int) x6_1 x7_1 = some r) ∧ Aside0 (kq ≤ k) ∧ Drawn0 w w')
 case atStart => exact ⟨(1), (0), (by first | rfl | (simp; done) | (simp [*]; done)), (by first | rfl | (simp; done) | (simp [*]; done)), H', ⟨Nat.le_refl _⟩, by repeat (first | exact Drawn0.refl _ | apply Drawn0.step)⟩
 case round =>
  clear H'
  try clear c2
  try clear p2
  obtain ⟨x6_1, x7_1, rfl, rfl, HA, HK1, ⟨m1, rfl⟩⟩ := hrel
  cases gk with
  | zero => exact absurd HA.out (by simp [spec_rvCount.l0])
  | succ k1 =>
   have H := HA.out
   clear HA
   simp only [spec_rvCount.l0] at H
   by_cases c3 : x7_1 < (wrap64 (Int.tdiv (l0.length : Int) 2))
   ·rw [if_pos c3] at H
    have c3b0 : decide (x7_1 < (wrap64 (Int.tdiv (l0.length : Int) 2))) = true := decide_eq_true c3
    have c3b0e : decide (x7_1 < (wrap64 ((l0.length : Int) / 2))) = true := (by rw [← Int.tdiv_eq_ediv_of_nonneg (Int.natCast_nonneg l0.length)]; exact c3b0)
    clear c3
    by_cases c4 : x7_1 = 0
    ·rw [if_pos c4] at H
     have c4b0 : (x7_1 == 0) = true := beq_iff_eq.mpr c4
     have c4b1 : (x7_1 != 0) = false := bne_eq_false_iff_eq.mpr c4
     clear c4
     by_cases c5 : 0 ≤ x7_1
     ·rw [if_pos c5] at H
      have c5b0 : decide (0 ≤ x7_1) = true := decide_eq_true c5
      clear c5
      by_cases c6 : x7_1 < (l0.length : Int)
      ·rw [if_pos c6] at H
       have c6b0 : decide (x7_1 < (l0.length : Int)) = true := decide_eq_true c6
       clear c6
       replace H := Option.bind_eq_some_iff.mp H
       obtain ⟨t289, A70, H⟩ := H
       replace H : (spec_rvCount.l0 k1 l0 a1 (l0.length : Int) (wrap64 (x6_1 * t289)) (wrap64 (x7_1 + 1))) = some r := H
       have A7 := Aside0.mk A70
       clear A70
       have H' := Aside0.mk H
       clear H
       have p288 : 0 ≤ (x7_1 : Int) := of_decide_eq_true (by first | (with_reducible assumption) | assumption)
       have q288 : x7_1 < (l0.length : Int) := of_decide_eq_true (by first | (with_reducible assumption) | assumption)
       obtain ⟨ad288, e288, hx288_0⟩ := Kd.at_int HR0.out x7_1 p288 q288
       cases e288
       replace p288 := eq_true p288
       replace q288 := eq_true q288
       go_wp2_with (first | ((with_reducible refine gate_callee (f := 367) rfl ?_); refine goesL_ (some 26) rfl rfl Try.func367 (by kernel_rfl) rfl #[.int .i64 (rd l0 x7_1), .int .i64 a1, .int .i64 1] rfl (by (try simp only [List.map_toArray, List.map_cons, List.map_nil]); first | done | rfl | (simp only [List.length_drop, List.length_take]; rfl)) ?_; (with_reducible refine (spec_rvPair.calls k1 (rd l0 x7_1) a1 1 t289 _ A7.out).mono ?_); rintro e w' ⟨rfl, ⟨nd, rfl⟩⟩; refine ⟨_, rfl, ?_⟩))
       go_roundg k1
       case measure => have := HK1.out; omega
       case rel => exact ⟨(wrap64 (x6_1 * t289)), (wrap64 (x7_1 + 1)), (by first | rfl | (simp; done) | (simp [*]; done)), (by first | rfl | (simp; done) | (simp [*]; done)), H', ⟨by have := HK1.out; omega⟩, by repeat (first | exact Drawn0.refl _ | apply Drawn0.step)⟩
      ·rw [if_neg c6] at H
       exact absurd H (by simp)
     ·rw [if_neg c5] at H
      exact absurd H (by simp)
    ·rw [if_neg c4] at H
     have c4b0 : (x7_1 == 0) = false := beq_eq_false_iff_ne.mpr c4
     have c4b1 : (x7_1 != 0) = true := bne_iff_ne.mpr c4
     by_cases c8 : 0 ≤ x7_1
     ·rw [if_pos c8] at H
      have c8b0 : decide (0 ≤ x7_1) = true := decide_eq_true c8
      clear c8
      by_cases c9 : x7_1 < (l0.length : Int)
      ·rw [if_pos c9] at H
       have c9b0 : decide (x7_1 < (l0.length : Int)) = true := decide_eq_true c9
       clear c9
       replace H := Option.bind_eq_some_iff.mp H
       obtain ⟨t291, A100, H⟩ := H
       replace H : (spec_rvCount.l0 k1 l0 a1 (l0.length : Int) (wrap64 (x6_1 * t291)) (wrap64 (x7_1 + 1))) = some r := H
       have A10 := Aside0.mk A100
       clear A100
       have H' := Aside0.mk H
       clear H
       have p290 : 0 ≤ (x7_1 : Int) := of_decide_eq_true (by first | (with_reducible assumption) | assumption)
       have q290 : x7_1 < (l0.length : Int) := of_decide_eq_true (by first | (with_reducible assumption) | assumption)
       obtain ⟨ad290, e290, hx290_0⟩ := Kd.at_int HR0.out x7_1 p290 q290
       cases e290
       replace p290 := eq_true p290
       replace q290 := eq_true q290
       go_wp2_with (first | ((with_reducible refine gate_callee (f := 367) rfl ?_); refine goesL_ (some 26) rfl rfl Try.func367 (by kernel_rfl) rfl #[.int .i64 (rd l0 x7_1), .int .i64 a1, .int .i64 0] rfl (by (try simp only [List.map_toArray, List.map_cons, List.map_nil]); first | done | rfl | (simp only [List.length_drop, List.length_take]; rfl)) ?_; (with_reducible refine (spec_rvPair.calls k1 (rd l0 x7_1) a1 0 t291 _ A10.out).mono ?_); rintro e w' ⟨rfl, ⟨nd, rfl⟩⟩; refine ⟨_, rfl, ?_⟩))
       go_roundg k1
       case measure => have := HK1.out; omega
       case rel => exact ⟨(wrap64 (x6_1 * t291)), (wrap64 (x7_1 + 1)), (by first | rfl | (simp; done) | (simp [*]; done)), (by first | rfl | (simp; done) | (simp [*]; done)), H', ⟨by have := HK1.out; omega⟩, by repeat (first | exact Drawn0.refl _ | apply Drawn0.step)⟩
      ·rw [if_neg c9] at H
       exact absurd H (by simp)
     ·rw [if_neg c8] at H
      exact absurd H (by simp)
   ·rw [if_neg c3] at H
    have c3b0 : decide (x7_1 < (wrap64 (Int.tdiv (l0.length : Int) 2))) = false := decide_eq_false c3
    have c3b0e : decide (x7_1 < (wrap64 ((l0.length : Int) / 2))) = false := (by rw [← Int.tdiv_eq_ediv_of_nonneg (Int.natCast_nonneg l0.length)]; exact c3b0)
    clear c3
    by_cases c11 : (Int.tmod (l0.length : Int) 2) = 1
    ·rw [if_pos c11] at H
     have c11b0 : ((Int.tmod (l0.length : Int) 2) == 1) = true := beq_iff_eq.mpr c11
     have c11b0e : (((l0.length : Int) % 2) == 1) = true := (by rw [← Int.tmod_eq_emod_of_nonneg (Int.natCast_nonneg l0.length)]; exact c11b0)
     have c11b1 : ((Int.tmod (l0.length : Int) 2) != 1) = false := bne_eq_false_iff_eq.mpr c11
     have c11b1e : (((l0.length : Int) % 2) != 1) = false := (by rw [← Int.tmod_eq_emod_of_nonneg (Int.natCast_nonneg l0.length)]; exact c11b1)
     clear c11
     obtain ⟨ji12, hji12⟩ : ∃ j_ : Int, (wrap64 (Int.tdiv (l0.length : Int) 2)) = j_ := ⟨_, rfl⟩
     have hji12v : wrap64 ((l0.length : Int) / 2) = ji12 := (by rw [← hji12, Int.tdiv_eq_ediv_of_nonneg (Int.natCast_nonneg _)])
     replace H : (if 0 ≤ (ji12) then (if (ji12) < (l0.length : Int) then (if (Int.tmod (rd l0 (ji12)) 2) = 1 then (some 0) else (if (l0.length : Int) = 1 then (if 0 < (l0.length : Int) then (if (rd l0 0) = 0 then (some 0) else (some x6_1)) else (none)) else (some x6_1))) else (none)) else (none)) = some r := by first | (rw [hji12] at H; exact H) | (simp only [hji12] at H ⊢; exact H)
     (try rw [hji12] at c3b0)
     have hji12w : (IntKind.i64.wrap (Int.tdiv (l0.length : Int) 2)) = ji12 := (i64_w _).trans hji12
     by_cases c13 : 0 ≤ (ji12)
     ·rw [if_pos c13] at H
      have c13b0 : decide (0 ≤ (ji12)) = true := decide_eq_true c13
      clear c13
      by_cases c14 : (ji12) < (l0.length : Int)
      ·rw [if_pos c14] at H
       have c14b0 : decide ((ji12) < (l0.length : Int)) = true := decide_eq_true c14
       clear c14
       by_cases c15 : (Int.tmod (rd l0 (ji12)) 2) = 1
       ·rw [if_pos c15] at H
        have c15b0 : ((Int.tmod (rd l0 (ji12)) 2) == 1) = true := beq_iff_eq.mpr c15
        have c15b1 : ((Int.tmod (rd l0 (ji12)) 2) != 1) = false := bne_eq_false_iff_eq.mpr c15
        clear c15
        obtain rfl := Option.some.inj H
        have p292 : 0 ≤ ((ji12) : Int) := of_decide_eq_true (by first | (with_reducible assumption) | assumption)
        have q292 : (ji12) < (l0.length : Int) := of_decide_eq_true (by first | (with_reducible assumption) | assumption)
        obtain ⟨ad292, e292, hx292_0⟩ := Kd.at_int HR0.out (ji12) p292 q292
        cases e292
        replace p292 := eq_true p292
        replace q292 := eq_true q292
        go_wp2
        go_ret
        exact ⟨by first | rfl | (simp; done) | (simp only [← hji12] <;> (first | rfl | simp)) | (simp [*]; done), by repeat (first | exact Drawn0.refl _ | apply Drawn0.step)⟩
       ·rw [if_neg c15] at H
        have c15b0 : ((Int.tmod (rd l0 (ji12)) 2) == 1) = false := beq_eq_false_iff_ne.mpr c15
        have c15b1 : ((Int.tmod (rd l0 (ji12)) 2) != 1) = true := bne_iff_ne.mpr c15
        by_cases c16 : (l0.length : Int) = 1
        ·rw [if_pos c16] at H
         have c16b0 : ((l0.length : Int) == 1) = true := beq_iff_eq.mpr c16
         have c16b1 : ((l0.length : Int) != 1) = false := bne_eq_false_iff_eq.mpr c16
         clear c16
         by_cases c17 : 0 < (l0.length : Int)
         ·rw [if_pos c17] at H
          have c17b0 : decide (0 < (l0.length : Int)) = true := decide_eq_true c17
          have c17b1 : decide (0 < l0.length) = true := decide_eq_true (by omega)
          clear c17
          by_cases c18 : (rd l0 0) = 0
          ·rw [if_pos c18] at H
           have c18b0 : ((rd l0 0) == 0) = true := beq_iff_eq.mpr c18
           have c18b1 : ((rd l0 0) != 0) = false := bne_eq_false_iff_eq.mpr c18
           clear c18
           obtain rfl := Option.some.inj H
           have p292 : 0 ≤ ((ji12) : Int) := of_decide_eq_true (by first | (with_reducible assumption) | assumption)
           have q292 : (ji12) < (l0.length : Int) := of_decide_eq_true (by first | (with_reducible assumption) | assumption)
           obtain ⟨ad292, e292, hx292_0⟩ := Kd.at_int HR0.out (ji12) p292 q292
           cases e292
           replace p292 := eq_true p292
           replace q292 := eq_true q292
           have p293 : 0 ≤ (0 : Int) := (by omega)
           have q293 : 0 < (l0.length : Int) := of_decide_eq_true (by first | (with_reducible assumption) | assumption)
           obtain ⟨ad293, e293, hx293_0⟩ := Kd.at_int HR0.out 0 p293 q293
           obtain rfl : ad292 = ad293 := (by injection e293)
           have qi293 : (0 < l0.length) = True := eq_true (by omega)
           (try rw [show ((0 : Int)).toNat = 0 from rfl] at hx293_0)
           (try rw [Addr.add_zero'] at hx293_0)
           replace p293 := eq_true p293
           replace q293 := eq_true q293
           go_wp2
           go_ret
           exact ⟨by first | rfl | (simp; done) | (simp only [← hji12] <;> (first | rfl | simp)) | (simp [*]; done), by repeat (first | exact Drawn0.refl _ | apply Drawn0.step)⟩
          ·rw [if_neg c18] at H
           have c18b0 : ((rd l0 0) == 0) = false := beq_eq_false_iff_ne.mpr c18
           have c18b1 : ((rd l0 0) != 0) = true := bne_iff_ne.mpr c18
           obtain rfl := Option.some.inj H
           have p292 : 0 ≤ ((ji12) : Int) := of_decide_eq_true (by first | (with_reducible assumption) | assumption)
           have q292 : (ji12) < (l0.length : Int) := of_decide_eq_true (by first | (with_reducible assumption) | assumption)
           obtain ⟨ad292, e292, hx292_0⟩ := Kd.at_int HR0.out (ji12) p292 q292
           cases e292
           replace p292 := eq_true p292
           replace q292 := eq_true q292
           have p293 : 0 ≤ (0 : Int) := (by omega)
           have q293 : 0 < (l0.length : Int) := of_decide_eq_true (by first | (with_reducible assumption) | assumption)
           obtain ⟨ad293, e293, hx293_0⟩ := Kd.at_int HR0.out 0 p293 q293
           obtain rfl : ad292 = ad293 := (by injection e293)
           have qi293 : (0 < l0.length) = True := eq_true (by omega)
           (try rw [show ((0 : Int)).toNat = 0 from rfl] at hx293_0)
           (try rw [Addr.add_zero'] at hx293_0)
           replace p293 := eq_true p293
           replace q293 := eq_true q293
           go_wp2
           go_ret
           exact ⟨by first | rfl | (simp; done) | (simp only [← hji12] <;> (first | rfl | simp)) | (simp [*]; done), by repeat (first | exact Drawn0.refl _ | apply Drawn0.step)⟩
         ·rw [if_neg c17] at H
          exact absurd H (by simp)
        ·rw [if_neg c16] at H
         have c16b0 : ((l0.length : Int) == 1) = false := beq_eq_false_iff_ne.mpr c16
         have c16b1 : ((l0.length : Int) != 1) = true := bne_iff_ne.mpr c16
         obtain rfl := Option.some.inj H
         have p292 : 0 ≤ ((ji12) : Int) := of_decide_eq_true (by first | (with_reducible assumption) | assumption)
         have q292 : (ji12) < (l0.length : Int) := of_decide_eq_true (by first | (with_reducible assumption) | assumption)
         obtain ⟨ad292, e292, hx292_0⟩ := Kd.at_int HR0.out (ji12) p292 q292
         cases e292
         replace p292 := eq_true p292
         replace q292 := eq_true q292
         go_wp2
         go_ret
         exact ⟨by first | rfl | (simp; done) | (simp only [← hji12] <;> (first | rfl | simp)) | (simp [*]; done), by repeat (first | exact Drawn0.refl _ | apply Drawn0.step)⟩
      ·rw [if_neg c14] at H
       exact absurd H (by simp)
     ·rw [if_neg c13] at H
      exact absurd H (by simp)
    ·rw [if_neg c11] at H
     have c11b0 : ((Int.tmod (l0.length : Int) 2) == 1) = false := beq_eq_false_iff_ne.mpr c11
     have c11b0e : (((l0.length : Int) % 2) == 1) = false := (by rw [← Int.tmod_eq_emod_of_nonneg (Int.natCast_nonneg l0.length)]; exact c11b0)
     have c11b1 : ((Int.tmod (l0.length : Int) 2) != 1) = true := bne_iff_ne.mpr c11
     have c11b1e : (((l0.length : Int) % 2) != 1) = true := (by rw [← Int.tmod_eq_emod_of_nonneg (Int.natCast_nonneg l0.length)]; exact c11b1)
     obtain rfl := Option.some.inj H
     go_wp2
     go_ret
     exact ⟨by first | rfl | (simp; done) | (simp [*]; done), by repeat (first | exact Drawn0.refl _ | apply Drawn0.step)⟩

/-! ### spec_CountSources: function 96 -/
mutual
def spec_CountSources.l0 : Nat → List Int → Int → Int → Int → Option (Int × Bool)
 | 0, _, _, _, _ => none
 | k + 1, x0, x1, x6, x7 => if x7 ≤ (x0.length : Int) then (if x7 = 0 then (spec_CountSources.l0 k x0 x1 x6 (wrap64 (x7 + 1))) else ((spec_rvWays.f k x0 x7 x1).bind fun bt295 => (spec_CountSources.l1 k x0 x1 x6 x7 bt295.1 (bt295.1.length : Int) 0))) else (some (x6, true))
def spec_CountSources.l1 : Nat → List Int → Int → Int → Int → List (List Int) → Int → Int → Option (Int × Bool)
 | 0, _, _, _, _, _, _, _ => none
 | k + 1, x0, x1, x6, x7, x34, x35, x36 => if x36 < x35 then (if 0 ≤ x36 then (if x36 < (x34.length : Int) then ((spec_rvCount.f k (rd_L2 x34 x36) x1).bind fun t300 => (spec_CountSources.l1 k x0 x1 (wrap64 (x6 + t300)) x7 x34 x35 (wrap64 (x36 + 1)))) else (none)) else (none)) else (spec_CountSources.l0 k x0 x1 x6 (wrap64 (x7 + 1)))
end
def spec_CountSources.f (k : Nat) (l0 : List Int) (a1 : Int) : Option (Int × Bool) := (spec_rvAsked.f k l0 a1).bind fun t294 => (if t294 = true then (spec_CountSources.l0 k l0 a1 0 (wrap64 ((l0.length : Int) - 1))) else (some (0, false)))
theorem spec_CountSources.mono_l : ∀ k, (∀ y0 y1 y2 y3, LeO (spec_CountSources.l0 k y0 y1 y2 y3) (spec_CountSources.l0 (k + 1) y0 y1 y2 y3)) ∧ (∀ y0 y1 y2 y3 y4 y5 y6, LeO (spec_CountSources.l1 k y0 y1 y2 y3 y4 y5 y6) (spec_CountSources.l1 (k + 1) y0 y1 y2 y3 y4 y5 y6))
 | 0 => ⟨fun _ _ _ _ r h => by simp [spec_CountSources.l0] at h, fun _ _ _ _ _ _ _ r h => by simp [spec_CountSources.l1] at h⟩
 | k + 1 => by
  obtain ⟨ih0, ih1⟩ := spec_CountSources.mono_l k
  refine ⟨?_, ?_⟩
  ·intro y0 y1 y2 y3
   unfold spec_CountSources.l0
   repeat' first
   | (with_reducible exact ih0 _ _ _ _)
   | (with_reducible exact ih1 _ _ _ _ _ _ _)
   | (with_reducible exact spec_rvAsked.mono _ _ _)
   | (with_reducible exact spec_rvCount.mono _ _ _)
   | (with_reducible exact spec_rvWays.mono _ _ _ _)
   | (with_reducible exact LeO.refl _)
   | (with_reducible exact LeO.none _)
   | (with_reducible refine LeO.ite ?_ ?_)
   | (with_reducible refine LeO.bind ?_ (fun _ => ?_))
   | exact ih0 _ _ _ _
   | exact ih1 _ _ _ _ _ _ _
   | exact spec_rvAsked.mono _ _ _
   | exact spec_rvCount.mono _ _ _
   | exact spec_rvWays.mono _ _ _ _
   | exact LeO.none _
   | refine LeO.ite ?_ ?_
   | refine LeO.bind ?_ (fun _ => ?_)
  ·intro y0 y1 y2 y3 y4 y5 y6
   unfold spec_CountSources.l1
   repeat' first
   | (with_reducible exact ih0 _ _ _ _)
   | (with_reducible exact ih1 _ _ _ _ _ _ _)
   | (with_reducible exact spec_rvAsked.mono _ _ _)
   | (with_reducible exact spec_rvCount.mono _ _ _)
   | (with_reducible exact spec_rvWays.mono _ _ _ _)
   | (with_reducible exact LeO.refl _)
   | (with_reducible exact LeO.none _)
   | (with_reducible refine LeO.ite ?_ ?_)
   | (with_reducible refine LeO.bind ?_ (fun _ => ?_))
   | exact ih0 _ _ _ _
   | exact ih1 _ _ _ _ _ _ _
   | exact spec_rvAsked.mono _ _ _
   | exact spec_rvCount.mono _ _ _
   | exact spec_rvWays.mono _ _ _ _
   | exact LeO.none _
   | refine LeO.ite ?_ ?_
   | refine LeO.bind ?_ (fun _ => ?_)
theorem spec_CountSources.mono : ∀ a0 a1 k, LeO (spec_CountSources.f k a0 a1) (spec_CountSources.f (k + 1) a0 a1) := by
 intro a0 a1 k
 obtain ⟨ih0, ih1⟩ := spec_CountSources.mono_l k
 unfold spec_CountSources.f
 repeat' first
   | (with_reducible exact ih0 _ _ _ _)
   | (with_reducible exact ih1 _ _ _ _ _ _ _)
   | (with_reducible exact spec_rvAsked.mono _ _ _)
   | (with_reducible exact spec_rvCount.mono _ _ _)
   | (with_reducible exact spec_rvWays.mono _ _ _ _)
   | (with_reducible exact LeO.refl _)
   | (with_reducible exact LeO.none _)
   | (with_reducible refine LeO.ite ?_ ?_)
   | (with_reducible refine LeO.bind ?_ (fun _ => ?_))
   | exact ih0 _ _ _ _
   | exact ih1 _ _ _ _ _ _ _
   | exact spec_rvAsked.mono _ _ _
   | exact spec_rvCount.mono _ _ _
   | exact spec_rvWays.mono _ _ _ _
   | exact LeO.none _
   | refine LeO.ite ?_ ?_
   | refine LeO.bind ?_ (fun _ => ?_)
set_option maxHeartbeats 8000000 in
set_option maxRecDepth 100000 in
theorem spec_CountSources.calls (k : Nat) (A0 : Option Addr) (c0 : Nat) (l0 : List Int) (a1 : Int) (r1 : Int) (r2 : Bool) (w : World) (hr0 : Kd.C (Kd.int .i64) w A0 l0.length l0) (hc0 : l0.length ≤ c0) (h : spec_CountSources.f k l0 a1 = some (r1, r2)) :
  Calls Try.prog 96 #[.slice A0 l0.length c0, .int .i64 a1] w fun e w' => e = .returned (.tuple #[.int .i64 r1, .bool r2]) ∧ Below w.heap.size w w' := by
 have HR0 := Aside0.mk hr0
 have HC0 := Aside0.mk hc0
 clear hr0 hc0
 have HB := Aside0.mk (Below.refl w.heap.size w)
 have H : ((spec_rvAsked.f k l0 a1).bind fun t294 => (if t294 = true then (spec_CountSources.l0 k l0 a1 0 (wrap64 ((l0.length : Int) - 1))) else (some (0, false)))) = some (r1, r2) := h
 clear h
 replace H := Option.bind_eq_some_iff.mp H
 obtain ⟨t294, A30, H⟩ := H
 replace H : (if t294 = true then (spec_CountSources.l0 k l0 a1 0 (wrap64 ((l0.length : Int) - 1))) else (some (0, false))) = some (r1, r2) := H
 have A3 := Aside0.mk A30
 clear A30
 by_cases c4 : t294 = true
 ·subst c4
  have H1 : (spec_CountSources.l0 k l0 a1 0 (wrap64 ((l0.length : Int) - 1))) = some (r1, r2) := by rw [if_pos rfl] at H; exact H
  clear H
  have H := H1
  clear H1
  have H' := Aside0.mk H
  clear H
  go_enter Try.func96, Try.ntmps96
  go_wp2_with (first | ((with_reducible refine gate_callee (f := 264) rfl ?_); refine goesL_ (some 14) rfl rfl Try.func264 (by kernel_rfl) rfl #[.slice A0 l0.length c0, .int .i64 a1] rfl (by (try simp only [List.map_toArray, List.map_cons, List.map_nil]); first | done | rfl | (simp only [List.length_drop, List.length_take]; rfl)) ?_; (with_reducible refine (spec_rvAsked.calls k _ _ l0 a1 true _ ?side1 ?side2 A3.out).mono ?_); (case side1 => repeat (first | exact HR0.out | (with_reducible refine Kd.C_alloc ?_ _) | (with_reducible refine Kd.C_drewN ?_ _) | (with_reducible refine Kd.C_drew ?_))); (case side2 => exact HC0.out); rintro e w' ⟨rfl, ⟨nd, rfl⟩⟩; refine ⟨_, rfl, ?_⟩))
  go_loopg [6, 7] k (fun kq v6 v7 w' => ∃ (x6_1 : Int) (x7_1 : Int), v6 = .int .i64 x6_1 ∧ v7 = .int .i64 x7_1 ∧ Aside0 (spec_CountSources.l0 kq l0 a1 x6_1 x7_1 = some (r1, r2)) ∧ Aside0 (kq ≤ k) ∧ Aside0 (Below w.heap.size w w'))
  case atStart => exact ⟨(0), (wrap64 ((l0.length : Int) - 1)), (by first | rfl | (simp; done) | (simp [*]; done)), (by first | rfl | (simp; done) | (simp [*]; done)), H', ⟨Nat.le_refl _⟩, ⟨by repeat (first | (with_reducible first | exact HB.out | apply below_alloc | apply pw_below_drewN | apply below_drew1) | exact HB.out)⟩⟩
  case round =>
   clear H'
   try clear c2
   try clear p2
   try clear c4
   obtain ⟨x6_1, x7_1, rfl, rfl, HA, HK1, HB⟩ := hrel
   cases gk with
   | zero => exact absurd HA.out (by simp [spec_CountSources.l0])
   | succ k1 =>
    have H := HA.out
    clear HA
    simp only [spec_CountSources.l0] at H
    by_cases c5 : x7_1 ≤ (l0.length : Int)
    ·rw [if_pos c5] at H
     have c5b0 : decide (x7_1 ≤ (l0.length : Int)) = true := decide_eq_true c5
     clear c5
     by_cases c6 : x7_1 = 0
     ·rw [if_pos c6] at H
      have c6b0 : (x7_1 == 0) = true := beq_iff_eq.mpr c6
      have c6b1 : (x7_1 != 0) = false := bne_eq_false_iff_eq.mpr c6
      clear c6
      have H' := Aside0.mk H
      clear H
      go_wp2
      go_roundg k1
      case measure => have := HK1.out; omega
      case rel => exact ⟨(x6_1), (wrap64 (x7_1 + 1)), (by first | rfl | (simp; done) | (simp [*]; done)), (by first | rfl | (simp; done) | (simp [*]; done)), H', ⟨by have := HK1.out; omega⟩, ⟨by repeat (first | (with_reducible first | exact HB.out | apply below_alloc | apply pw_below_drewN | apply below_drew1) | exact HB.out)⟩⟩
     ·rw [if_neg c6] at H
      have c6b0 : (x7_1 == 0) = false := beq_eq_false_iff_ne.mpr c6
      have c6b1 : (x7_1 != 0) = true := bne_iff_ne.mpr c6
      replace H := Option.bind_eq_some_iff.mp H
      obtain ⟨⟨t295, t296⟩, A70, H⟩ := H
      replace H : (spec_CountSources.l1 k1 l0 a1 x6_1 x7_1 t295 (t295.length : Int) 0) = some (r1, r2) := H
      have A7 := Aside0.mk A70
      clear A70
      have H' := Aside0.mk H
      clear H
      go_wp2_with (first | ((with_reducible refine gate_callee (f := 265) rfl ?_); refine goesL_ (some 31) rfl rfl Try.func265 (by kernel_rfl) rfl #[.slice A0 l0.length c0, .int .i64 x7_1, .int .i64 a1] rfl (by (try simp only [List.map_toArray, List.map_cons, List.map_nil]); first | done | rfl | (simp only [List.length_drop, List.length_take]; rfl)) ?_; (with_reducible refine (spec_rvWays.calls k1 _ _ l0 x7_1 a1 t295 t296 _ ?side1 ?side2 A7.out).mono ?_); (case side1 => repeat (first | exact (Kd.C_below HR0.out HB.out) | (with_reducible refine Kd.C_alloc ?_ _) | (with_reducible refine Kd.C_drewN ?_ _) | (with_reducible refine Kd.C_drew ?_))); (case side2 => exact HC0.out); rintro e w8 ⟨v297, rfl, ho0, hb⟩; refine ⟨_, rfl, ?_⟩; have n0_ := Aside0.mk (Kd.S_lower ho0 (below_size (by repeat (first | (with_reducible first | exact HB.out | apply below_alloc | apply pw_below_drewN | apply below_drew1) | exact HB.out)))); have n1_ := Aside0.mk (below_step (by repeat (first | (with_reducible first | exact HB.out | apply below_alloc | apply pw_below_drewN | apply below_drew1) | exact HB.out)) hb); clear HB; have HO298 := n0_; have HB := n1_; clear n0_ n1_; (try clear hb); (try clear hb2); (try clear hk); (try clear hi); (try clear ho0); obtain ⟨Ao9, co9, eo9⟩ := Kd.S_slice HO298.out; subst eo9))
      go_loopg [6, 36] k1 (fun kq v6 v36 w' => ∃ (x6_2 : Int) (x36_2 : Int), v6 = .int .i64 x6_2 ∧ v36 = .int .i64 x36_2 ∧ Aside0 (spec_CountSources.l1 kq l0 a1 x6_2 x7_1 t295 (t295.length : Int) x36_2 = some (r1, r2)) ∧ Aside0 (kq ≤ k1) ∧ Aside0 (Kd.S (Kd.slice 3 (Kd.int .i64)) 29 w' w.heap.size (fun _ => True) (.slice Ao9 t295.length co9) t295) ∧ Aside0 (Below w.heap.size w w'))
      case atStart => exact ⟨(x6_1), (0), (by first | rfl | (simp; done) | (simp [*]; done)), (by first | rfl | (simp; done) | (simp [*]; done)), H', ⟨Nat.le_refl _⟩, ⟨by (with_reducible repeat (first | apply Kd.S_alloc | apply Kd.S_drewN | apply Kd.S_drew)); exact HO298.out⟩, ⟨by repeat (first | (with_reducible first | exact HB.out | apply below_alloc | apply pw_below_drewN | apply below_drew1) | exact HB.out)⟩⟩
      case round =>
       clear H'
       try clear c2
       try clear p2
       try clear c4
       try clear c5
       try clear c5b0
       try clear c6
       try clear c6b0
       try clear c6b1
       try clear p6
       try clear c9
       try clear p2
       obtain ⟨x6_2, x36_2, rfl, rfl, HA, HK2, HO_34, HB⟩ := hrel
       cases gk with
       | zero => exact absurd HA.out (by simp [spec_CountSources.l1])
       | succ k2 =>
        have H := HA.out
        clear HA
        simp only [spec_CountSources.l1] at H
        by_cases c10 : x36_2 < (t295.length : Int)
        ·rw [if_pos c10] at H
         have c10b0 : decide (x36_2 < (t295.length : Int)) = true := decide_eq_true c10
         clear c10
         by_cases c11 : 0 ≤ x36_2
         ·rw [if_pos c11] at H
          have c11b0 : decide (0 ≤ x36_2) = true := decide_eq_true c11
          clear c11
          by_cases c12 : x36_2 < (t295.length : Int)
          ·rw [if_pos c12] at H
           have c12b0 : decide (x36_2 < (t295.length : Int)) = true := decide_eq_true c12
           clear c12
           replace H := Option.bind_eq_some_iff.mp H
           obtain ⟨t300, A130, H⟩ := H
           replace H : (spec_CountSources.l1 k2 l0 a1 (wrap64 (x6_2 + t300)) x7_1 t295 (t295.length : Int) (wrap64 (x36_2 + 1))) = some (r1, r2) := H
           have A13 := Aside0.mk A130
           clear A130
           have H' := Aside0.mk H
           clear H
           have p299 : 0 ≤ (x36_2 : Int) := of_decide_eq_true (by first | (with_reducible assumption) | assumption)
           have q299 : x36_2 < (t295.length : Int) := of_decide_eq_true (by first | (with_reducible assumption) | assumption)
           obtain ⟨ad299, A299_0, c299_0, e299, hx299_0, hl299_0, hi299_0⟩ := at_L2 (Kd.S_reads' HO_34.out).2.2 x36_2 p299 q299
           cases e299
           obtain ⟨ce299, hce299, hMe299, hcc299⟩ := Kd.S_get HO_34.out [] x36_2 p299 (by first | exact q299 | exact of_decide_eq_true (by first | (with_reducible assumption) | assumption) | (have e_ := (Kd.S_reads' HO_34.out).1; omega))
           obtain ⟨ve299_0, rfl, ge299_0⟩ := hMe299
           have hv299_0 := hcc299 0 _ rfl
           rw [Nat.add_zero, show ((Kd.slice 3 (Kd.int .i64))).sz = 1 from rfl, Nat.mul_one] at hv299_0
           replace hv299_0 := Option.some.inj (hv299_0.symm.trans hx299_0)
           rw [hv299_0] at ge299_0
           have HL299_0 := Aside0.mk (show Kd.R (Kd.int .i64) 3 _ _ _ _ (rd_L2 t295 x36_2) from ge299_0)
           clear hv299_0 ge299_0
           clear hcc299 hce299
           have HR299_0 := Aside0.mk hi299_0
           have HC299_0 := Aside0.mk hl299_0
           clear hi299_0 hl299_0
           replace p299 := eq_true p299
           replace q299 := eq_true q299
           go_wp2_with (first | ((with_reducible refine gate_callee (f := 266) rfl ?_); refine goesL_ (some 43) rfl rfl Try.func266 (by kernel_rfl) rfl #[.slice A299_0 (rd_L2 t295 x36_2).length c299_0, .int .i64 a1] rfl (by (try simp only [List.map_toArray, List.map_cons, List.map_nil]); first | done | rfl | (simp only [List.length_drop, List.length_take]; rfl)) ?_; (with_reducible refine (spec_rvCount.calls k2 _ _ (rd_L2 t295 x36_2) a1 t300 _ ?side1 ?side2 A13.out).mono ?_); (case side1 => repeat (first | exact (by repeat (first | (with_reducible exact HR299_0.out) | (with_reducible refine Kd.C_alloc ?_ _) | (with_reducible refine Kd.C_drewN ?_ _) | (with_reducible refine Kd.C_drew ?_) | exact HR299_0.out)) | (with_reducible refine Kd.C_alloc ?_ _) | (with_reducible refine Kd.C_drewN ?_ _) | (with_reducible refine Kd.C_drew ?_))); (case side2 => exact HC299_0.out); rintro e w' ⟨rfl, ⟨nd, rfl⟩⟩; refine ⟨_, rfl, ?_⟩))
           go_roundg k2
           case measure => have := HK1.out; have := HK2.out; omega
           case rel => exact ⟨(wrap64 (x6_2 + t300)), (wrap64 (x36_2 + 1)), (by first | rfl | (simp; done) | (simp [*]; done)), (by first | rfl | (simp; done) | (simp [*]; done)), H', ⟨by have := HK1.out; have := HK2.out; omega⟩, ⟨by (with_reducible repeat (first | apply Kd.S_alloc | apply Kd.S_drewN | apply Kd.S_drew)); exact HO_34.out⟩, ⟨by repeat (first | (with_reducible first | exact HB.out | apply below_alloc | apply pw_below_drewN | apply below_drew1) | exact HB.out)⟩⟩
          ·rw [if_neg c12] at H
           exact absurd H (by simp)
         ·rw [if_neg c11] at H
          exact absurd H (by simp)
        ·rw [if_neg c10] at H
         have c10b0 : decide (x36_2 < (t295.length : Int)) = false := decide_eq_false c10
         clear c10
         have H' := Aside0.mk H
         clear H
         go_wp2
         go_roundg k2
         case measure => have := HK1.out; have := HK2.out; omega
         case rel => exact ⟨(x6_2), (wrap64 (x7_1 + 1)), (by first | rfl | (simp; done) | (simp [*]; done)), (by first | rfl | (simp; done) | (simp [*]; done)), H', ⟨by have := HK1.out; have := HK2.out; omega⟩, ⟨by repeat (first | (with_reducible first | exact HB.out | apply below_alloc | apply pw_below_drewN | apply below_drew1) | exact HB.out)⟩⟩
    ·rw [if_neg c5] at H
     have c5b0 : decide (x7_1 ≤ (l0.length : Int)) = false := decide_eq_false c5
     clear c5
     simp only [Option.some.injEq, Prod.mk.injEq] at H
     obtain ⟨rfl, rfl⟩ := H
     go_wp2
     go_ret2
     exact ⟨by first | rfl | (simp [errW_none, errW_some] <;> rfl) | (simp [*, errW_none, errW_some] <;> rfl), by repeat (first | (with_reducible first | exact HB.out | apply below_alloc | apply pw_below_drewN | apply below_drew1) | exact HB.out)⟩
 ·replace c4 := Bool.eq_false_iff.mpr c4
  subst c4
  have H1 : (some (0, false)) = some (r1, r2) := by rw [if_neg (show ¬ (false = true) by decide)] at H; exact H
  clear H
  have H := H1
  clear H1
  simp only [Option.some.injEq, Prod.mk.injEq] at H
  obtain ⟨rfl, rfl⟩ := H
  go_enter Try.func96, Try.ntmps96
  go_wp2_with (first | ((with_reducible refine gate_callee (f := 264) rfl ?_); refine goesL_ (some 14) rfl rfl Try.func264 (by kernel_rfl) rfl #[.slice A0 l0.length c0, .int .i64 a1] rfl (by (try simp only [List.map_toArray, List.map_cons, List.map_nil]); first | done | rfl | (simp only [List.length_drop, List.length_take]; rfl)) ?_; (with_reducible refine (spec_rvAsked.calls k _ _ l0 a1 false _ ?side1 ?side2 A3.out).mono ?_); (case side1 => repeat (first | exact HR0.out | (with_reducible refine Kd.C_alloc ?_ _) | (with_reducible refine Kd.C_drewN ?_ _) | (with_reducible refine Kd.C_drew ?_))); (case side2 => exact HC0.out); rintro e w' ⟨rfl, ⟨nd, rfl⟩⟩; refine ⟨_, rfl, ?_⟩))
  go_ret2
  exact ⟨by first | rfl | (simp [errW_none, errW_some] <;> rfl) | (simp [*, errW_none, errW_some] <;> rfl), by repeat (first | (with_reducible first | exact HB.out | apply below_alloc | apply pw_below_drewN | apply below_drew1) | exact HB.out)⟩

/-! ### impl_FirstSource: function 97 -/
def impl_FirstSource.f (k : Nat) (l0 : List Int) (a1 : Int) : Option (List Int × Bool) := (impl_isSourced.f l0 a1).bind fun t => if t = true then (impl_sourcesOf.f k l0 a1 (wrap64 ((l0.length : Int) - 1))).bind fun p => (if p.2 = [] then (impl_sourcesOf.f k l0 a1 (l0.length : Int)).bind fun q => some (q.2, decide (q.2 ≠ [])) else some (p.2, true)) else some ([], false)
theorem impl_FirstSource.mono : ∀ a0 a1 k, LeO (impl_FirstSource.f k a0 a1) (impl_FirstSource.f (k + 1) a0 a1) := by
 intro a0 a1 k
 unfold impl_FirstSource.f
 exact LeO.bind (LeO.refl _) (fun _ => LeO.ite (LeO.bind (impl_sourcesOf.mono _ _ _ _) (fun _ => LeO.ite (LeO.bind (impl_sourcesOf.mono _ _ _ _) (fun _ => LeO.refl _)) (LeO.refl _))) (LeO.refl _))
set_option maxHeartbeats 8000000 in
set_option maxRecDepth 100000 in
theorem impl_FirstSource.calls (k : Nat) (A0 : Option Addr) (c0 : Nat) (l0 : List Int) (a1 : Int) (r1 : List Int) (r2 : Bool) (w : World) (hr0 : Kd.C (Kd.int .i64) w A0 l0.length l0) (hc0 : l0.length ≤ c0) (h : impl_FirstSource.f k l0 a1 = some (r1, r2)) :
  Calls Try.prog 97 #[.slice A0 l0.length c0, .int .i64 a1] w fun e w' => ∃ v0_ : Value, e = .returned (.tuple #[v0_, .bool r2]) ∧ Kd.R (Kd.int .i64) 3 w' w.heap.size (fun _ => True) v0_ r1 ∧ Below w.heap.size w w' := by
 have HR0 := Aside0.mk hr0
 have HC0 := Aside0.mk hc0
 clear hr0 hc0
 have HB := Aside0.mk (Below.refl w.heap.size w)
 unfold impl_FirstSource.f at h
 obtain ⟨t, h0, h⟩ := Option.bind_eq_some_iff.1 h
 have A0_ := Aside0.mk h0
 clear h0
 cases t with
 | false =>
  rw [if_neg (by simp)] at h
  obtain ⟨rfl, rfl⟩ := Prod.mk.inj (Option.some.inj h)
  clear h
  go_enter Try.func97, Try.ntmps97
  go_wp2_with (go_at_call 262; refine (impl_isSourced.calls A0 c0 l0 a1 false _ ?aC ?ac A0_.out).mono ?_; (case aC => (repeat (first | exact HR0.out | (with_reducible refine Kd.C_alloc ?_ _) | (with_reducible refine Kd.C_drewN ?_ _) | (with_reducible refine Kd.C_drew ?_)))); (case ac => exact HC0.out); rintro e w2 ⟨rfl, hb⟩; have n0_ := Aside0.mk (below_step (by repeat (first | (with_reducible first | exact HB.out | apply below_alloc | apply pw_below_drewN | apply below_drew1) | exact HB.out)) hb); have n1_ := Aside0.mk (Kd.C_below HR0.out hb); clear HB HR0 hb; have HB := n0_; have HR0 := n1_; clear n0_ n1_)
  go_ret2
  exact ⟨_, rfl, Kd.R_nil _ _ _ _ _, HB.out⟩
 | true =>
  rw [if_pos rfl] at h
  obtain ⟨⟨n1, F1⟩, h1, h2⟩ := Option.bind_eq_some_iff.1 h
  have A1 := Aside0.mk h1
  clear h1 h
  simp only at h2
  have hqn_ : ∀ W : World, (binOp .eql 29 (.slice none 0 0) (.slice none 0 0)).run Try.prog W = .ok (.bool true) W := fun W => Go.Lib.run_eql_slice_nil W 29 3 none 0 0 0 0 Try.underlying29
  have hqs_ : ∀ (W : World) (x y z c : Nat), (binOp .eql 29 (.slice (some ⟨x, y, none⟩) z c) (.slice none 0 0)).run Try.prog W = .ok (.bool false) W := fun W x y z c => Go.Lib.run_eql_slice_nil W 29 3 (some ⟨x, y, none⟩) z c 0 0 Try.underlying29
  have hnn_ : ∀ W : World, (binOp .neq 29 (.slice none 0 0) (.slice none 0 0)).run Try.prog W = .ok (.bool false) W := fun W => run_neq_slice_nil W 29 3 none 0 0 Try.underlying29
  have hns_ : ∀ (W : World) (x y z c : Nat), (binOp .neq 29 (.slice (some ⟨x, y, none⟩) z c) (.slice none 0 0)).run Try.prog W = .ok (.bool true) W := fun W x y z c => run_neq_slice_nil W 29 3 (some ⟨x, y, none⟩) z c Try.underlying29
  by_cases p1 : F1 = []
  case pos =>
   rw [if_pos p1] at h2
   obtain ⟨⟨n2, F2⟩, h3, h4⟩ := Option.bind_eq_some_iff.1 h2
   have A2 := Aside0.mk h3
   clear h3 h2
   obtain ⟨rfl, rfl⟩ := Prod.mk.inj (Option.some.inj h4)
   clear h4
   by_cases p2 : F2 = []
   case pos =>
    have d2 : decide (F2 ≠ []) = false := decide_eq_false (fun hh => hh p2)
    go_enter Try.func97, Try.ntmps97
    go_wp2_with (first
     | (go_at_call 262; refine (impl_isSourced.calls A0 c0 l0 a1 true _ ?aC ?ac A0_.out).mono ?_; (case aC => (repeat (first | exact HR0.out | (with_reducible refine Kd.C_alloc ?_ _) | (with_reducible refine Kd.C_drewN ?_ _) | (with_reducible refine Kd.C_drew ?_)))); (case ac => exact HC0.out); rintro e w2 ⟨rfl, hb⟩; have n0_ := Aside0.mk (below_step (by repeat (first | (with_reducible first | exact HB.out | apply below_alloc | apply pw_below_drewN | apply below_drew1) | exact HB.out)) hb); have n1_ := Aside0.mk (Kd.C_below HR0.out hb); clear HB HR0 hb; have HB := n0_; have HR0 := n1_; clear n0_ n1_)
     | (go_at_call 263; (with_reducible refine (impl_sourcesOf.calls k A0 c0 l0 a1 (wrap64 ((l0.length : Int) - 1)) n1 F1 _ ?bCA1 ?bcA1 A1.out).mono ?_); (case bCA1 => (repeat (first | exact HR0.out | (with_reducible refine Kd.C_alloc ?_ _) | (with_reducible refine Kd.C_drewN ?_ _) | (with_reducible refine Kd.C_drew ?_)))); (case bcA1 => exact HC0.out); rintro e w3 ⟨g1, Sg1, rfl, hi, hb⟩; obtain ⟨ADg1, cDg1, vsg1, vfg1, HGg1, hgeg1, _, _, _, hFg1, hng1⟩ := hi; clear hgeg1; have ef := hng1 p1; subst ef; clear hFg1 hng1; have hc_g1 : w3.cell? ⟨g1, 5, none⟩ = some (.slice none 0 0) := (blk_cell HGg1 5).trans rfl; clear HGg1; have n0_ := Aside0.mk (below_step (by repeat (first | (with_reducible first | exact HB.out | apply below_alloc | apply pw_below_drewN | apply below_drew1) | exact HB.out)) hb); have n1_ := Aside0.mk (Kd.C_below HR0.out hb); clear HB HR0; have HB := n0_; have HR0 := n1_; clear n0_ n1_ hb)
     | (go_at_call 263; (with_reducible refine (impl_sourcesOf.calls k A0 c0 l0 a1 (l0.length : Int) n2 F2 _ ?bCA2 ?bcA2 A2.out).mono ?_); (case bCA2 => (repeat (first | exact HR0.out | (with_reducible refine Kd.C_alloc ?_ _) | (with_reducible refine Kd.C_drewN ?_ _) | (with_reducible refine Kd.C_drew ?_)))); (case bcA2 => exact HC0.out); rintro e w4 ⟨g2, Sg2, rfl, hi, hb⟩; obtain ⟨ADg2, cDg2, vsg2, vfg2, HGg2, hgeg2, _, _, _, hFg2, hng2⟩ := hi; clear hgeg2; have ef := hng2 p2; subst ef; clear hFg2 hng2; have hc_g2 : w4.cell? ⟨g2, 5, none⟩ = some (.slice none 0 0) := (blk_cell HGg2 5).trans rfl; clear HGg2; have n0_ := Aside0.mk (below_step (by repeat (first | (with_reducible first | exact HB.out | apply below_alloc | apply pw_below_drewN | apply below_drew1) | exact HB.out)) hb); have n1_ := Aside0.mk (Kd.C_below HR0.out hb); clear HB HR0; have HB := n0_; have HR0 := n1_; clear n0_ n1_ hb))
    go_ret2
    rw [d2]
    exact ⟨_, rfl, by rw [p2]; exact Kd.R_nil _ _ _ _ _, HB.out⟩
   case neg =>
    have d2 : decide (F2 ≠ []) = true := decide_eq_true p2
    go_enter Try.func97, Try.ntmps97
    go_wp2_with (first
     | (go_at_call 262; refine (impl_isSourced.calls A0 c0 l0 a1 true _ ?aC ?ac A0_.out).mono ?_; (case aC => (repeat (first | exact HR0.out | (with_reducible refine Kd.C_alloc ?_ _) | (with_reducible refine Kd.C_drewN ?_ _) | (with_reducible refine Kd.C_drew ?_)))); (case ac => exact HC0.out); rintro e w2 ⟨rfl, hb⟩; have n0_ := Aside0.mk (below_step (by repeat (first | (with_reducible first | exact HB.out | apply below_alloc | apply pw_below_drewN | apply below_drew1) | exact HB.out)) hb); have n1_ := Aside0.mk (Kd.C_below HR0.out hb); clear HB HR0 hb; have HB := n0_; have HR0 := n1_; clear n0_ n1_)
     | (go_at_call 263; (with_reducible refine (impl_sourcesOf.calls k A0 c0 l0 a1 (wrap64 ((l0.length : Int) - 1)) n1 F1 _ ?bCA1 ?bcA1 A1.out).mono ?_); (case bCA1 => (repeat (first | exact HR0.out | (with_reducible refine Kd.C_alloc ?_ _) | (with_reducible refine Kd.C_drewN ?_ _) | (with_reducible refine Kd.C_drew ?_)))); (case bcA1 => exact HC0.out); rintro e w3 ⟨g1, Sg1, rfl, hi, hb⟩; obtain ⟨ADg1, cDg1, vsg1, vfg1, HGg1, hgeg1, _, _, _, hFg1, hng1⟩ := hi; clear hgeg1; have ef := hng1 p1; subst ef; clear hFg1 hng1; have hc_g1 : w3.cell? ⟨g1, 5, none⟩ = some (.slice none 0 0) := (blk_cell HGg1 5).trans rfl; clear HGg1; have n0_ := Aside0.mk (below_step (by repeat (first | (with_reducible first | exact HB.out | apply below_alloc | apply pw_below_drewN | apply below_drew1) | exact HB.out)) hb); have n1_ := Aside0.mk (Kd.C_below HR0.out hb); clear HB HR0; have HB := n0_; have HR0 := n1_; clear n0_ n1_ hb)
     | (go_at_call 263; (with_reducible refine (impl_sourcesOf.calls k A0 c0 l0 a1 (l0.length : Int) n2 F2 _ ?bCA2 ?bcA2 A2.out).mono ?_); (case bCA2 => (repeat (first | exact HR0.out | (with_reducible refine Kd.C_alloc ?_ _) | (with_reducible refine Kd.C_drewN ?_ _) | (with_reducible refine Kd.C_drew ?_)))); (case bcA2 => exact HC0.out); rintro e w4 ⟨g2, Sg2, rfl, hi, hb⟩; obtain ⟨ADg2, cDg2, vsg2, vfg2, HGg2, hgeg2, _, _, _, hFg2, hng2⟩ := hi; clear hgeg2; obtain ⟨gf, cf, ef, _⟩ := Kd.R_form hFg2 (List.length_pos_iff.2 p2); subst ef; clear hng2; have HO2 := Aside0.mk (Kd.R_lower (Kd.R_mono hFg2 (fun _ _ => trivial)) (below_size (by repeat (first | (with_reducible first | exact HB.out | apply below_alloc | apply pw_below_drewN | apply below_drew1) | exact HB.out)))); clear hFg2; have hc_g2 : w4.cell? ⟨g2, 5, none⟩ = some (.slice (some ⟨gf, 0, none⟩) F2.length cf) := (blk_cell HGg2 5).trans rfl; clear HGg2; have n0_ := Aside0.mk (below_step (by repeat (first | (with_reducible first | exact HB.out | apply below_alloc | apply pw_below_drewN | apply below_drew1) | exact HB.out)) hb); have n1_ := Aside0.mk (Kd.C_below HR0.out hb); clear HB HR0; have HB := n0_; have HR0 := n1_; clear n0_ n1_ hb))
    go_ret2
    rw [d2]
    exact ⟨_, rfl, HO2.out, HB.out⟩
  case neg =>
   rw [if_neg p1] at h2
   obtain ⟨rfl, rfl⟩ := Prod.mk.inj (Option.some.inj h2)
   clear h2
   go_enter Try.func97, Try.ntmps97
   go_wp2_with (first
    | (go_at_call 262; refine (impl_isSourced.calls A0 c0 l0 a1 true _ ?aC ?ac A0_.out).mono ?_; (case aC => (repeat (first | exact HR0.out | (with_reducible refine Kd.C_alloc ?_ _) | (with_reducible refine Kd.C_drewN ?_ _) | (with_reducible refine Kd.C_drew ?_)))); (case ac => exact HC0.out); rintro e w2 ⟨rfl, hb⟩; have n0_ := Aside0.mk (below_step (by repeat (first | (with_reducible first | exact HB.out | apply below_alloc | apply pw_below_drewN | apply below_drew1) | exact HB.out)) hb); have n1_ := Aside0.mk (Kd.C_below HR0.out hb); clear HB HR0 hb; have HB := n0_; have HR0 := n1_; clear n0_ n1_)
    | (go_at_call 263; (with_reducible refine (impl_sourcesOf.calls k A0 c0 l0 a1 (wrap64 ((l0.length : Int) - 1)) n1 F1 _ ?bCA1 ?bcA1 A1.out).mono ?_); (case bCA1 => (repeat (first | exact HR0.out | (with_reducible refine Kd.C_alloc ?_ _) | (with_reducible refine Kd.C_drewN ?_ _) | (with_reducible refine Kd.C_drew ?_)))); (case bcA1 => exact HC0.out); rintro e w3 ⟨g1, Sg1, rfl, hi, hb⟩; obtain ⟨ADg1, cDg1, vsg1, vfg1, HGg1, hgeg1, _, _, _, hFg1, hng1⟩ := hi; clear hgeg1; obtain ⟨gf, cf, ef, _⟩ := Kd.R_form hFg1 (List.length_pos_iff.2 p1); subst ef; clear hng1; have HO1 := Aside0.mk (Kd.R_lower (Kd.R_mono hFg1 (fun _ _ => trivial)) (below_size (by repeat (first | (with_reducible first | exact HB.out | apply below_alloc | apply pw_below_drewN | apply below_drew1) | exact HB.out)))); clear hFg1; have hc_g1 : w3.cell? ⟨g1, 5, none⟩ = some (.slice (some ⟨gf, 0, none⟩) F1.length cf) := (blk_cell HGg1 5).trans rfl; clear HGg1; have n0_ := Aside0.mk (below_step (by repeat (first | (with_reducible first | exact HB.out | apply below_alloc | apply pw_below_drewN | apply below_drew1) | exact HB.out)) hb); have n1_ := Aside0.mk (Kd.C_below HR0.out hb); clear HB HR0; have HB := n0_; have HR0 := n1_; clear n0_ n1_ hb))
   go_ret2
   exact ⟨_, rfl, HO1.out, HB.out⟩

end Go.Proofs.Ytiheocddlopfcaa.PFnSourcesOfSums
