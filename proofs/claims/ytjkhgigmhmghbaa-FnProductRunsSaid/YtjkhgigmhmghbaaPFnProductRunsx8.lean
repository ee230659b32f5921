-- out of the kit's print, turned by wip/own_print.py
import Derived.Test.YtjkhgigmhmghbaaPFnProductRunsx0
import Derived.Test.YtjkhgigmhmghbaaPFnProductRunsx7
namespace Go.Proofs.Ytjkhgigmhmghbaa.PFnProductRuns
open Go.RowKit Go.Proofs.YtjkhgigmhmghbaaW.PrintWords Go.Proofs.YtjkhgigmhmghbaaW.PrintLast Go.Proofs.YtjkhgigmhmghbaaW.PrintMore
attribute [local go_sem] max2_int min2_int max_two min_two max_three min_three max_four min_four   -- for this text's walks alone
set_option linter.unusedVariables false
set_option linter.unusedSimpArgs false

/-! ### spec_prLists: function 47 -/
mutual
def spec_prLists.l0 : Nat → Int → Int → List Int → List Int → Int → Option (Int)
 | 0, _, _, _, _, _ => none
 | k + 1, x0, x1, x5, x6, x7 => if x7 < (x5.length : Int) then (spec_prLists.l1 k x0 x1 x5 x6 x7 2) else (if 0 ≤ (wrap64 ((x5.length : Int) - 1)) then (if (wrap64 ((x5.length : Int) - 1)) < (x5.length : Int) then (if (rd x5 (wrap64 ((x5.length : Int) - 1))) = x0 then (if (wrap64 ((x5.length : Int) - 1)) < (x6.length : Int) then (some (rd x6 (wrap64 ((x5.length : Int) - 1)))) else (none)) else (some 0)) else (none)) else (none))
def spec_prLists.l1 : Nat → Int → Int → List Int → List Int → Int → Int → Option (Int)
 | 0, _, _, _, _, _, _ => none
 | k + 1, x0, x1, x5, x6, x7, x8 => if x8 < x1 then (if 0 ≤ x7 then (if x7 < (x5.length : Int) then (if (wrap64 ((rd x5 x7) * x8)) = 0 then (none) else (if (Int.tmod x0 (wrap64 ((rd x5 x7) * x8))) = 0 then (spec_prLists.l2 k x0 x1 x5 x6 x7 x8 (wrap64 ((rd x5 x7) * x8)) (wrap64 (x7 + 1))) else (spec_prLists.l1 k x0 x1 x5 x6 x7 (wrap64 (x8 + 1))))) else (none)) else (none)) else (spec_prLists.l0 k x0 x1 x5 x6 (wrap64 (x7 + 1)))
def spec_prLists.j3 : Nat → Int → Int → List Int → List Int → Int → Int → Int → Int → Option (Int)
 | 0, _, _, _, _, _, _, _, _ => none
 | k + 1, x0, x1, x5, x6, x7, x8, x9, x10 => if x10 < (x5.length : Int) then (if 0 ≤ x10 then (spec_prLists.j4 k x0 x1 x5 x6 x7 x8 x9 x10 ((rd x5 x10) == x9)) else (none)) else (spec_prLists.j4 k x0 x1 x5 x6 x7 x8 x9 x10 false)
def spec_prLists.j4 : Nat → Int → Int → List Int → List Int → Int → Int → Int → Int → Bool → Option (Int)
 | 0, _, _, _, _, _, _, _, _, _ => none
 | k + 1, x0, x1, x5, x6, x7, x8, x9, x10, x62 => if x62 = true then (if 0 ≤ x10 then (if x10 < (x6.length : Int) then (if 0 ≤ x7 then (if x7 < (x6.length : Int) then (spec_prLists.l1 k x0 x1 x5 (x6.set (x10 : Int).toNat (wrap64 ((rd x6 x10) + (rd x6 x7)))) x7 (wrap64 (x8 + 1))) else (none)) else (none)) else (none)) else (none)) else ((slices_nextPowerOfTwo.f x5 x10 x9).bind fun t326 => (if 0 ≤ x7 then (if x7 < (x6.length : Int) then ((slices_nextPowerOfTwo.f x6 x10 (rd x6 x7)).bind fun t330 => (spec_prLists.l1 k x0 x1 t326 t330 x7 (wrap64 (x8 + 1)))) else (none)) else (none)))
def spec_prLists.l2 : Nat → Int → Int → List Int → List Int → Int → Int → Int → Int → Option (Int)
 | 0, _, _, _, _, _, _, _, _ => none
 | k + 1, x0, x1, x5, x6, x7, x8, x9, x10 => if x10 < (x5.length : Int) then (if 0 ≤ x10 then (if (rd x5 x10) < x9 then (spec_prLists.l2 k x0 x1 x5 x6 x7 x8 x9 (wrap64 (x10 + 1))) else (spec_prLists.j3 k x0 x1 x5 x6 x7 x8 x9 x10)) else (none)) else (spec_prLists.j3 k x0 x1 x5 x6 x7 x8 x9 x10)
end
def spec_prLists.f (k : Nat) (a0 : Int) (a1 : Int) : Option (Int) := spec_prLists.l0 k a0 a1 (([1] : List Int)) (([1] : List Int)) 0
theorem spec_prLists.mono_l : ∀ k, (∀ y0 y1 y2 y3 y4, LeO (spec_prLists.l0 k y0 y1 y2 y3 y4) (spec_prLists.l0 (k + 1) y0 y1 y2 y3 y4)) ∧ (∀ y0 y1 y2 y3 y4 y5, LeO (spec_prLists.l1 k y0 y1 y2 y3 y4 y5) (spec_prLists.l1 (k + 1) y0 y1 y2 y3 y4 y5)) ∧ (∀ y0 y1 y2 y3 y4 y5 y6 y7, LeO (spec_prLists.j3 k y0 y1 y2 y3 y4 y5 y6 y7) (spec_prLists.j3 (k + 1) y0 y1 y2 y3 y4 y5 y6 y7)) ∧ (∀ y0 y1 y2 y3 y4 y5 y6 y7 y8, LeO (spec_prLists.j4 k y0 y1 y2 y3 y4 y5 y6 y7 y8) (spec_prLists.j4 (k + 1) y0 y1 y2 y3 y4 y5 y6 y7 y8)) ∧ (∀ y0 y1 y2 y3 y4 y5 y6 y7, LeO (spec_prLists.l2 k y0 y1 y2 y3 y4 y5 y6 y7) (spec_prLists.l2 (k + 1) y0 y1 y2 y3 y4 y5 y6 y7))
 | 0 => ⟨fun _ _ _ _ _ r h => by simp [spec_prLists.l0] at h, fun _ _ _ _ _ _ r h => by simp [spec_prLists.l1] at h, fun _ _ _ _ _ _ _ _ r h => by simp [spec_prLists.j3] at h, fun _ _ _ _ _ _ _ _ _ r h => by simp [spec_prLists.j4] at h, fun _ _ _ _ _ _ _ _ r h => by simp [spec_prLists.l2] at h⟩
 | k + 1 => by
  obtain ⟨ih0, ih1, ih2, ih3, ih4⟩ := spec_prLists.mono_l k
  refine ⟨?_, ?_, ?_, ?_, ?_⟩
  ·intro y0 y1 y2 y3 y4
   unfold spec_prLists.l0
   repeat' first
   | (with_reducible exact ih0 _ _ _ _ _)
   | (with_reducible exact ih1 _ _ _ _ _ _)
   | (with_reducible exact ih2 _ _ _ _ _ _ _ _)
   | (with_reducible exact ih3 _ _ _ _ _ _ _ _ _)
   | (with_reducible exact ih4 _ _ _ _ _ _ _ _)
   | (with_reducible exact LeO.refl _)
   | (with_reducible exact LeO.none _)
   | (with_reducible refine LeO.ite ?_ ?_)
   | (with_reducible refine LeO.bind ?_ (fun _ => ?_))
   | exact ih0 _ _ _ _ _
   | exact ih1 _ _ _ _ _ _
   | exact ih2 _ _ _ _ _ _ _ _
   | exact ih3 _ _ _ _ _ _ _ _ _
   | exact ih4 _ _ _ _ _ _ _ _
   | exact LeO.none _
   | refine LeO.ite ?_ ?_
   | refine LeO.bind ?_ (fun _ => ?_)
  ·intro y0 y1 y2 y3 y4 y5
   unfold spec_prLists.l1
   repeat' first
   | (with_reducible exact ih0 _ _ _ _ _)
   | (with_reducible exact ih1 _ _ _ _ _ _)
   | (with_reducible exact ih2 _ _ _ _ _ _ _ _)
   | (with_reducible exact ih3 _ _ _ _ _ _ _ _ _)
   | (with_reducible exact ih4 _ _ _ _ _ _ _ _)
   | (with_reducible exact LeO.refl _)
   | (with_reducible exact LeO.none _)
   | (with_reducible refine LeO.ite ?_ ?_)
   | (with_reducible refine LeO.bind ?_ (fun _ => ?_))
   | exact ih0 _ _ _ _ _
   | exact ih1 _ _ _ _ _ _
   | exact ih2 _ _ _ _ _ _ _ _
   | exact ih3 _ _ _ _ _ _ _ _ _
   | exact ih4 _ _ _ _ _ _ _ _
   | exact LeO.none _
   | refine LeO.ite ?_ ?_
   | refine LeO.bind ?_ (fun _ => ?_)
  ·intro y0 y1 y2 y3 y4 y5 y6 y7
   unfold spec_prLists.j3
   repeat' first
   | (with_reducible exact ih0 _ _ _ _ _)
   | (with_reducible exact ih1 _ _ _ _ _ _)
   | (with_reducible exact ih2 _ _ _ _ _ _ _ _)
   | (with_reducible exact ih3 _ _ _ _ _ _ _ _ _)
   | (with_reducible exact ih4 _ _ _ _ _ _ _ _)
   | (with_reducible exact LeO.refl _)
   | (with_reducible exact LeO.none _)
   | (with_reducible refine LeO.ite ?_ ?_)
   | (with_reducible refine LeO.bind ?_ (fun _ => ?_))
   | exact ih0 _ _ _ _ _
   | exact ih1 _ _ _ _ _ _
   | exact ih2 _ _ _ _ _ _ _ _
   | exact ih3 _ _ _ _ _ _ _ _ _
   | exact ih4 _ _ _ _ _ _ _ _
   | exact LeO.none _
   | refine LeO.ite ?_ ?_
   | refine LeO.bind ?_ (fun _ => ?_)
  ·intro y0 y1 y2 y3 y4 y5 y6 y7 y8
   unfold spec_prLists.j4
   repeat' first
   | (with_reducible exact ih0 _ _ _ _ _)
   | (with_reducible exact ih1 _ _ _ _ _ _)
   | (with_reducible exact ih2 _ _ _ _ _ _ _ _)
   | (with_reducible exact ih3 _ _ _ _ _ _ _ _ _)
   | (with_reducible exact ih4 _ _ _ _ _ _ _ _)
   | (with_reducible exact LeO.refl _)
   | (with_reducible exact LeO.none _)
   | (with_reducible refine LeO.ite ?_ ?_)
   | (with_reducible refine LeO.bind ?_ (fun _ => ?_))
   | exact ih0 _ _ _ _ _
   | exact ih1 _ _ _ _ _ _
   | exact ih2 _ _ _ _ _ _ _ _
   | exact ih3 _ _ _ _ _ _ _ _ _
   | exact ih4 _ _ _ _ _ _ _ _
   | exact LeO.none _
   | refine LeO.ite ?_ ?_
   | refine LeO.bind ?_ (fun _ => ?_)
  ·intro y0 y1 y2 y3 y4 y5 y6 y7
   unfold spec_prLists.l2
   repeat' first
   | (with_reducible exact ih0 _ _ _ _ _)
   | (with_reducible exact ih1 _ _ _ _ _ _)
   | (with_reducible exact ih2 _ _ _ _ _ _ _ _)
   | (with_reducible exact ih3 _ _ _ _ _ _ _ _ _)
   | (with_reducible exact ih4 _ _ _ _ _ _ _ _)
   | (with_reducible exact LeO.refl _)
   | (with_reducible exact LeO.none _)
   | (with_reducible refine LeO.ite ?_ ?_)
   | (with_reducible refine LeO.bind ?_ (fun _ => ?_))
   | exact ih0 _ _ _ _ _
   | exact ih1 _ _ _ _ _ _
   | exact ih2 _ _ _ _ _ _ _ _
   | exact ih3 _ _ _ _ _ _ _ _ _
   | exact ih4 _ _ _ _ _ _ _ _
   | exact LeO.none _
   | refine LeO.ite ?_ ?_
   | refine LeO.bind ?_ (fun _ => ?_)
theorem spec_prLists.mono : ∀ a0 a1 k, LeO (spec_prLists.f k a0 a1) (spec_prLists.f (k + 1) a0 a1) := by
 intro a0 a1 k
 obtain ⟨ih0, ih1, ih2, ih3, ih4⟩ := spec_prLists.mono_l k
 unfold spec_prLists.f
 repeat' first
   | (with_reducible exact ih0 _ _ _ _ _)
   | (with_reducible exact ih1 _ _ _ _ _ _)
   | (with_reducible exact ih2 _ _ _ _ _ _ _ _)
   | (with_reducible exact ih3 _ _ _ _ _ _ _ _ _)
   | (with_reducible exact ih4 _ _ _ _ _ _ _ _)
   | (with_reducible exact LeO.refl _)
   | (with_reducible exact LeO.none _)
   | (with_reducible refine LeO.ite ?_ ?_)
   | (with_reducible refine LeO.bind ?_ (fun _ => ?_))
   | exact ih0 _ _ _ _ _
   | exact ih1 _ _ _ _ _ _
   | exact ih2 _ _ _ _ _ _ _ _
   | exact ih3 _ _ _ _ _ _ _ _ _
   | exact ih4 _ _ _ _ _ _ _ _
   | exact LeO.none _
   | refine LeO.ite ?_ ?_
   | refine LeO.bind ?_ (fun _ => ?_)
def spec_prLists.T14 : Bool × List (List Nat × List Nat) := (true, [([], []), ([], []), ([0, 1], [0, 1]), ([2], [2]), ([], []), ([], []), ([4, 5], [4, 5]), ([6], [6]), ([3, 7], [3, 7]), ([0, 1, 0, 1, 2, 3, 4, 5, 6, 7, 8], [0, 1]), ([9, 8, 0, 1, 2, 3, 4, 5, 6, 7, 8], [8, 9])])
def spec_prLists.B14 : List Nat := [0, 0, 3, 7, 0, 0, 48, 112, 255, 511, 1023]
theorem spec_prLists.tab14 : rtab .any (opsOf Try.f47 14) = spec_prLists.T14 := by kernel_rfl
theorem spec_prLists.bits14 : waitsOk spec_prLists.T14.2 spec_prLists.B14 = true := by kernel_rfl
def spec_prLists.T15 : Bool × List (List Nat × List Nat) := (true, [([], []), ([], []), ([0, 1], [0, 1]), ([2], [2]), ([], []), ([4], [4]), ([3, 5, 3], [3, 5]), ([], []), ([], []), ([7, 8], [7, 8]), ([6, 9, 6], [6, 9]), ([10, 10, 0, 1, 2, 3, 4, 5, 6, 7, 8, 9, 10], [0, 7, 10])])
def spec_prLists.B15 : List Nat := [0, 0, 3, 7, 0, 16, 63, 0, 0, 384, 1023, 2047]
theorem spec_prLists.tab15 : rtab .any (opsOf Try.f47 15) = spec_prLists.T15 := by kernel_rfl
theorem spec_prLists.bits15 : waitsOk spec_prLists.T15.2 spec_prLists.B15 = true := by kernel_rfl
def spec_prLists.T16 : Bool × List (List Nat × List Nat) := (true, [([], []), ([], []), ([0, 1], [0, 1]), ([2], [2]), ([], []), ([], []), ([4, 5], [4, 5]), ([6], [6]), ([7], [7]), ([3, 8, 3], [3, 8]), ([], []), ([], []), ([10, 11], [10, 11]), ([9, 12, 9], [9, 12]), ([13, 13, 0, 1, 2, 3, 4, 5, 6, 7, 8, 9, 10, 11, 12, 13], [0, 4, 10, 13])])
def spec_prLists.B16 : List Nat := [0, 0, 3, 7, 0, 0, 48, 112, 240, 511, 0, 0, 3072, 8191, 16383]
theorem spec_prLists.tab16 : rtab .any (opsOf Try.f47 16) = spec_prLists.T16 := by kernel_rfl
theorem spec_prLists.bits16 : waitsOk spec_prLists.T16.2 spec_prLists.B16 = true := by kernel_rfl
set_option maxHeartbeats 8000000 in
set_option maxRecDepth 100000 in
theorem spec_prLists.calls (k : Nat) (a0 : Int) (a1 : Int) (r : Int) (w : World) (h : spec_prLists.f k a0 a1 = some r) :
  Calls Try.prog 47 #[.int .i64 a0, .int .i64 a1] w fun e w' => e = .returned (.int .i64 r) ∧ Below w.heap.size w w' := by
 have HB := Aside0.mk (Below.refl w.heap.size w)
 have H : (spec_prLists.l0 k a0 a1 (([1] : List Int)) (([1] : List Int)) 0) = some r := h
 clear h
 obtain ⟨y312, hy312⟩ : ∃ y_ : List Int, y_ = (([1] : List Int)) := ⟨_, rfl⟩
 replace H : (spec_prLists.l0 k a0 a1 y312 (([1] : List Int)) 0) = some r := by first | (rw [hy312]; with_reducible exact H) | (have H2_ := (Option.bind_some _ _).symm.trans H; rw [hy312]; with_reducible exact H2_) | (have H2_ := (Option.bind_some _ _).symm.trans H; with_reducible exact H2_) | with_reducible exact H | (rw [hy312]; exact H) | exact H
 have Ny312 := Aside0.mk hy312
 clear hy312
 obtain ⟨y315, hy315⟩ : ∃ y_ : List Int, y_ = (([1] : List Int)) := ⟨_, rfl⟩
 replace H : (spec_prLists.l0 k a0 a1 y312 y315 0) = some r := by first | (rw [hy315]; with_reducible exact H) | (have H2_ := (Option.bind_some _ _).symm.trans H; rw [hy315]; with_reducible exact H2_) | (have H2_ := (Option.bind_some _ _).symm.trans H; with_reducible exact H2_) | with_reducible exact H | (rw [hy315]; exact H) | exact H
 have Ny315 := Aside0.mk hy315
 clear hy315
 have H' := Aside0.mk H
 clear H
 go_enter Try.func47, Try.ntmps47
 go_wp2_with (first | ((with_reducible refine gate_dst (N := 12) rfl ?_); refine Kd.R_lit (Kd.int .i64) _ 3 ?hg (N := 12) ?hd (xs := ([1] : List Int)) (inner := [.int .i64 1]) (ok := fun _ => True) (okp := fun _ => True) ?hr ?hp (fun _ hk => hk) trivial (Below.refl _ _) (Nat.le_refl _) (by simp) ?_; (case hd => rfl); (case hg => rfl); (case hr => first | (go_simp; done) | (go_simp; rfl)); (case hp => exact (Reps.one (show Kd.M (Kd.int .i64) _ _ _ 1 [.int .i64 1] from rfl) (Reps.none _ _))); intro v313 w3 ho4 hb hg_ hnew_; clear hg_ hnew_; (first | rw [← Ny312.out] at ho4 | (simp only [Int.reduceToNat] at ho4; rw [← Ny312.out] at ho4)); have n0_ := Aside0.mk (Kd.R_lower ho4 (below_size (by repeat (first | (with_reducible first | exact HB.out | apply below_alloc | apply pw_below_drewN | apply below_drew1) | exact HB.out)))); have n1_ := Aside0.mk (below_step (by repeat (first | (with_reducible first | exact HB.out | apply below_alloc | apply pw_below_drewN | apply below_drew1) | exact HB.out)) hb); clear HB; have HO314 := n0_; have HB := n1_; clear n0_ n1_; clear hb ho4) | ((with_reducible refine gate_dst (N := 13) rfl ?_); refine Kd.R_lit (Kd.int .i64) _ 3 ?hg (N := 13) ?hd (xs := ([1] : List Int)) (inner := [.int .i64 1]) (ok := fun _ => True) (okp := fun _ => True) ?hr ?hp (fun _ hk => hk) trivial (Below.refl _ _) (Nat.le_refl _) (by simp) ?_; (case hd => rfl); (case hg => rfl); (case hr => first | (go_simp; done) | (go_simp; rfl)); (case hp => exact (Reps.one (show Kd.M (Kd.int .i64) _ _ _ 1 [.int .i64 1] from rfl) (Reps.none _ _))); intro v316 w5 ho6 hb hg_ hnew_; clear hg_ hnew_; (first | rw [← Ny315.out] at ho6 | (simp only [Int.reduceToNat] at ho6; rw [← Ny315.out] at ho6)); have n0_ := Aside0.mk (Kd.R_elder' (by (with_reducible repeat (first | apply Kd.R_alloc | apply Kd.R_drewN | apply Kd.R_drew)); exact HO314.out) (Kd.R_base ho6) hb); have n1_ := Aside0.mk (Kd.R_lower (Kd.R_new' ho6 (Kd.R_lt (by (with_reducible repeat (first | apply Kd.R_alloc | apply Kd.R_drewN | apply Kd.R_drew)); exact HO314.out))) (below_size (by repeat (first | (with_reducible first | exact HB.out | apply below_alloc | apply pw_below_drewN | apply below_drew1) | exact HB.out)))); have n2_ := Aside0.mk (below_step (by repeat (first | (with_reducible first | exact HB.out | apply below_alloc | apply pw_below_drewN | apply below_drew1) | exact HB.out)) hb); clear HO314; clear HB; have HO314 := n0_; have HO317 := n1_; have HB := n2_; clear n0_ n1_ n2_; clear hb ho6))
 go_loopg [5, 6, 7] k (fun kq v5 v6 v7 w' => ∃ (x5_1 : List Int) (x6_1 : List Int) (x7_1 : Int), v7 = .int .i64 x7_1 ∧ Aside0 (spec_prLists.l0 kq a0 a1 x5_1 x6_1 x7_1 = some r) ∧ Aside0 (kq ≤ k) ∧ Aside0 (Kd.R (Kd.int .i64) 3 w' w.heap.size (fun k_ => some k_ ≠ (v6 : Value).ownBlock) v5 x5_1) ∧ Aside0 (Kd.R (Kd.int .i64) 3 w' w.heap.size (fun k_ => some k_ ≠ (v5 : Value).ownBlock) v6 x6_1) ∧ Aside0 (Below w.heap.size w w'))
 case atStart => exact ⟨(y312), (y315), (0), (by first | rfl | (simp; done) | (simp [*]; done)), H', ⟨Nat.le_refl _⟩, ⟨by (with_reducible repeat (first | apply Kd.R_alloc | apply Kd.R_drewN | apply Kd.R_drew)); exact Kd.R_mono HO314.out (fun _ hk => hk.2)⟩, ⟨by (with_reducible repeat (first | apply Kd.R_alloc | apply Kd.R_drewN | apply Kd.R_drew)); exact Kd.R_mono HO317.out (fun _ hk => hk.2)⟩, ⟨by repeat (first | (with_reducible first | exact HB.out | apply below_alloc | apply pw_below_drewN | apply below_drew1) | exact HB.out)⟩⟩
 case round =>
  clear H'
  try clear p2
  try clear c4
  obtain ⟨x5_1, x6_1, x7_1, rfl, HA, HK1, HO_5, HO_6, HB⟩ := hrel
  cases gk with
  | zero => exact absurd HA.out (by simp [spec_prLists.l0])
  | succ k1 =>
   have H := HA.out
   clear HA
   simp only [spec_prLists.l0] at H
   by_cases c7 : x7_1 < (x5_1.length : Int)
   ·rw [if_pos c7] at H
    have c7b0 : decide (x7_1 < (x5_1.length : Int)) = true := decide_eq_true c7
    clear c7
    have H' := Aside0.mk H
    clear H
    obtain ⟨Ao8, co8, eo8⟩ := Kd.R_slice HO_5.out
    subst eo8
    go_wp2
    go_loopg [5, 6, 8] k1 (fun kq v5 v6 v8 w' => ∃ (x5_2 : List Int) (x6_2 : List Int) (x8_2 : Int), v8 = .int .i64 x8_2 ∧ Aside0 (spec_prLists.l1 kq a0 a1 x5_2 x6_2 x7_1 x8_2 = some r) ∧ Aside0 (kq ≤ k1) ∧ Aside0 (Kd.R (Kd.int .i64) 3 w' w.heap.size (fun k_ => some k_ ≠ (v6 : Value).ownBlock) v5 x5_2) ∧ Aside0 (Kd.R (Kd.int .i64) 3 w' w.heap.size (fun k_ => some k_ ≠ (v5 : Value).ownBlock) v6 x6_2) ∧ Aside0 (Below w.heap.size w w'))
    case atStart => exact ⟨(x5_1), (x6_1), (2), (by first | rfl | (simp; done) | (simp [*]; done)), H', ⟨Nat.le_refl _⟩, ⟨by (with_reducible repeat (first | apply Kd.R_alloc | apply Kd.R_drewN | apply Kd.R_drew)); exact HO_5.out⟩, ⟨by (with_reducible repeat (first | apply Kd.R_alloc | apply Kd.R_drewN | apply Kd.R_drew)); exact HO_6.out⟩, ⟨by repeat (first | (with_reducible first | exact HB.out | apply below_alloc | apply pw_below_drewN | apply below_drew1) | exact HB.out)⟩⟩
    case round =>
     clear H'
     try clear p2
     try clear c4
     try clear c7
     try clear c7b0
     try clear p2
     obtain ⟨x5_2, x6_2, x8_2, rfl, HA, HK2, HO_5, HO_6, HB⟩ := hrel
     cases gk with
     | zero => exact absurd HA.out (by simp [spec_prLists.l1])
     | succ k2 =>
      have H := HA.out
      clear HA
      simp only [spec_prLists.l1] at H
      by_cases c9 : x8_2 < a1
      ·rw [if_pos c9] at H
       have c9b0 : decide (x8_2 < a1) = true := decide_eq_true c9
       clear c9
       by_cases c10 : 0 ≤ x7_1
       ·rw [if_pos c10] at H
        have c10b0 : decide (0 ≤ x7_1) = true := decide_eq_true c10
        clear c10
        by_cases c11 : x7_1 < (x5_2.length : Int)
        ·rw [if_pos c11] at H
         have c11b0 : decide (x7_1 < (x5_2.length : Int)) = true := decide_eq_true c11
         clear c11
         by_cases c12 : (wrap64 ((rd x5_2 x7_1) * x8_2)) = 0
         ·rw [if_pos c12] at H
          exact absurd H (by simp)
         ·rw [if_neg c12] at H
          have c12b0 : ((wrap64 ((rd x5_2 x7_1) * x8_2)) == 0) = false := beq_eq_false_iff_ne.mpr c12
          have c12b1 : ((wrap64 ((rd x5_2 x7_1) * x8_2)) != 0) = true := bne_iff_ne.mpr c12
          by_cases c13 : (Int.tmod a0 (wrap64 ((rd x5_2 x7_1) * x8_2))) = 0
          ·rw [if_pos c13] at H
           have c13b0 : ((Int.tmod a0 (wrap64 ((rd x5_2 x7_1) * x8_2))) == 0) = true := beq_iff_eq.mpr c13
           have c13b1 : ((Int.tmod a0 (wrap64 ((rd x5_2 x7_1) * x8_2))) != 0) = false := bne_eq_false_iff_eq.mpr c13
           clear c13
           have HC14 := Aside0.mk H
           clear H
           obtain ⟨Ao15, co15, eo15⟩ := Kd.R_slice HO_5.out
           subst eo15
           have p320 : 0 ≤ (x7_1 : Int) := of_decide_eq_true (by first | (with_reducible assumption) | assumption)
           have q320 : x7_1 < (x5_2.length : Int) := of_decide_eq_true (by first | (with_reducible assumption) | assumption)
           obtain ⟨ad320, e320, hx320_0⟩ := Kd.at_int (Kd.R_reads' HO_5.out).2.2 x7_1 p320 q320
           cases e320
           replace p320 := eq_true p320
           replace q320 := eq_true q320
           go_upto_block 4 with (fail)
           go_cut [10] (fun v10 wc => ∃ (kq : Nat) (x10_13 : Int), v10 = .int .i64 x10_13 ∧ Aside0 (spec_prLists.j3 kq a0 a1 x5_2 x6_2 x7_1 x8_2 (wrap64 ((rd x5_2 x7_1) * x8_2)) x10_13 = some r) ∧ Aside0 (kq ≤ k2) ∧ Aside0 (Kd.R (Kd.int .i64) 3 wc w.heap.size (fun k_ => some k_ ≠ (u6 : Value).ownBlock) (.slice (some ad320) x5_2.length co15) x5_2) ∧ Aside0 (Kd.R (Kd.int .i64) 3 wc w.heap.size (fun k_ => some k_ ≠ ((.slice (some ad320) x5_2.length co15) : Value).ownBlock) u6 x6_2) ∧ Aside0 (Below w.heap.size w wc))
           case first =>
            have H := HC14.out
            clear HC14
            have H' := Aside0.mk H
            clear H
            go_wp2
            go_loopg [10] k2 (fun kq v10 w' => ∃ (x10_3 : Int), v10 = .int .i64 x10_3 ∧ Aside0 (spec_prLists.l2 kq a0 a1 x5_2 x6_2 x7_1 x8_2 (wrap64 ((rd x5_2 x7_1) * x8_2)) x10_3 = some r) ∧ Aside0 (kq ≤ k2) ∧ Aside0 (Kd.R (Kd.int .i64) 3 w' w.heap.size (fun k_ => some k_ ≠ (u6 : Value).ownBlock) (.slice (some ad320) x5_2.length co15) x5_2) ∧ Aside0 (Kd.R (Kd.int .i64) 3 w' w.heap.size (fun k_ => some k_ ≠ ((.slice (some ad320) x5_2.length co15) : Value).ownBlock) u6 x6_2) ∧ Aside0 (Below w.heap.size w w'))
            case atStart => exact ⟨(wrap64 (x7_1 + 1)), (by first | rfl | (simp; done) | (simp [*]; done)), H', ⟨Nat.le_refl _⟩, ⟨by (with_reducible repeat (first | apply Kd.R_alloc | apply Kd.R_drewN | apply Kd.R_drew)); exact HO_5.out⟩, ⟨by (with_reducible repeat (first | apply Kd.R_alloc | apply Kd.R_drewN | apply Kd.R_drew)); exact HO_6.out⟩, ⟨by repeat (first | (with_reducible first | exact HB.out | apply below_alloc | apply pw_below_drewN | apply below_drew1) | exact HB.out)⟩⟩
            case round =>
             clear H'
             try clear c1
             try clear p2
             try clear p3
             try clear q3
             try clear hx3
             try clear c4
             try clear p6
             try clear c7
             try clear c7b0
             try clear c9
             try clear c9b0
             try clear c10
             try clear c10b0
             try clear c11
             try clear c11b0
             try clear c12
             try clear c12b0
             try clear c12b1
             try clear c13
             try clear c13b0
             try clear c13b1
             try clear hx320_0
             try clear p2
             try clear p320
             try clear q320
             obtain ⟨x10_3, rfl, HA, HK3, HO_5, HO_6, HB⟩ := hrel
             cases gk with
             | zero => exact absurd HA.out (by simp [spec_prLists.l2])
             | succ k3 =>
              have H := HA.out
              clear HA
              simp only [spec_prLists.l2] at H
              by_cases c16 : x10_3 < (x5_2.length : Int)
              ·rw [if_pos c16] at H
               have c16b0 : decide (x10_3 < (x5_2.length : Int)) = true := decide_eq_true c16
               clear c16
               (first | rw [c16b0] | (simp only [i64_w, i32_w]; rw [c16b0]) | skip)
               by_cases c17 : 0 ≤ x10_3
               ·rw [if_pos c17] at H
                have c17b0 : decide (0 ≤ x10_3) = true := decide_eq_true c17
                clear c17
                by_cases c18 : (rd x5_2 x10_3) < (wrap64 ((rd x5_2 x7_1) * x8_2))
                ·rw [if_pos c18] at H
                 have c18b0 : decide ((rd x5_2 x10_3) < (wrap64 ((rd x5_2 x7_1) * x8_2))) = true := decide_eq_true c18
                 clear c18
                 have H' := Aside0.mk H
                 clear H
                 have p321 : 0 ≤ (x10_3 : Int) := of_decide_eq_true (by first | (with_reducible assumption) | assumption)
                 have q321 : x10_3 < (x5_2.length : Int) := of_decide_eq_true (by first | (with_reducible assumption) | assumption)
                 obtain ⟨ad321, e321, hx321_0⟩ := Kd.at_int (Kd.R_reads' HO_5.out).2.2 x10_3 p321 q321
                 obtain rfl : ad320 = ad321 := (by injection e321)
                 replace p321 := eq_true p321
                 replace q321 := eq_true q321
                 go_wp2
                 go_roundg k3
                 case measure => have := HK1.out; have := HK2.out; have := HK3.out; omega
                 case rel => exact ⟨(wrap64 (x10_3 + 1)), (by first | rfl | (simp; done) | (simp [*]; done)), H', ⟨by have := HK1.out; have := HK2.out; have := HK3.out; omega⟩, ⟨by (with_reducible repeat (first | apply Kd.R_alloc | apply Kd.R_drewN | apply Kd.R_drew)); exact HO_5.out⟩, ⟨by (with_reducible repeat (first | apply Kd.R_alloc | apply Kd.R_drewN | apply Kd.R_drew)); exact HO_6.out⟩, ⟨by repeat (first | (with_reducible first | exact HB.out | apply below_alloc | apply pw_below_drewN | apply below_drew1) | exact HB.out)⟩⟩
                ·rw [if_neg c18] at H
                 have c18b0 : decide ((rd x5_2 x10_3) < (wrap64 ((rd x5_2 x7_1) * x8_2))) = false := decide_eq_false c18
                 clear c18
                 have H' := Aside0.mk H
                 clear H
                 have p321 : 0 ≤ (x10_3 : Int) := of_decide_eq_true (by first | (with_reducible assumption) | assumption)
                 have q321 : x10_3 < (x5_2.length : Int) := of_decide_eq_true (by first | (with_reducible assumption) | assumption)
                 obtain ⟨ad321, e321, hx321_0⟩ := Kd.at_int (Kd.R_reads' HO_5.out).2.2 x10_3 p321 q321
                 obtain rfl : ad320 = ad321 := (by injection e321)
                 replace p321 := eq_true p321
                 replace q321 := eq_true q321
                 go_wp2
                 go_meet
                 case rel => exact ⟨_, (x10_3), (by first | rfl | (simp; done) | (simp [*]; done)), H', ⟨by have := HK1.out; have := HK2.out; have := HK3.out; first | omega | exact Nat.le_refl _⟩, ⟨by (with_reducible repeat (first | apply Kd.R_alloc | apply Kd.R_drewN | apply Kd.R_drew)); exact HO_5.out⟩, ⟨by (with_reducible repeat (first | apply Kd.R_alloc | apply Kd.R_drewN | apply Kd.R_drew)); exact HO_6.out⟩, ⟨by repeat (first | (with_reducible first | exact HB.out | apply below_alloc | apply pw_below_drewN | apply below_drew1) | exact HB.out)⟩⟩
               ·rw [if_neg c17] at H
                exact absurd H (by simp)
              ·rw [if_neg c16] at H
               have c16b0 : decide (x10_3 < (x5_2.length : Int)) = false := decide_eq_false c16
               clear c16
               (first | rw [c16b0] | (simp only [i64_w, i32_w]; rw [c16b0]) | skip)
               have H' := Aside0.mk H
               clear H
               go_wp2
               go_meet
               case rel => exact ⟨_, (x10_3), (by first | rfl | (simp; done) | (simp [*]; done)), H', ⟨by have := HK1.out; have := HK2.out; have := HK3.out; first | omega | exact Nat.le_refl _⟩, ⟨by (with_reducible repeat (first | apply Kd.R_alloc | apply Kd.R_drewN | apply Kd.R_drew)); exact HO_5.out⟩, ⟨by (with_reducible repeat (first | apply Kd.R_alloc | apply Kd.R_drewN | apply Kd.R_drew)); exact HO_6.out⟩, ⟨by repeat (first | (with_reducible first | exact HB.out | apply below_alloc | apply pw_below_drewN | apply below_drew1) | exact HB.out)⟩⟩
           case rest =>
            clear HC14
            try clear c1
            try clear p2
            try clear p3
            try clear q3
            try clear hx3
            try clear c4
            try clear p6
            try clear c7
            try clear c7b0
            try clear c9
            try clear c9b0
            try clear c10
            try clear c10b0
            try clear c11
            try clear c11b0
            try clear c12
            try clear c12b0
            try clear c12b1
            try clear c13
            try clear c13b0
            try clear c13b1
            try clear c16
            try clear c16b0
            try clear c17
            try clear c17b0
            try clear c18
            try clear c18b0
            try clear hx320_0
            try clear hx321_0
            try clear p2
            try clear p3
            try clear p320
            try clear p321
            try clear p6
            try clear q3
            try clear q320
            try clear q321
            obtain ⟨kq, x10_13, rfl, HA, HJ13, HO_5, HO_6, HB⟩ := hcut
            cases kq with
            | zero => exact absurd HA.out (by simp [spec_prLists.j3])
            | succ kj13 =>
             have H := HA.out
             clear HA
             simp only [spec_prLists.j3] at H
             have HC19 := Aside0.mk H
             clear H
             go_upto_region 13 with (fail)
             go_cut [62] (fun v62 wc => ∃ (kq : Nat) (x62_18 : Bool), v62 = .bool x62_18 ∧ Aside0 (spec_prLists.j4 kq a0 a1 x5_2 x6_2 x7_1 x8_2 (wrap64 ((rd x5_2 x7_1) * x8_2)) x10_13 x62_18 = some r) ∧ Aside0 (kq ≤ kj13) ∧ Aside0 (Kd.R (Kd.int .i64) 3 wc w.heap.size (fun k_ => some k_ ≠ (u6 : Value).ownBlock) (.slice (some ad320) x5_2.length co15) x5_2) ∧ Aside0 (Kd.R (Kd.int .i64) 3 wc w.heap.size (fun k_ => some k_ ≠ ((.slice (some ad320) x5_2.length co15) : Value).ownBlock) u6 x6_2) ∧ Aside0 (Below w.heap.size w wc))
             case first =>
              have H := HC19.out
              clear HC19
              by_cases c20 : x10_13 < (x5_2.length : Int)
              ·rw [if_pos c20] at H
               have c20b0 : decide (x10_13 < (x5_2.length : Int)) = true := decide_eq_true c20
               clear c20
               (first | rw [c20b0] | (simp only [i64_w, i32_w]; rw [c20b0]) | skip)
               by_cases c21 : 0 ≤ x10_13
               ·rw [if_pos c21] at H
                have c21b0 : decide (0 ≤ x10_13) = true := decide_eq_true c21
                clear c21
                have H' := Aside0.mk H
                clear H
                have p322 : 0 ≤ (x10_13 : Int) := of_decide_eq_true (by first | (with_reducible assumption) | assumption)
                have q322 : x10_13 < (x5_2.length : Int) := of_decide_eq_true (by first | (with_reducible assumption) | assumption)
                obtain ⟨ad322, e322, hx322_0⟩ := Kd.at_int (Kd.R_reads' HO_5.out).2.2 x10_13 p322 q322
                obtain rfl : ad320 = ad322 := (by injection e322)
                replace p322 := eq_true p322
                replace q322 := eq_true q322
                go_wp2
                go_meet
                case rel => exact ⟨_, (((rd x5_2 x10_13) == (wrap64 ((rd x5_2 x7_1) * x8_2)))), (by first | rfl | (simp; done) | (simp [*]; done)), H', ⟨by have := HK1.out; have := HK2.out; have := HJ13.out; first | omega | exact Nat.le_refl _⟩, ⟨by (with_reducible repeat (first | apply Kd.R_alloc | apply Kd.R_drewN | apply Kd.R_drew)); exact HO_5.out⟩, ⟨by (with_reducible repeat (first | apply Kd.R_alloc | apply Kd.R_drewN | apply Kd.R_drew)); exact HO_6.out⟩, ⟨by repeat (first | (with_reducible first | exact HB.out | apply below_alloc | apply pw_below_drewN | apply below_drew1) | exact HB.out)⟩⟩
               ·rw [if_neg c21] at H
                exact absurd H (by simp)
              ·rw [if_neg c20] at H
               have c20b0 : decide (x10_13 < (x5_2.length : Int)) = false := decide_eq_false c20
               clear c20
               (first | rw [c20b0] | (simp only [i64_w, i32_w]; rw [c20b0]) | skip)
               have H' := Aside0.mk H
               clear H
               go_wp2
               go_meet
               case rel => exact ⟨_, (false), (by first | rfl | (simp; done) | (simp [*]; done)), H', ⟨by have := HK1.out; have := HK2.out; have := HJ13.out; first | omega | exact Nat.le_refl _⟩, ⟨by (with_reducible repeat (first | apply Kd.R_alloc | apply Kd.R_drewN | apply Kd.R_drew)); exact HO_5.out⟩, ⟨by (with_reducible repeat (first | apply Kd.R_alloc | apply Kd.R_drewN | apply Kd.R_drew)); exact HO_6.out⟩, ⟨by repeat (first | (with_reducible first | exact HB.out | apply below_alloc | apply pw_below_drewN | apply below_drew1) | exact HB.out)⟩⟩
             case rest =>
              clear HC19
              try clear c1
              try clear c2
              try clear p2
              try clear p3
              try clear q3
              try clear hx3
              try clear c4
              try clear p6
              try clear c7
              try clear c7b0
              try clear c9
              try clear c9b0
              try clear c10
              try clear c10b0
              try clear c11
              try clear c11b0
              try clear c12
              try clear c12b0
              try clear c12b1
              try clear c13
              try clear c13b0
              try clear c13b1
              try clear c16
              try clear c16b0
              try clear c17
              try clear c17b0
              try clear c18
              try clear c18b0
              try clear c20
              try clear c20b0
              try clear c21
              try clear c21b0
              try clear hx320_0
              try clear hx321_0
              try clear hx322_0
              try clear p2
              try clear p3
              try clear p320
              try clear p321
              try clear p322
              try clear p6
              try clear q3
              try clear q320
              try clear q321
              try clear q322
              obtain ⟨kq, x62_18, rfl, HA, HJ18, HO_5, HO_6, HB⟩ := hcut
              cases kq with
              | zero => exact absurd HA.out (by simp [spec_prLists.j4])
              | succ kj18 =>
               have H := HA.out
               clear HA
               simp only [spec_prLists.j4] at H
               by_cases c22 : x62_18 = true
               ·subst c22
                have H1 : (if 0 ≤ x10_13 then (if x10_13 < (x6_2.length : Int) then (if 0 ≤ x7_1 then (if x7_1 < (x6_2.length : Int) then (spec_prLists.l1 kj18 a0 a1 x5_2 (x6_2.set (x10_13 : Int).toNat (wrap64 ((rd x6_2 x10_13) + (rd x6_2 x7_1)))) x7_1 (wrap64 (x8_2 + 1))) else (none)) else (none)) else (none)) else (none)) = some r := by rw [if_pos rfl] at H; exact H
                clear H
                have H := H1
                clear H1
                by_cases c23 : 0 ≤ x10_13
                ·rw [if_pos c23] at H
                 have c23b0 : decide (0 ≤ x10_13) = true := decide_eq_true c23
                 clear c23
                 by_cases c24 : x10_13 < (x6_2.length : Int)
                 ·rw [if_pos c24] at H
                  have c24b0 : decide (x10_13 < (x6_2.length : Int)) = true := decide_eq_true c24
                  clear c24
                  by_cases c25 : 0 ≤ x7_1
                  ·rw [if_pos c25] at H
                   have c25b0 : decide (0 ≤ x7_1) = true := decide_eq_true c25
                   clear c25
                   by_cases c26 : x7_1 < (x6_2.length : Int)
                   ·rw [if_pos c26] at H
                    have c26b0 : decide (x7_1 < (x6_2.length : Int)) = true := decide_eq_true c26
                    clear c26
                    obtain ⟨y325, hy325⟩ : ∃ y_ : List Int, y_ = (x6_2.set (x10_13 : Int).toNat (wrap64 ((rd x6_2 x10_13) + (rd x6_2 x7_1)))) := ⟨_, rfl⟩
                    replace H : (spec_prLists.l1 kj18 a0 a1 x5_2 y325 x7_1 (wrap64 (x8_2 + 1))) = some r := by first | (rw [hy325]; with_reducible exact H) | (have H2_ := (Option.bind_some _ _).symm.trans H; rw [hy325]; with_reducible exact H2_) | (have H2_ := (Option.bind_some _ _).symm.trans H; with_reducible exact H2_) | with_reducible exact H | (rw [hy325]; exact H) | exact H
                    have Ny325 := Aside0.mk hy325
                    clear hy325
                    have H' := Aside0.mk H
                    clear H
                    try go_wp2
                    have n0_ := Aside0.mk (Kd.R_drew HO_5.out)
                    have n1_ := Aside0.mk (Kd.R_drew HO_6.out)
                    have n2_ := Aside0.mk (below_drew1 HB.out)
                    clear HO_5
                    clear HO_6
                    clear HB
                    have HO_5 := n0_
                    have HO_6 := n1_
                    have HB := n2_
                    clear n0_ n1_ n2_
                    obtain ⟨Ao29, co29, eo29⟩ := Kd.R_slice HO_6.out
                    (first | subst eo29 | (injection eo29 with f1_ f2_ f3_; have f4_ := f1_.symm; have f5_ := f3_.symm; clear f1_ f2_ f3_; subst f4_; subst f5_))
                    have p323 : 0 ≤ (x10_13 : Int) := of_decide_eq_true (by first | (with_reducible assumption) | assumption)
                    have q323 : x10_13 < (x6_2.length : Int) := of_decide_eq_true (by first | (with_reducible assumption) | assumption)
                    obtain ⟨ad323, e323, hx323_0⟩ := Kd.at_int (Kd.R_reads' HO_6.out).2.2 x10_13 p323 q323
                    cases e323
                    replace p323 := eq_true p323
                    replace q323 := eq_true q323
                    have p324 : 0 ≤ (x7_1 : Int) := of_decide_eq_true (by first | (with_reducible assumption) | assumption)
                    have q324 : x7_1 < (x6_2.length : Int) := of_decide_eq_true (by first | (with_reducible assumption) | assumption)
                    obtain ⟨ad324, e324, hx324_0⟩ := Kd.at_int (Kd.R_reads' HO_6.out).2.2 x7_1 p324 q324
                    obtain rfl : ad323 = ad324 := (by injection e324)
                    replace p324 := eq_true p324
                    replace q324 := eq_true q324
                    have p27 : 0 ≤ (x10_13 : Int) := of_decide_eq_true (by first | (with_reducible assumption) | assumption)
                    have q27 : (x10_13 : Int) < ((x6_2.length : Int) : Int) := of_decide_eq_true (by first | (with_reducible assumption) | assumption)
                    obtain ⟨go27, co27, eo27, gb27, gl27, cl27, HG27⟩ := Kd.R_form HO_6.out (by omega)
                    (first | cases eo27 | (injection eo27 with ea_ en_ ec_; (first | subst ea_ | (injection ea_ with ea_; subst ea_)); subst ec_; clear en_))
                    have GB27 := Aside0.mk gb27
                    have GG27 := Aside0.mk HG27
                    clear gb27 gl27 HG27
                    (first | simp only [add_plain] at hx323_0 | skip)
                    (first | simp only [add_plain] at hx324_0 | skip)
                    obtain ⟨hx27_0, hf27_0⟩ := Kd.R_celln 0 HO_6.out (x10_13 : Int) p27 q27
                    replace p27 := eq_true p27
                    replace q27 := eq_true q27
                    have HP30 := Kd.R_putn HO_6.out (x10_13 : Int) (wrap64 ((rd x6_2 x10_13) + (rd x6_2 x7_1)))
                    rw [← Ny325.out] at HP30
                    have HQ30 := Aside0.mk HP30
                    clear HP30
                    refine start_ (n := 11) (S := fun w' => w'.cell? ⟨go27, (x10_13).toNat, none⟩ = some (.int .i64 (rd x6_2 x10_13)) ∧ w'.cell? ⟨go27, (x7_1).toNat, none⟩ = some (.int .i64 (rd x6_2 x7_1))) (ds := [10]) #[false, false, false, false, false, false, false, false, false, false, false] (by kernel_rfl) rfl rfl ⟨hx323_0, hx324_0⟩ (fun hHeld => ?_); refine with_tabW spec_prLists.tab14 spec_prLists.bits14 (fun HT_ HW_ => ?_)
                    generalize wc.drew = w28 at HO_5 HO_6 HB GG27 HQ30 hf27_0 hx27_0 hx323_0 hx324_0 hHeld ⊢
                    refine pure_ (i := 0) (N := some 63) (v := ?_) (a' := ?_) #[true, false, false, false, false, false, false, false, false, false, false] rfl rfl (any_of HT_.out (by kernel_rfl)) (fun _ _ _ h => h) (Or.inl ⟨by rfl, ?_⟩) ?_ ?_
                    rotate_left
                    ·intro w'
                     go_simp
                     with_reducible rfl
                    rotate_left
                    ·simp only [Act.put, List.setIfInBounds_toArray, List.set_cons_zero, List.set_cons_succ, i64_w, i32_w]
                     rfl
                    refine pure_ (i := 1) (N := some 64) (v := ?_) (a' := ?_) #[true, true, false, false, false, false, false, false, false, false, false] rfl rfl (any_of HT_.out (by kernel_rfl)) (fun _ _ _ h => h) (Or.inl ⟨by rfl, ?_⟩) ?_ ?_
                    rotate_left
                    ·intro w'
                     go_simp
                     with_reducible rfl
                    rotate_left
                    ·simp only [Act.put, List.setIfInBounds_toArray, List.set_cons_zero, List.set_cons_succ, i64_w, i32_w]
                     rfl
                    refine pure_ (i := 2) (N := some 65) (v := ?_) (a' := ?_) #[true, true, true, false, false, false, false, false, false, false, false] rfl rfl (any_of HT_.out (by kernel_rfl)) (fun _ _ _ h => h) (Or.inl ⟨by rfl, ?_⟩) ?_ ?_
                    rotate_left
                    ·intro w'
                     go_simp
                     with_reducible rfl
                    rotate_left
                    ·simp only [Act.put, List.setIfInBounds_toArray, List.set_cons_zero, List.set_cons_succ, i64_w, i32_w]
                     rfl
                    refine pure_ (i := 4) (N := some 67) (v := ?_) (a' := ?_) #[true, true, true, false, true, false, false, false, false, false, false] rfl rfl (any_of HT_.out (by kernel_rfl)) (fun _ _ _ h => h) (Or.inl ⟨by rfl, ?_⟩) ?_ ?_
                    rotate_left
                    ·intro w'
                     go_simp
                     with_reducible rfl
                    rotate_left
                    ·simp only [Act.put, List.setIfInBounds_toArray, List.set_cons_zero, List.set_cons_succ, i64_w, i32_w]
                     rfl
                    refine pure_ (i := 5) (N := some 68) (v := ?_) (a' := ?_) #[true, true, true, false, true, true, false, false, false, false, false] rfl rfl (any_of HT_.out (by kernel_rfl)) (fun _ _ _ h => h) (Or.inl ⟨by rfl, ?_⟩) ?_ ?_
                    rotate_left
                    ·intro w'
                     go_simp
                     with_reducible rfl
                    rotate_left
                    ·simp only [Act.put, List.setIfInBounds_toArray, List.set_cons_zero, List.set_cons_succ, i64_w, i32_w]
                     rfl
                    refine pure_ (i := 6) (N := some 69) (v := ?_) (a' := ?_) #[true, true, true, false, true, true, true, false, false, false, false] rfl rfl (any_of HT_.out (by kernel_rfl)) (fun _ _ _ h => h) (Or.inl ⟨by rfl, ?_⟩) ?_ ?_
                    rotate_left
                    ·intro w'
                     go_simp
                     with_reducible rfl
                    rotate_left
                    ·simp only [Act.put, List.setIfInBounds_toArray, List.set_cons_zero, List.set_cons_succ, i64_w, i32_w]
                     rfl
                    refine take_ (i := 3) (N := some 66) (v := ?_) (a' := ?_) #[true, true, true, true, true, true, true, false, false, false, false] rfl rfl (take_ofW HT_.out HW_.out (by kernel_rfl)) (fun _ _ _ h => h) (Or.inl ⟨by rfl, ?_⟩) hHeld ?_ ?_
                    rotate_left
                    ·rintro w' ⟨s0, s1⟩
                     go_simp
                     with_reducible rfl
                    rotate_left
                    ·simp only [Act.put, List.setIfInBounds_toArray, List.set_cons_zero, List.set_cons_succ, i64_w, i32_w]
                     rfl
                    refine take_ (i := 7) (N := some 70) (v := ?_) (a' := ?_) #[true, true, true, true, true, true, true, true, false, false, false] rfl rfl (take_ofW HT_.out HW_.out (by kernel_rfl)) (fun _ _ _ h => h) (Or.inl ⟨by rfl, ?_⟩) hHeld ?_ ?_
                    rotate_left
                    ·rintro w' ⟨s0, s1⟩
                     go_simp
                     with_reducible rfl
                    rotate_left
                    ·simp only [Act.put, List.setIfInBounds_toArray, List.set_cons_zero, List.set_cons_succ, i64_w, i32_w]
                     rfl
                    refine pure_ (i := 8) (N := some 71) (v := ?_) (a' := ?_) #[true, true, true, true, true, true, true, true, true, false, false] rfl rfl (any_of HT_.out (by kernel_rfl)) (fun _ _ _ h => h) (Or.inl ⟨by rfl, ?_⟩) ?_ ?_
                    rotate_left
                    ·intro w'
                     go_simp
                     with_reducible rfl
                    rotate_left
                    ·simp only [Act.put, List.setIfInBounds_toArray, List.set_cons_zero, List.set_cons_succ, i64_w, i32_w]
                     rfl
                    refine pure_ (i := 9) (N := some 72) (v := ?_) (a' := ?_) #[true, true, true, true, true, true, true, true, true, true, false] rfl rfl (any_of HT_.out (by kernel_rfl)) (fun _ _ _ h => h) (Or.inl ⟨by rfl, ?_⟩) ?_ ?_
                    rotate_left
                    ·intro w'
                     go_simp
                     with_reducible rfl
                    rotate_left
                    ·simp only [Act.put, List.setIfInBounds_toArray, List.set_cons_zero, List.set_cons_succ, i64_w, i32_w]
                     rfl
                    refine last_ (i := 10) (N := none) #[true, true, true, true, true, true, true, true, true, true, true] rfl rfl (one_of HT_.out (by kernel_rfl)) (by decide) (fun K hK => ?_)
                    refine skip_ (w1 := ?_) (by rfl) rfl ?_ ?_
                    rotate_left
                    ·go_simp
                     rfl
                    refine hK.out _ _ ?_
                    clear hK K
                    refine done_ (done_of HT_.out (by kernel_rfl)) ?_
                    try go_wp2
                    go_roundg kj18
                    case measure => have := HK1.out; have := HK2.out; have := HJ13.out; have := HJ18.out; omega
                    case rel => exact ⟨(x5_2), (y325), (wrap64 (x8_2 + 1)), (by first | rfl | (simp; done) | (simp [*]; done)), H', ⟨by have := HK1.out; have := HK2.out; have := HJ13.out; have := HJ18.out; omega⟩, ⟨by (with_reducible repeat (first | apply Kd.R_alloc | apply Kd.R_drewN | apply Kd.R_drew)); exact Kd.R_mono (Kd.R_far (p := ⟨go27, (x10_13 : Int).toNat, none⟩) (Kd.R_mono HO_5.out (fun k_ hk => (⟨hk, fun e_ => hk (by rw [e_]; rfl)⟩ : _ ∧ k_ ≠ go27))) (fun _ hk => hk.2) (.int .i64 (wrap64 ((rd x6_2 x10_13) + (rd x6_2 x7_1))))) (fun _ hk => hk.1)⟩, ⟨by (with_reducible repeat (first | apply Kd.R_alloc | apply Kd.R_drewN | apply Kd.R_drew)); exact HQ30.out⟩, ⟨by repeat (first | (with_reducible first | exact HB.out | apply below_alloc | apply pw_below_drewN | apply below_drew1 | refine below_set ?_ GB27.out) | exact HB.out)⟩⟩
                   ·rw [if_neg c26] at H
                    exact absurd H (by simp)
                  ·rw [if_neg c25] at H
                   exact absurd H (by simp)
                 ·rw [if_neg c24] at H
                  exact absurd H (by simp)
                ·rw [if_neg c23] at H
                 exact absurd H (by simp)
               ·replace c22 := Bool.eq_false_iff.mpr c22
                subst c22
                have H1 : ((slices_nextPowerOfTwo.f x5_2 x10_13 (wrap64 ((rd x5_2 x7_1) * x8_2))).bind fun t326 => (if 0 ≤ x7_1 then (if x7_1 < (x6_2.length : Int) then ((slices_nextPowerOfTwo.f x6_2 x10_13 (rd x6_2 x7_1)).bind fun t330 => (spec_prLists.l1 kj18 a0 a1 t326 t330 x7_1 (wrap64 (x8_2 + 1)))) else (none)) else (none))) = some r := by rw [if_neg (show ¬ (false = true) by decide)] at H; exact H
                clear H
                have H := H1
                clear H1
                replace H := Option.bind_eq_some_iff.mp H
                obtain ⟨t326, A310, H⟩ := H
                replace H : (if 0 ≤ x7_1 then (if x7_1 < (x6_2.length : Int) then ((slices_nextPowerOfTwo.f x6_2 x10_13 (rd x6_2 x7_1)).bind fun t330 => (spec_prLists.l1 kj18 a0 a1 t326 t330 x7_1 (wrap64 (x8_2 + 1)))) else (none)) else (none)) = some r := H
                have A31 := Aside0.mk A310
                clear A310
                by_cases c32 : 0 ≤ x7_1
                ·rw [if_pos c32] at H
                 have c32b0 : decide (0 ≤ x7_1) = true := decide_eq_true c32
                 clear c32
                 by_cases c33 : x7_1 < (x6_2.length : Int)
                 ·rw [if_pos c33] at H
                  have c33b0 : decide (x7_1 < (x6_2.length : Int)) = true := decide_eq_true c33
                  clear c33
                  replace H := Option.bind_eq_some_iff.mp H
                  obtain ⟨t330, A340, H⟩ := H
                  replace H : (spec_prLists.l1 kj18 a0 a1 t326 t330 x7_1 (wrap64 (x8_2 + 1))) = some r := H
                  have A34 := Aside0.mk A340
                  clear A340
                  have H' := Aside0.mk H
                  clear H
                  try go_wp2
                  have n0_ := Aside0.mk (Kd.R_drew HO_5.out)
                  have n1_ := Aside0.mk (Kd.R_drew HO_6.out)
                  have n2_ := Aside0.mk (below_drew1 HB.out)
                  clear HO_5
                  clear HO_6
                  clear HB
                  have HO_5 := n0_
                  have HO_6 := n1_
                  have HB := n2_
                  clear n0_ n1_ n2_
                  refine start_ (n := 12) (S := fun w' => True) (ds := []) #[false, false, false, false, false, false, false, false, false, false, false, false] (by kernel_rfl) rfl rfl trivial (fun hHeld => ?_); refine with_tabW spec_prLists.tab15 spec_prLists.bits15 (fun HT_ HW_ => ?_)
                  generalize wc.drew = w35 at HO_5 HO_6 HB hHeld ⊢
                  obtain ⟨p0_, pl_, lm_, et_, ow_⟩ := slices_nextPowerOfTwo.parts A31.out
                  have OW_ := Aside0.mk ow_
                  have ET_ := Aside0.mk et_
                  clear et_ ow_
                  have hC0_ : Kd.C (Kd.int .i64) _ (some ad320) x5_2.length x5_2 := (Kd.R_reads' HO_5.out).2.2
                  have hcc_ : x5_2.length ≤ co15 := (Kd.R_reads' HO_5.out).2.1
                  obtain ⟨i0_, hi0_, _, hs0_, _⟩ := info_parts info3
                  have cutT := cut_to (P := Try.prog) 26 3 .i64 Try.underlying26 hi0_ (some ad320) x5_2.length co15 x10_13 p0_ pl_ hcc_
                  have cutF := cut_from (P := Try.prog) 26 3 .i64 Try.underlying26 hi0_ 1 hs0_ (some ad320) x5_2.length co15 x10_13 p0_ pl_
                  obtain ⟨a2_, ea2_, ht_⟩ := slices_nextPowerOfTwo.tail (p := (x10_13 : Int).toNat) hC0_ (by omega) hcc_
                  rw [ea2_] at cutF
                  obtain ⟨lt_, elt_⟩ : ∃ y_ : List Int, y_ = x5_2.take (x10_13 : Int).toNat := ⟨_, rfl⟩
                  obtain ⟨ld_, eld_⟩ : ∃ y_ : List Int, y_ = x5_2.drop (x10_13 : Int).toNat := ⟨_, rfl⟩
                  have hlt_ : lt_.length = (x10_13 : Int).toNat := by rw [elt_, List.length_take]; omega
                  have hld_ : ld_.length = x5_2.length - (x10_13 : Int).toNat := by rw [eld_, List.length_drop]
                  have hrt_ := Kd.C_take (m := (x10_13 : Int).toNat) hC0_ (by omega)
                  rw [← elt_] at hrt_
                  rw [← hlt_] at cutT
                  rw [← hld_] at cutF
                  rw [← eld_] at ht_
                  replace OW_ := Aside0.mk (show spec_l1Own.f lt_ = some lt_ by have h_ := OW_.out; rw [← elt_] at h_; exact h_)
                  replace ET_ := Aside0.mk (show t326 = lt_ ++ [(wrap64 ((rd x5_2 x7_1) * x8_2))] ++ ld_ by rw [elt_, eld_]; exact ET_.out)
                  have LM_ := Aside0.mk (show lt_.length + 1 + ld_.length < 1000000000002 by omega)
                  have HRT_ := Aside0.mk hrt_
                  have HTL_ := Aside0.mk ht_
                  have HLC_ := Aside0.mk (show lt_.length ≤ co15 by omega)
                  clear hrt_ ht_ hi0_ hs0_ ea2_ hlt_ hld_ elt_ eld_ p0_ pl_ lm_ hC0_ hcc_
                  refine pure_ (i := 0) (N := some 73) (v := ?_) (a' := ?_) #[true, false, false, false, false, false, false, false, false, false, false, false] rfl rfl (any_of HT_.out (by kernel_rfl)) (fun _ _ _ h => h) (Or.inl ⟨by rfl, ?_⟩) ?_ ?_
                  rotate_left
                  ·intro w'
                   go_simp
                   with_reducible rfl
                  rotate_left
                  ·simp only [Act.put, List.setIfInBounds_toArray, List.set_cons_zero, List.set_cons_succ, i64_w, i32_w]
                   rfl
                  refine pure_ (i := 1) (N := some 74) (v := ?_) (a' := ?_) #[true, true, false, false, false, false, false, false, false, false, false, false] rfl rfl (any_of HT_.out (by kernel_rfl)) (fun _ _ _ h => h) (Or.inl ⟨by rfl, ?_⟩) ?_ ?_
                  rotate_left
                  ·intro w'
                   go_simp
                   with_reducible rfl
                  rotate_left
                  ·simp only [Act.put, List.setIfInBounds_toArray, List.set_cons_zero, List.set_cons_succ, i64_w, i32_w]
                   rfl
                  refine pure_ (i := 2) (N := some 75) (v := ?_) (a' := ?_) #[true, true, true, false, false, false, false, false, false, false, false, false] rfl rfl (any_of HT_.out (by kernel_rfl)) (fun _ _ _ h => h) (Or.inl ⟨by rfl, ?_⟩) ?_ ?_
                  rotate_left
                  ·intro w'
                   go_simp
                   with_reducible rfl
                  rotate_left
                  ·simp only [Act.put, List.setIfInBounds_toArray, List.set_cons_zero, List.set_cons_succ, i64_w, i32_w]
                   rfl
                  refine pure_ (i := 4) (N := some 77) (v := ?_) (a' := ?_) #[true, true, true, false, true, false, false, false, false, false, false, false] rfl rfl (any_of HT_.out (by kernel_rfl)) (fun _ _ _ h => h) (Or.inl ⟨by rfl, ?_⟩) ?_ ?_
                  rotate_left
                  ·intro w'
                   go_simp
                   with_reducible rfl
                  rotate_left
                  ·simp only [Act.put, List.setIfInBounds_toArray, List.set_cons_zero, List.set_cons_succ, i64_w, i32_w]
                   rfl
                  refine pure_ (i := 7) (N := some 80) (v := ?_) (a' := ?_) #[true, true, true, false, true, false, false, true, false, false, false, false] rfl rfl (any_of HT_.out (by kernel_rfl)) (fun _ _ _ h => h) (Or.inl ⟨by rfl, ?_⟩) ?_ ?_
                  rotate_left
                  ·intro w'
                   go_simp
                   with_reducible rfl
                  rotate_left
                  ·simp only [Act.put, List.setIfInBounds_toArray, List.set_cons_zero, List.set_cons_succ, i64_w, i32_w]
                   rfl
                  refine pure_ (i := 8) (N := some 81) (v := ?_) (a' := ?_) #[true, true, true, false, true, false, false, true, true, false, false, false] rfl rfl (any_of HT_.out (by kernel_rfl)) (fun _ _ _ h => h) (Or.inl ⟨by rfl, ?_⟩) ?_ ?_
                  rotate_left
                  ·intro w'
                   go_simp
                   with_reducible rfl
                  rotate_left
                  ·simp only [Act.put, List.setIfInBounds_toArray, List.set_cons_zero, List.set_cons_succ, i64_w, i32_w]
                   rfl
                  refine pure_ (i := 9) (N := some 82) (v := ?_) (a' := ?_) #[true, true, true, false, true, false, false, true, true, true, false, false] rfl rfl (any_of HT_.out (by kernel_rfl)) (fun _ _ _ h => h) (Or.inl ⟨by rfl, ?_⟩) ?_ ?_
                  rotate_left
                  ·intro w'
                   go_simp
                   with_reducible rfl
                  rotate_left
                  ·simp only [Act.put, List.setIfInBounds_toArray, List.set_cons_zero, List.set_cons_succ, i64_w, i32_w]
                   rfl
                  refine two_ (i := 3) (j := 5) (Ni := some 76) (Nj := some 78) #[true, true, true, true, true, false, false, true, true, true, false, false] #[true, true, true, false, true, true, false, true, true, true, false, false] rfl rfl rfl rfl (two_of HT_.out (by kernel_rfl)) (by decide) (by decide) (fun K hK => ?_) (fun K hK => ?_)
                  focus
                   refine goes_ Try.func65 (by kernel_rfl) rfl #[.slice (some ad320) lt_.length co15] (by rfl) rfl rfl (by (try simp only [List.map_toArray, List.map_cons, List.map_nil]); first | done | rfl) ?_
                   refine (spec_l1Own.calls (some ad320) co15 lt_ lt_ _ HRT_.out HLC_.out OW_.out).mono ?_
                   rintro e w5 ⟨vc, rfl, hoc, hbc⟩
                   refine ⟨_, rfl, ?_⟩
                   obtain ⟨Ac, cc, rfl⟩ := Kd.R_slice hoc
                   refine hK.out _ _ trivial (fun _ => ?_)
                   clear hK K
                   refine norm_ (a' := ?_) ?_ ?_
                   rotate_left
                   ·show Act.put _ (some 76) _ = _
                    simp only [Act.put, List.setIfInBounds_toArray, List.set_cons_zero, List.set_cons_succ, i64_w, i32_w]
                    rfl
                   refine one_ (i := 5) (N := some 78) #[true, true, true, true, true, true, false, true, true, true, false, false] rfl rfl (one_of HT_.out (by kernel_rfl)) (by decide) (fun K hK => ?_)
                   refine value_ (w1 := ?_) (v := ?_) (by rfl) rfl ?_ ?_
                   rotate_left 2
                   ·go_simp
                    constructor
                    ·rfl
                    ·rfl
                   refine hK.out _ _ trivial (fun _ => ?_)
                   clear hK K
                   refine norm_ (a' := ?_) ?_ ?_
                   rotate_left
                   ·show Act.put _ (some 78) _ = _
                    simp only [Act.put, List.setIfInBounds_toArray, List.set_cons_zero, List.set_cons_succ, i64_w, i32_w]
                    rfl
                   have HC := Aside0.mk (Kd.R_alloc hoc (.cells #[.int .i64 (wrap64 ((rd x5_2 x7_1) * x8_2))] 3))
                   have HBC := Aside0.mk (below_alloc hbc (.cells #[.int .i64 (wrap64 ((rd x5_2 x7_1) * x8_2))] 3))
                   have hcl : (w5.alloc (.cells #[.int .i64 (wrap64 ((rd x5_2 x7_1) * x8_2))] 3)).cell? ⟨w5.heap.size, 0, none⟩ = some (.int .i64 ((wrap64 ((rd x5_2 x7_1) * x8_2)))) := by rw [World.cell?_alloc_at _ _ _ _ rfl]; rfl
                   clear hoc hbc
                   generalize w5.alloc (.cells #[.int .i64 (wrap64 ((rd x5_2 x7_1) * x8_2))] 3) = W5 at HC HBC hcl ⊢
                   generalize w5.heap.size = gd at hcl ⊢
                  rotate_left
                  focus
                   refine value_ (w1 := ?_) (v := ?_) (by rfl) rfl ?_ ?_
                   rotate_left 2
                   ·go_simp
                    constructor
                    ·rfl
                    ·rfl
                   refine hK.out _ _ trivial (fun _ => ?_)
                   clear hK K
                   refine norm_ (a' := ?_) ?_ ?_
                   rotate_left
                   ·show Act.put _ (some 78) _ = _
                    simp only [Act.put, List.setIfInBounds_toArray, List.set_cons_zero, List.set_cons_succ, i64_w, i32_w]
                    rfl
                   refine one_ (i := 3) (N := some 76) #[true, true, true, true, true, true, false, true, true, true, false, false] rfl rfl (one_of HT_.out (by kernel_rfl)) (by decide) (fun K hK => ?_)
                   refine goes_ Try.func65 (by kernel_rfl) rfl #[.slice (some ad320) lt_.length co15] (by rfl) rfl rfl (by (try simp only [List.map_toArray, List.map_cons, List.map_nil]); first | done | rfl) ?_
                   refine (spec_l1Own.calls (some ad320) co15 lt_ lt_ _ (Kd.C_alloc HRT_.out _) HLC_.out OW_.out).mono ?_
                   rintro e w5 ⟨vc, rfl, hoc, hbc⟩
                   refine ⟨_, rfl, ?_⟩
                   obtain ⟨Ac, cc, rfl⟩ := Kd.R_slice hoc
                   refine hK.out _ _ trivial (fun _ => ?_)
                   clear hK K
                   refine norm_ (a' := ?_) ?_ ?_
                   rotate_left
                   ·show Act.put _ (some 76) _ = _
                    simp only [Act.put, List.setIfInBounds_toArray, List.set_cons_zero, List.set_cons_succ, i64_w, i32_w]
                    rfl
                   have HBC := Aside0.mk (below_step (below_alloc (Below.refl w35.heap.size w35) (.cells #[.int .i64 (wrap64 ((rd x5_2 x7_1) * x8_2))] 3)) hbc)
                   have HC := Aside0.mk (Kd.R_lower hoc (show w35.heap.size ≤ (w35.alloc (.cells #[.int .i64 (wrap64 ((rd x5_2 x7_1) * x8_2))] 3)).heap.size by simp))
                   have hcl0 : (w35.alloc (.cells #[.int .i64 (wrap64 ((rd x5_2 x7_1) * x8_2))] 3)).cell? ⟨w35.heap.size, 0, none⟩ = some (.int .i64 ((wrap64 ((rd x5_2 x7_1) * x8_2)))) := by rw [World.cell?_alloc_at _ _ _ _ rfl]; rfl
                   have hcl := pw_cell_below hbc hcl0
                   clear hoc hbc hcl0
                   rename World => W5
                   obtain ⟨gd, hgd⟩ : ∃ gd, gd = w35.heap.size := ⟨_, rfl⟩
                   rw [← hgd] at hcl
                   simp only [← hgd]
                   clear hgd
                  all_goals
                   obtain ⟨v2, w6, hrun, ho, hb0⟩ := slices_nextPowerOfTwo.app W5 w35.heap.size lt_ [(wrap64 ((rd x5_2 x7_1) * x8_2))] Ac cc ⟨gd, 0, none⟩ 1 HC.out (by intro j_ x_ hj_; have h0_ : j_ = 0 := (by have := (List.getElem?_eq_some_iff.1 hj_).1; simpa using this); subst h0_; rw [add_plain, hcl]; simpa using hj_) HBC.out.size (by have h_ := LM_.out; simp only [List.length_cons, List.length_nil]; omega)
                   refine one_ (i := 6) (N := some 79) #[true, true, true, true, true, true, true, true, true, true, false, false] rfl rfl (one_of HT_.out (by kernel_rfl)) (by decide) (fun K hK => ?_)
                   refine value_ (w1 := w6) (v := v2) (by rfl) rfl ?_ ?_
                   ·exact slices_nextPowerOfTwo.app_run (.tmp 76) (.tmp 78) 26 (by rfl) (by rfl) (by rfl) hrun
                   have HB6 := Aside0.mk (HBC.out.trans hb0)
                   clear hrun hb0 hcl HC HBC
                   refine hK.out _ _ trivial (fun _ => ?_)
                   clear hK K
                   refine norm_ (a' := ?_) ?_ ?_
                   rotate_left
                   ·show Act.put _ (some 79) _ = _
                    simp only [Act.put, List.setIfInBounds_toArray, List.set_cons_zero, List.set_cons_succ, i64_w, i32_w]
                    rfl
                   obtain ⟨l2_, el2_⟩ : ∃ y_ : List Int, y_ = lt_ ++ [(wrap64 ((rd x5_2 x7_1) * x8_2))] := ⟨_, rfl⟩
                   rw [← el2_] at ho
                   obtain ⟨Ac2, cc2, rfl⟩ := Kd.R_slice ho
                   obtain ⟨v327, w36, hrun, ho0, hb1⟩ := slices_nextPowerOfTwo.app w6 w35.heap.size l2_ ld_ Ac2 cc2 a2_ (co15 - (x10_13 : Int).toNat) ho (fun j_ x_ hj_ => pw_cell_below HB6.out (HTL_.out j_ x_ hj_)) HB6.out.size (by have h_ := LM_.out; rw [el2_, List.length_append]; simp only [List.length_cons, List.length_nil]; omega)
                   have hb := HB6.out.trans hb1
                   rw [el2_, ← ET_.out] at ho0
                   refine one_ (i := 10) (N := some 83) #[true, true, true, true, true, true, true, true, true, true, true, false] rfl rfl (one_of HT_.out (by kernel_rfl)) (by decide) (fun K hK => ?_)
                   refine value_ (w1 := w36) (v := v327) (by rfl) rfl ?_ ?_
                   ·exact slices_nextPowerOfTwo.app_run (.tmp 79) (.tmp 82) 26 (by rfl) (by rfl) (by rfl) hrun
                   clear hrun hb1 HB6 ho el2_ HRT_ HTL_ HLC_ OW_ ET_ LM_ cutT cutF
                   have n0_ := Aside0.mk (Kd.R_elder' (by (with_reducible repeat (first | apply Kd.R_alloc | apply Kd.R_drewN | apply Kd.R_drew)); exact HO_5.out) (Kd.R_base ho0) hb)
                   have n1_ := Aside0.mk (Kd.R_elder' (by (with_reducible repeat (first | apply Kd.R_alloc | apply Kd.R_drewN | apply Kd.R_drew)); exact HO_6.out) (Kd.R_base ho0) hb)
                   have n2_ := Aside0.mk (Kd.R_lower (Kd.R_new' (Kd.R_new' ho0 (Kd.R_lt (by (with_reducible repeat (first | apply Kd.R_alloc | apply Kd.R_drewN | apply Kd.R_drew)); exact HO_5.out))) (Kd.R_lt (by (with_reducible repeat (first | apply Kd.R_alloc | apply Kd.R_drewN | apply Kd.R_drew)); exact HO_6.out))) (below_size (by repeat (first | (with_reducible first | exact HB.out | apply below_alloc | apply pw_below_drewN | apply below_drew1) | exact HB.out))))
                   have n3_ := Aside0.mk (below_step (by repeat (first | (with_reducible first | exact HB.out | apply below_alloc | apply pw_below_drewN | apply below_drew1) | exact HB.out)) hb)
                   clear HO_5
                   clear HO_6
                   clear HB
                   have HO_5 := n0_
                   have HO_6 := n1_
                   have HO328 := n2_
                   have HB := n3_
                   clear n0_ n1_ n2_ n3_
                   (try clear hb)
                   (try clear hb2)
                   (try clear hk)
                   (try clear hi)
                   (try clear ho0)
                   refine hK.out _ _ trivial (fun hHeld => ?_)
                   clear hK K
                   refine norm_ (a' := ?_) ?_ ?_
                   rotate_left
                   ·show Act.put _ (some 83) _ = _
                    simp only [Act.put, List.setIfInBounds_toArray, List.set_cons_zero, List.set_cons_succ, i64_w, i32_w]
                    rfl
                   refine pure_ (i := 11) (N := some 5) (v := ?_) (a' := ?_) #[true, true, true, true, true, true, true, true, true, true, true, true] rfl rfl (any_of HT_.out (by kernel_rfl)) (fun _ _ _ h => h) (Or.inl ⟨by rfl, ?_⟩) ?_ ?_
                   rotate_left
                   ·intro w'
                    go_simp
                    with_reducible rfl
                   rotate_left
                   ·simp only [Act.put, List.setIfInBounds_toArray, List.set_cons_zero, List.set_cons_succ, i64_w, i32_w]
                    rfl
                   refine done_ (done_of HT_.out (by kernel_rfl)) ?_
                   try go_wp2
                   have n0_ := Aside0.mk (Kd.R_drew HO_5.out)
                   have n1_ := Aside0.mk (Kd.R_drew HO_6.out)
                   have n2_ := Aside0.mk (Kd.R_drew HO328.out)
                   have n3_ := Aside0.mk (below_drew1 HB.out)
                   clear HO_5
                   clear HO_6
                   clear HO328
                   clear HB
                   have HO_5 := n0_
                   have HO_6 := n1_
                   have HO328 := n2_
                   have HB := n3_
                   clear n0_ n1_ n2_ n3_
                   obtain ⟨Ao38, co38, eo38⟩ := Kd.R_slice HO_6.out
                   (first | subst eo38 | (injection eo38 with f1_ f2_ f3_; have f4_ := f1_.symm; have f5_ := f3_.symm; clear f1_ f2_ f3_; subst f4_; subst f5_))
                   have p329 : 0 ≤ (x7_1 : Int) := of_decide_eq_true (by first | (with_reducible assumption) | assumption)
                   have q329 : x7_1 < (x6_2.length : Int) := of_decide_eq_true (by first | (with_reducible assumption) | assumption)
                   obtain ⟨ad329, e329, hx329_0⟩ := Kd.at_int (Kd.R_reads' HO_6.out).2.2 x7_1 p329 q329
                   cases e329
                   replace p329 := eq_true p329
                   replace q329 := eq_true q329
                   refine start_ (n := 15) (S := fun w' => w'.cell? (ad329.add (x7_1).toNat) = some (.int .i64 (rd x6_2 x7_1))) (ds := []) #[false, false, false, false, false, false, false, false, false, false, false, false, false, false, false] (by kernel_rfl) rfl rfl (hx329_0) (fun hHeld => ?_); refine with_tabW spec_prLists.tab16 spec_prLists.bits16 (fun HT_ HW_ => ?_)
                   generalize w36.drew = w37 at HO_5 HO_6 HO328 HB hx329_0 hHeld ⊢
                   obtain ⟨p0_, pl_, lm_, et_, ow_⟩ := slices_nextPowerOfTwo.parts A34.out
                   have OW_ := Aside0.mk ow_
                   have ET_ := Aside0.mk et_
                   clear et_ ow_
                   have hC0_ : Kd.C (Kd.int .i64) _ (some ad329) x6_2.length x6_2 := (Kd.R_reads' HO_6.out).2.2
                   have hcc_ : x6_2.length ≤ co38 := (Kd.R_reads' HO_6.out).2.1
                   obtain ⟨i0_, hi0_, _, hs0_, _⟩ := info_parts info3
                   have cutT := cut_to (P := Try.prog) 26 3 .i64 Try.underlying26 hi0_ (some ad329) x6_2.length co38 x10_13 p0_ pl_ hcc_
                   have cutF := cut_from (P := Try.prog) 26 3 .i64 Try.underlying26 hi0_ 1 hs0_ (some ad329) x6_2.length co38 x10_13 p0_ pl_
                   obtain ⟨a2_, ea2_, ht_⟩ := slices_nextPowerOfTwo.tail (p := (x10_13 : Int).toNat) hC0_ (by omega) hcc_
                   rw [ea2_] at cutF
                   obtain ⟨lt_, elt_⟩ : ∃ y_ : List Int, y_ = x6_2.take (x10_13 : Int).toNat := ⟨_, rfl⟩
                   obtain ⟨ld_, eld_⟩ : ∃ y_ : List Int, y_ = x6_2.drop (x10_13 : Int).toNat := ⟨_, rfl⟩
                   have hlt_ : lt_.length = (x10_13 : Int).toNat := by rw [elt_, List.length_take]; omega
                   have hld_ : ld_.length = x6_2.length - (x10_13 : Int).toNat := by rw [eld_, List.length_drop]
                   have hrt_ := Kd.C_take (m := (x10_13 : Int).toNat) hC0_ (by omega)
                   rw [← elt_] at hrt_
                   rw [← hlt_] at cutT
                   rw [← hld_] at cutF
                   rw [← eld_] at ht_
                   replace OW_ := Aside0.mk (show spec_l1Own.f lt_ = some lt_ by have h_ := OW_.out; rw [← elt_] at h_; exact h_)
                   replace ET_ := Aside0.mk (show t330 = lt_ ++ [(rd x6_2 x7_1)] ++ ld_ by rw [elt_, eld_]; exact ET_.out)
                   have LM_ := Aside0.mk (show lt_.length + 1 + ld_.length < 1000000000002 by omega)
                   have HRT_ := Aside0.mk hrt_
                   have HTL_ := Aside0.mk ht_
                   have HLC_ := Aside0.mk (show lt_.length ≤ co38 by omega)
                   clear hrt_ ht_ hi0_ hs0_ ea2_ hlt_ hld_ elt_ eld_ p0_ pl_ lm_ hC0_ hcc_
                   refine pure_ (i := 0) (N := some 84) (v := ?_) (a' := ?_) #[true, false, false, false, false, false, false, false, false, false, false, false, false, false, false] rfl rfl (any_of HT_.out (by kernel_rfl)) (fun _ _ _ h => h) (Or.inl ⟨by rfl, ?_⟩) ?_ ?_
                   rotate_left
                   ·intro w'
                    go_simp
                    with_reducible rfl
                   rotate_left
                   ·simp only [Act.put, List.setIfInBounds_toArray, List.set_cons_zero, List.set_cons_succ, i64_w, i32_w]
                    rfl
                   refine pure_ (i := 1) (N := some 85) (v := ?_) (a' := ?_) #[true, true, false, false, false, false, false, false, false, false, false, false, false, false, false] rfl rfl (any_of HT_.out (by kernel_rfl)) (fun _ _ _ h => h) (Or.inl ⟨by rfl, ?_⟩) ?_ ?_
                   rotate_left
                   ·intro w'
                    go_simp
                    with_reducible rfl
                   rotate_left
                   ·simp only [Act.put, List.setIfInBounds_toArray, List.set_cons_zero, List.set_cons_succ, i64_w, i32_w]
                    rfl
                   refine pure_ (i := 2) (N := some 86) (v := ?_) (a' := ?_) #[true, true, true, false, false, false, false, false, false, false, false, false, false, false, false] rfl rfl (any_of HT_.out (by kernel_rfl)) (fun _ _ _ h => h) (Or.inl ⟨by rfl, ?_⟩) ?_ ?_
                   rotate_left
                   ·intro w'
                    go_simp
                    with_reducible rfl
                   rotate_left
                   ·simp only [Act.put, List.setIfInBounds_toArray, List.set_cons_zero, List.set_cons_succ, i64_w, i32_w]
                    rfl
                   refine pure_ (i := 4) (N := some 88) (v := ?_) (a' := ?_) #[true, true, true, false, true, false, false, false, false, false, false, false, false, false, false] rfl rfl (any_of HT_.out (by kernel_rfl)) (fun _ _ _ h => h) (Or.inl ⟨by rfl, ?_⟩) ?_ ?_
                   rotate_left
                   ·intro w'
                    go_simp
                    with_reducible rfl
                   rotate_left
                   ·simp only [Act.put, List.setIfInBounds_toArray, List.set_cons_zero, List.set_cons_succ, i64_w, i32_w]
                    rfl
                   refine pure_ (i := 5) (N := some 89) (v := ?_) (a' := ?_) #[true, true, true, false, true, true, false, false, false, false, false, false, false, false, false] rfl rfl (any_of HT_.out (by kernel_rfl)) (fun _ _ _ h => h) (Or.inl ⟨by rfl, ?_⟩) ?_ ?_
                   rotate_left
                   ·intro w'
                    go_simp
                    with_reducible rfl
                   rotate_left
                   ·simp only [Act.put, List.setIfInBounds_toArray, List.set_cons_zero, List.set_cons_succ, i64_w, i32_w]
                    rfl
                   refine pure_ (i := 6) (N := some 90) (v := ?_) (a' := ?_) #[true, true, true, false, true, true, true, false, false, false, false, false, false, false, false] rfl rfl (any_of HT_.out (by kernel_rfl)) (fun _ _ _ h => h) (Or.inl ⟨by rfl, ?_⟩) ?_ ?_
                   rotate_left
                   ·intro w'
                    go_simp
                    with_reducible rfl
                   rotate_left
                   ·simp only [Act.put, List.setIfInBounds_toArray, List.set_cons_zero, List.set_cons_succ, i64_w, i32_w]
                    rfl
                   refine pure_ (i := 10) (N := some 94) (v := ?_) (a' := ?_) #[true, true, true, false, true, true, true, false, false, false, true, false, false, false, false] rfl rfl (any_of HT_.out (by kernel_rfl)) (fun _ _ _ h => h) (Or.inl ⟨by rfl, ?_⟩) ?_ ?_
                   rotate_left
                   ·intro w'
                    go_simp
                    with_reducible rfl
                   rotate_left
                   ·simp only [Act.put, List.setIfInBounds_toArray, List.set_cons_zero, List.set_cons_succ, i64_w, i32_w]
                    rfl
                   refine pure_ (i := 11) (N := some 95) (v := ?_) (a' := ?_) #[true, true, true, false, true, true, true, false, false, false, true, true, false, false, false] rfl rfl (any_of HT_.out (by kernel_rfl)) (fun _ _ _ h => h) (Or.inl ⟨by rfl, ?_⟩) ?_ ?_
                   rotate_left
                   ·intro w'
                    go_simp
                    with_reducible rfl
                   rotate_left
                   ·simp only [Act.put, List.setIfInBounds_toArray, List.set_cons_zero, List.set_cons_succ, i64_w, i32_w]
                    rfl
                   refine pure_ (i := 12) (N := some 96) (v := ?_) (a' := ?_) #[true, true, true, false, true, true, true, false, false, false, true, true, true, false, false] rfl rfl (any_of HT_.out (by kernel_rfl)) (fun _ _ _ h => h) (Or.inl ⟨by rfl, ?_⟩) ?_ ?_
                   rotate_left
                   ·intro w'
                    go_simp
                    with_reducible rfl
                   rotate_left
                   ·simp only [Act.put, List.setIfInBounds_toArray, List.set_cons_zero, List.set_cons_succ, i64_w, i32_w]
                    rfl
                   refine take_ (i := 7) (N := some 91) (v := ?_) (a' := ?_) #[true, true, true, false, true, true, true, true, false, false, true, true, true, false, false] rfl rfl (take_ofW HT_.out HW_.out (by kernel_rfl)) (fun _ _ _ h => h) (Or.inl ⟨by rfl, ?_⟩) hHeld ?_ ?_
                   rotate_left
                   ·intro w' s0
                    go_simp
                    with_reducible rfl
                   rotate_left
                   ·simp only [Act.put, List.setIfInBounds_toArray, List.set_cons_zero, List.set_cons_succ, i64_w, i32_w]
                    rfl
                   refine two_ (i := 3) (j := 8) (Ni := some 87) (Nj := some 92) #[true, true, true, true, true, true, true, true, false, false, true, true, true, false, false] #[true, true, true, false, true, true, true, true, true, false, true, true, true, false, false] rfl rfl rfl rfl (two_of HT_.out (by kernel_rfl)) (by decide) (by decide) (fun K hK => ?_) (fun K hK => ?_)
                   focus
                    refine goes_ Try.func65 (by kernel_rfl) rfl #[.slice (some ad329) lt_.length co38] (by rfl) rfl rfl (by (try simp only [List.map_toArray, List.map_cons, List.map_nil]); first | done | rfl) ?_
                    refine (spec_l1Own.calls (some ad329) co38 lt_ lt_ _ HRT_.out HLC_.out OW_.out).mono ?_
                    rintro e w5 ⟨vc, rfl, hoc, hbc⟩
                    refine ⟨_, rfl, ?_⟩
                    obtain ⟨Ac, cc, rfl⟩ := Kd.R_slice hoc
                    have hHeld1 := pw_cell_below hbc hHeld
                    refine hK.out _ _ hHeld1 (fun _ => ?_)
                    clear hK K
                    refine norm_ (a' := ?_) ?_ ?_
                    rotate_left
                    ·show Act.put _ (some 87) _ = _
                     simp only [Act.put, List.setIfInBounds_toArray, List.set_cons_zero, List.set_cons_succ, i64_w, i32_w]
                     rfl
                    refine one_ (i := 8) (N := some 92) #[true, true, true, true, true, true, true, true, true, false, true, true, true, false, false] rfl rfl (one_of HT_.out (by kernel_rfl)) (by decide) (fun K hK => ?_)
                    refine value_ (w1 := ?_) (v := ?_) (by rfl) rfl ?_ ?_
                    rotate_left 2
                    ·go_simp
                     constructor
                     ·rfl
                     ·rfl
                    refine hK.out _ _ (pw_cell_below (below_alloc (Below.refl _ _) _) hHeld1) (fun _ => ?_)
                    clear hK K
                    refine norm_ (a' := ?_) ?_ ?_
                    rotate_left
                    ·show Act.put _ (some 92) _ = _
                     simp only [Act.put, List.setIfInBounds_toArray, List.set_cons_zero, List.set_cons_succ, i64_w, i32_w]
                     rfl
                    have HC := Aside0.mk (Kd.R_alloc hoc (.cells #[.int .i64 (rd x6_2 x7_1)] 3))
                    have HBC := Aside0.mk (below_alloc hbc (.cells #[.int .i64 (rd x6_2 x7_1)] 3))
                    have hcl : (w5.alloc (.cells #[.int .i64 (rd x6_2 x7_1)] 3)).cell? ⟨w5.heap.size, 0, none⟩ = some (.int .i64 ((rd x6_2 x7_1))) := by rw [World.cell?_alloc_at _ _ _ _ rfl]; rfl
                    clear hoc hbc hHeld1
                    generalize w5.alloc (.cells #[.int .i64 (rd x6_2 x7_1)] 3) = W5 at HC HBC hcl ⊢
                    generalize w5.heap.size = gd at hcl ⊢
                   rotate_left
                   focus
                    refine value_ (w1 := ?_) (v := ?_) (by rfl) rfl ?_ ?_
                    rotate_left 2
                    ·go_simp
                     constructor
                     ·rfl
                     ·rfl
                    have hHeld1 := pw_cell_below (below_alloc (Below.refl w37.heap.size w37) (.cells #[.int .i64 (rd x6_2 x7_1)] 3)) hHeld
                    refine hK.out _ _ hHeld1 (fun _ => ?_)
                    clear hK K
                    refine norm_ (a' := ?_) ?_ ?_
                    rotate_left
                    ·show Act.put _ (some 92) _ = _
                     simp only [Act.put, List.setIfInBounds_toArray, List.set_cons_zero, List.set_cons_succ, i64_w, i32_w]
                     rfl
                    refine one_ (i := 3) (N := some 87) #[true, true, true, true, true, true, true, true, true, false, true, true, true, false, false] rfl rfl (one_of HT_.out (by kernel_rfl)) (by decide) (fun K hK => ?_)
                    refine goes_ Try.func65 (by kernel_rfl) rfl #[.slice (some ad329) lt_.length co38] (by rfl) rfl rfl (by (try simp only [List.map_toArray, List.map_cons, List.map_nil]); first | done | rfl) ?_
                    refine (spec_l1Own.calls (some ad329) co38 lt_ lt_ _ (Kd.C_alloc HRT_.out _) HLC_.out OW_.out).mono ?_
                    rintro e w5 ⟨vc, rfl, hoc, hbc⟩
                    refine ⟨_, rfl, ?_⟩
                    obtain ⟨Ac, cc, rfl⟩ := Kd.R_slice hoc
                    refine hK.out _ _ (pw_cell_below hbc hHeld1) (fun _ => ?_)
                    clear hK K
                    refine norm_ (a' := ?_) ?_ ?_
                    rotate_left
                    ·show Act.put _ (some 87) _ = _
                     simp only [Act.put, List.setIfInBounds_toArray, List.set_cons_zero, List.set_cons_succ, i64_w, i32_w]
                     rfl
                    have HBC := Aside0.mk (below_step (below_alloc (Below.refl w37.heap.size w37) (.cells #[.int .i64 (rd x6_2 x7_1)] 3)) hbc)
                    have HC := Aside0.mk (Kd.R_lower hoc (show w37.heap.size ≤ (w37.alloc (.cells #[.int .i64 (rd x6_2 x7_1)] 3)).heap.size by simp))
                    have hcl0 : (w37.alloc (.cells #[.int .i64 (rd x6_2 x7_1)] 3)).cell? ⟨w37.heap.size, 0, none⟩ = some (.int .i64 ((rd x6_2 x7_1))) := by rw [World.cell?_alloc_at _ _ _ _ rfl]; rfl
                    have hcl := pw_cell_below hbc hcl0
                    clear hoc hbc hcl0 hHeld1
                    rename World => W5
                    obtain ⟨gd, hgd⟩ : ∃ gd, gd = w37.heap.size := ⟨_, rfl⟩
                    rw [← hgd] at hcl
                    simp only [← hgd]
                    clear hgd
                   all_goals
                    obtain ⟨v2, w6, hrun, ho, hb0⟩ := slices_nextPowerOfTwo.app W5 w37.heap.size lt_ [(rd x6_2 x7_1)] Ac cc ⟨gd, 0, none⟩ 1 HC.out (by intro j_ x_ hj_; have h0_ : j_ = 0 := (by have := (List.getElem?_eq_some_iff.1 hj_).1; simpa using this); subst h0_; rw [add_plain, hcl]; simpa using hj_) HBC.out.size (by have h_ := LM_.out; simp only [List.length_cons, List.length_nil]; omega)
                    refine one_ (i := 9) (N := some 93) #[true, true, true, true, true, true, true, true, true, true, true, true, true, false, false] rfl rfl (one_of HT_.out (by kernel_rfl)) (by decide) (fun K hK => ?_)
                    refine value_ (w1 := w6) (v := v2) (by rfl) rfl ?_ ?_
                    ·exact slices_nextPowerOfTwo.app_run (.tmp 87) (.tmp 92) 26 (by rfl) (by rfl) (by rfl) hrun
                    have HB6 := Aside0.mk (HBC.out.trans hb0)
                    clear hrun hb0 hcl HC HBC
                    refine hK.out _ _ (pw_cell_below HB6.out hHeld) (fun _ => ?_)
                    clear hK K
                    refine norm_ (a' := ?_) ?_ ?_
                    rotate_left
                    ·show Act.put _ (some 93) _ = _
                     simp only [Act.put, List.setIfInBounds_toArray, List.set_cons_zero, List.set_cons_succ, i64_w, i32_w]
                     rfl
                    obtain ⟨l2_, el2_⟩ : ∃ y_ : List Int, y_ = lt_ ++ [(rd x6_2 x7_1)] := ⟨_, rfl⟩
                    rw [← el2_] at ho
                    obtain ⟨Ac2, cc2, rfl⟩ := Kd.R_slice ho
                    obtain ⟨v331, w39, hrun, ho0, hb1⟩ := slices_nextPowerOfTwo.app w6 w37.heap.size l2_ ld_ Ac2 cc2 a2_ (co38 - (x10_13 : Int).toNat) ho (fun j_ x_ hj_ => pw_cell_below HB6.out (HTL_.out j_ x_ hj_)) HB6.out.size (by have h_ := LM_.out; rw [el2_, List.length_append]; simp only [List.length_cons, List.length_nil]; omega)
                    have hb := HB6.out.trans hb1
                    rw [el2_, ← ET_.out] at ho0
                    refine one_ (i := 13) (N := some 97) #[true, true, true, true, true, true, true, true, true, true, true, true, true, true, false] rfl rfl (one_of HT_.out (by kernel_rfl)) (by decide) (fun K hK => ?_)
                    refine value_ (w1 := w39) (v := v331) (by rfl) rfl ?_ ?_
                    ·exact slices_nextPowerOfTwo.app_run (.tmp 93) (.tmp 96) 26 (by rfl) (by rfl) (by rfl) hrun
                    clear hrun hb1 HB6 ho el2_ HRT_ HTL_ HLC_ OW_ ET_ LM_ cutT cutF
                    have HS0_ := (hb.cell (World.block_lt_of_cell? _ _ (hHeld))).trans (hHeld)
                    have n0_ := Aside0.mk (Kd.R_elder' (by (with_reducible repeat (first | apply Kd.R_alloc | apply Kd.R_drewN | apply Kd.R_drew)); exact HO_5.out) (Kd.R_base ho0) hb)
                    have n1_ := Aside0.mk (Kd.R_elder' (by (with_reducible repeat (first | apply Kd.R_alloc | apply Kd.R_drewN | apply Kd.R_drew)); exact HO_6.out) (Kd.R_base ho0) hb)
                    have n2_ := Aside0.mk (Kd.R_elder' (by (with_reducible repeat (first | apply Kd.R_alloc | apply Kd.R_drewN | apply Kd.R_drew)); exact HO328.out) (Kd.R_base ho0) hb)
                    have n3_ := Aside0.mk (Kd.R_lower (Kd.R_new' (Kd.R_new' (Kd.R_new' ho0 (Kd.R_lt (by (with_reducible repeat (first | apply Kd.R_alloc | apply Kd.R_drewN | apply Kd.R_drew)); exact HO_5.out))) (Kd.R_lt (by (with_reducible repeat (first | apply Kd.R_alloc | apply Kd.R_drewN | apply Kd.R_drew)); exact HO_6.out))) (Kd.R_lt (by (with_reducible repeat (first | apply Kd.R_alloc | apply Kd.R_drewN | apply Kd.R_drew)); exact HO328.out))) (below_size (by repeat (first | (with_reducible first | exact HB.out | apply below_alloc | apply pw_below_drewN | apply below_drew1) | exact HB.out))))
                    have n4_ := Aside0.mk (below_step (by repeat (first | (with_reducible first | exact HB.out | apply below_alloc | apply pw_below_drewN | apply below_drew1) | exact HB.out)) hb)
                    clear HO_5
                    clear HO_6
                    clear HO328
                    clear HB
                    have HO_5 := n0_
                    have HO_6 := n1_
                    have HO328 := n2_
                    have HO332 := n3_
                    have HB := n4_
                    clear n0_ n1_ n2_ n3_ n4_
                    (try clear hb)
                    (try clear hb2)
                    (try clear hk)
                    (try clear hi)
                    (try clear ho0)
                    refine hK.out _ _ (HS0_) (fun hHeld => ?_)
                    clear hK K
                    refine norm_ (a' := ?_) ?_ ?_
                    rotate_left
                    ·show Act.put _ (some 97) _ = _
                     simp only [Act.put, List.setIfInBounds_toArray, List.set_cons_zero, List.set_cons_succ, i64_w, i32_w]
                     rfl
                    refine pure_ (i := 14) (N := some 6) (v := ?_) (a' := ?_) #[true, true, true, true, true, true, true, true, true, true, true, true, true, true, true] rfl rfl (any_of HT_.out (by kernel_rfl)) (fun _ _ _ h => h) (Or.inl ⟨by rfl, ?_⟩) ?_ ?_
                    rotate_left
                    ·intro w'
                     go_simp
                     with_reducible rfl
                    rotate_left
                    ·simp only [Act.put, List.setIfInBounds_toArray, List.set_cons_zero, List.set_cons_succ, i64_w, i32_w]
                     rfl
                    refine done_ (done_of HT_.out (by kernel_rfl)) ?_
                    try go_wp2
                    go_roundg kj18
                    case measure => have := HK1.out; have := HK2.out; have := HJ13.out; have := HJ18.out; omega
                    case rel => exact ⟨(t326), (t330), (wrap64 (x8_2 + 1)), (by first | rfl | (simp; done) | (simp [*]; done)), H', ⟨by have := HK1.out; have := HK2.out; have := HJ13.out; have := HJ18.out; omega⟩, ⟨by (with_reducible repeat (first | apply Kd.R_alloc | apply Kd.R_drewN | apply Kd.R_drew)); exact Kd.R_mono HO328.out (fun _ hk => hk.2)⟩, ⟨by (with_reducible repeat (first | apply Kd.R_alloc | apply Kd.R_drewN | apply Kd.R_drew)); exact Kd.R_mono HO332.out (fun _ hk => hk.2)⟩, ⟨by repeat (first | (with_reducible first | exact HB.out | apply below_alloc | apply pw_below_drewN | apply below_drew1) | exact HB.out)⟩⟩
                 ·rw [if_neg c33] at H
                  exact absurd H (by simp)
                ·rw [if_neg c32] at H
                 exact absurd H (by simp)
          ·rw [if_neg c13] at H
           have c13b0 : ((Int.tmod a0 (wrap64 ((rd x5_2 x7_1) * x8_2))) == 0) = false := beq_eq_false_iff_ne.mpr c13
           have c13b1 : ((Int.tmod a0 (wrap64 ((rd x5_2 x7_1) * x8_2))) != 0) = true := bne_iff_ne.mpr c13
           have H' := Aside0.mk H
           clear H
           obtain ⟨Ao40, co40, eo40⟩ := Kd.R_slice HO_5.out
           subst eo40
           have p320 : 0 ≤ (x7_1 : Int) := of_decide_eq_true (by first | (with_reducible assumption) | assumption)
           have q320 : x7_1 < (x5_2.length : Int) := of_decide_eq_true (by first | (with_reducible assumption) | assumption)
           obtain ⟨ad320, e320, hx320_0⟩ := Kd.at_int (Kd.R_reads' HO_5.out).2.2 x7_1 p320 q320
           cases e320
           replace p320 := eq_true p320
           replace q320 := eq_true q320
           go_wp2
           go_roundg k2
           case measure => have := HK1.out; have := HK2.out; omega
           case rel => exact ⟨(x5_2), (x6_2), (wrap64 (x8_2 + 1)), (by first | rfl | (simp; done) | (simp [*]; done)), H', ⟨by have := HK1.out; have := HK2.out; omega⟩, ⟨by (with_reducible repeat (first | apply Kd.R_alloc | apply Kd.R_drewN | apply Kd.R_drew)); exact HO_5.out⟩, ⟨by (with_reducible repeat (first | apply Kd.R_alloc | apply Kd.R_drewN | apply Kd.R_drew)); exact HO_6.out⟩, ⟨by repeat (first | (with_reducible first | exact HB.out | apply below_alloc | apply pw_below_drewN | apply below_drew1) | exact HB.out)⟩⟩
        ·rw [if_neg c11] at H
         exact absurd H (by simp)
       ·rw [if_neg c10] at H
        exact absurd H (by simp)
      ·rw [if_neg c9] at H
       have c9b0 : decide (x8_2 < a1) = false := decide_eq_false c9
       clear c9
       have H' := Aside0.mk H
       clear H
       go_wp2
       go_roundg k2
       case measure => have := HK1.out; have := HK2.out; omega
       case rel => exact ⟨(x5_2), (x6_2), (wrap64 (x7_1 + 1)), (by first | rfl | (simp; done) | (simp [*]; done)), H', ⟨by have := HK1.out; have := HK2.out; omega⟩, ⟨by (with_reducible repeat (first | apply Kd.R_alloc | apply Kd.R_drewN | apply Kd.R_drew)); exact HO_5.out⟩, ⟨by (with_reducible repeat (first | apply Kd.R_alloc | apply Kd.R_drewN | apply Kd.R_drew)); exact HO_6.out⟩, ⟨by repeat (first | (with_reducible first | exact HB.out | apply below_alloc | apply pw_below_drewN | apply below_drew1) | exact HB.out)⟩⟩
   ·rw [if_neg c7] at H
    have c7b0 : decide (x7_1 < (x5_1.length : Int)) = false := decide_eq_false c7
    clear c7
    obtain ⟨ji41, hji41⟩ : ∃ j_ : Int, (wrap64 ((x5_1.length : Int) - 1)) = j_ := ⟨_, rfl⟩
    replace H : (if 0 ≤ (ji41) then (if (ji41) < (x5_1.length : Int) then (if (rd x5_1 (ji41)) = a0 then (if (ji41) < (x6_1.length : Int) then (some (rd x6_1 (ji41))) else (none)) else (some 0)) else (none)) else (none)) = some r := by first | (rw [hji41] at H; exact H) | (simp only [hji41] at H ⊢; exact H)
    have hji41w : (IntKind.i64.wrap ((x5_1.length : Int) - 1)) = ji41 := (i64_w _).trans hji41
    by_cases c42 : 0 ≤ (ji41)
    ·rw [if_pos c42] at H
     have c42b0 : decide (0 ≤ (ji41)) = true := decide_eq_true c42
     clear c42
     by_cases c43 : (ji41) < (x5_1.length : Int)
     ·rw [if_pos c43] at H
      have c43b0 : decide ((ji41) < (x5_1.length : Int)) = true := decide_eq_true c43
      clear c43
      by_cases c44 : (rd x5_1 (ji41)) = a0
      ·rw [if_pos c44] at H
       have c44b0 : ((rd x5_1 (ji41)) == a0) = true := beq_iff_eq.mpr c44
       have c44b1 : ((rd x5_1 (ji41)) != a0) = false := bne_eq_false_iff_eq.mpr c44
       clear c44
       by_cases c45 : (ji41) < (x6_1.length : Int)
       ·rw [if_pos c45] at H
        have c45b0 : decide ((ji41) < (x6_1.length : Int)) = true := decide_eq_true c45
        clear c45
        obtain rfl := Option.some.inj H
        obtain ⟨Ao46, co46, eo46⟩ := Kd.R_slice HO_5.out
        subst eo46
        have p318 : 0 ≤ ((ji41) : Int) := of_decide_eq_true (by first | (with_reducible assumption) | assumption)
        have q318 : (ji41) < (x5_1.length : Int) := of_decide_eq_true (by first | (with_reducible assumption) | assumption)
        obtain ⟨ad318, e318, hx318_0⟩ := Kd.at_int (Kd.R_reads' HO_5.out).2.2 (ji41) p318 q318
        cases e318
        replace p318 := eq_true p318
        replace q318 := eq_true q318
        obtain ⟨Ao47, co47, eo47⟩ := Kd.R_slice HO_6.out
        subst eo47
        have p319 : 0 ≤ ((ji41) : Int) := of_decide_eq_true (by first | (with_reducible assumption) | assumption)
        have q319 : (ji41) < (x6_1.length : Int) := of_decide_eq_true (by first | (with_reducible assumption) | assumption)
        obtain ⟨ad319, e319, hx319_0⟩ := Kd.at_int (Kd.R_reads' HO_6.out).2.2 (ji41) p319 q319
        cases e319
        replace p319 := eq_true p319
        replace q319 := eq_true q319
        go_wp2
        go_ret
        exact ⟨by first | rfl | (simp [errW_none, errW_some] <;> rfl) | (simp only [← hji41]; first | rfl | (simp [errW_none, errW_some] <;> rfl)) | (simp [*, errW_none, errW_some] <;> rfl), by repeat (first | (with_reducible first | exact HB.out | apply below_alloc | apply pw_below_drewN | apply below_drew1) | exact HB.out)⟩
       ·rw [if_neg c45] at H
        exact absurd H (by simp)
      ·rw [if_neg c44] at H
       have c44b0 : ((rd x5_1 (ji41)) == a0) = false := beq_eq_false_iff_ne.mpr c44
       have c44b1 : ((rd x5_1 (ji41)) != a0) = true := bne_iff_ne.mpr c44
       obtain rfl := Option.some.inj H
       obtain ⟨Ao48, co48, eo48⟩ := Kd.R_slice HO_5.out
       subst eo48
       have p318 : 0 ≤ ((ji41) : Int) := of_decide_eq_true (by first | (with_reducible assumption) | assumption)
       have q318 : (ji41) < (x5_1.length : Int) := of_decide_eq_true (by first | (with_reducible assumption) | assumption)
       obtain ⟨ad318, e318, hx318_0⟩ := Kd.at_int (Kd.R_reads' HO_5.out).2.2 (ji41) p318 q318
       cases e318
       replace p318 := eq_true p318
       replace q318 := eq_true q318
       go_wp2
       go_ret
       exact ⟨by first | rfl | (simp [errW_none, errW_some] <;> rfl) | (simp only [← hji41]; first | rfl | (simp [errW_none, errW_some] <;> rfl)) | (simp [*, errW_none, errW_some] <;> rfl), by repeat (first | (with_reducible first | exact HB.out | apply below_alloc | apply pw_below_drewN | apply below_drew1) | exact HB.out)⟩
     ·rw [if_neg c43] at H
      exact absurd H (by simp)
    ·rw [if_neg c42] at H
     exact absurd H (by simp)

end Go.Proofs.Ytjkhgigmhmghbaa.PFnProductRuns
