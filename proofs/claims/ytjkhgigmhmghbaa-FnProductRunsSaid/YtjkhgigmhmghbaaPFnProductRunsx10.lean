-- out of the kit's print, turned by wip/own_print.py
import Derived.Test.YtjkhgigmhmghbaaPFnProductRunsx0
import Derived.Test.YtjkhgigmhmghbaaPFnProductRunsx1
import Derived.Test.YtjkhgigmhmghbaaPFnProductRunsx2
import Derived.Test.YtjkhgigmhmghbaaPFnProductRunsx4
import Derived.Test.YtjkhgigmhmghbaaPFnProductRunsx9
namespace Go.Proofs.Ytjkhgigmhmghbaa.PFnProductRuns
open Go.RowKit Go.Proofs.YtjkhgigmhmghbaaW.PrintWords Go.Proofs.YtjkhgigmhmghbaaW.PrintLast Go.Proofs.YtjkhgigmhmghbaaW.PrintMore
attribute [local go_sem] max2_int min2_int max_two min_two max_three min_three max_four min_four   -- for this text's walks alone
set_option linter.unusedVariables false
set_option linter.unusedSimpArgs false

/-! ### impl_LeastPersistent: function 23 -/
section
theorem impl_LeastPersistent.gt {w a b : World} {g : Nat} (h : w.grownBy a (some g)) (k : a.grownBy b (some g)) : w.grownBy b (some g) :=
 ⟨k.os.trans h.os, k.tape.trans h.tape, k.output.trans h.output, Nat.le_trans h.size k.size, fun i hi hne => (k.block i (Nat.lt_of_lt_of_le hi h.size) hne).trans (h.block i hi hne)⟩
theorem impl_LeastPersistent.gr (g : Nat) (w : World) : w.grownBy w (some g) := ⟨rfl, rfl, rfl, Nat.le_refl _, fun _ _ _ => rfl⟩
theorem impl_LeastPersistent.gb {w a : World} (g : Nat) (h : Below w.heap.size w a) : w.grownBy a (some g) := ⟨h.os, h.tape, h.output, h.size, fun i hi _ => h.block i hi⟩
theorem impl_LeastPersistent.gd (g : Nat) (w : World) (n : Nat) : w.grownBy (w.drewN n) (some g) := impl_LeastPersistent.gb g (pw_below_drewN (Below.refl _ _) n)
theorem impl_LeastPersistent.gdr (g : Nat) {w w1 : World} (h : w.grownBy w1 (some g)) : w.grownBy w1.drew (some g) := impl_LeastPersistent.gt h (impl_LeastPersistent.gb g (below_drew1 (Below.refl _ _)))
theorem impl_LeastPersistent.gset {w : World} {g : Nat} {cs : Array Value} {t : TypeId} (h : w.heap[g]? = some (.cells cs t (0, 0))) (u : Value) : w.grownBy (w.setCell ⟨g, 0, none⟩ u) (some g) := by
 have hb : Below g w (w.setCell ⟨g, 0, none⟩ u) := (Below.refl g w).setCell (Nat.le_refl _) u
 exact ⟨hb.os, hb.tape, hb.output, hb.size, fun i _ hne => Below.heap_setCell w ⟨g, 0, none⟩ u i (fun e => hne (by rw [e]))⟩
theorem impl_LeastPersistent.below {w0 w w1 : World} {g : Nat} (h : Below w0.heap.size w0 w) (k : w.grownBy w1 (some g)) (hg : w0.heap.size ≤ g) : Below w0.heap.size w0 w1 :=
 h.grown k h.size (fun j e => by cases e; exact hg)
theorem impl_LeastPersistent.far {w w1 : World} {g i : Nat} {o : Obj} (k : w.grownBy w1 (some g)) (h : w.heap[i]? = some o) (hne : i ≠ g) : w1.heap[i]? = some o :=
 (k.block i (blk_lt h) (fun e => hne (Option.some.inj e))).trans h
theorem impl_LeastPersistent.row {w w1 : World} {g base : Nat} {u : Value} {l : List Int} (h : w.grownBy w1 (some g)) (hu : Kd.R (Kd.int .i64) 3 w base (fun k => k ≠ g) u l) : Kd.R (Kd.int .i64) 3 w1 base (fun k => k ≠ g) u l := by
 refine Kd.R_mono (Kd.R_move (Kd.R_bound hu) ?_) (fun _ hk => hk.1)
 rintro k ⟨hk, _, hlt, _⟩
 exact h.block k hlt (fun e => hk (Option.some.inj e))
def impl_LeastPersistent.Hd (b kk o : Int) (gb go gk : Nat) (w : World) : Prop :=
 w.heap[go]? = some (.cells #[.int .i64 o] 3 (0, 0)) ∧ w.cell? ⟨go, 0, none⟩ = some (.int .i64 o) ∧ w.cell? ⟨gb, 0, none⟩ = some (.int .i64 b) ∧ w.cell? ⟨gk, 0, none⟩ = some (.int .i64 kk)
theorem impl_LeastPersistent.Hd.below {b kk o : Int} {gb go gk : Nat} {w w1 : World} (h : impl_LeastPersistent.Hd b kk o gb go gk w) (hb : Below w.heap.size w w1) : impl_LeastPersistent.Hd b kk o gb go gk w1 :=
 ⟨(hb.block _ (blk_lt h.1)).trans h.1, pw_cell_below hb h.2.1, pw_cell_below hb h.2.2.1, pw_cell_below hb h.2.2.2⟩
end
def impl_LeastPersistent.st (b kk : Int) (k : Nat) (l : List Int) (o : Int) : Option Int :=
 (impl_value.f k l b).bind fun v => if o = 0 then (if v ≤ 10000000 then (impl_down.f k v b).bind fun r => if wrap64 ((r.length : Int) - 1) = kk then some v else some o else some o) else some o
theorem impl_LeastPersistent.st_mono (b kk : Int) (k : Nat) (l : List Int) (o : Int) : LeO (impl_LeastPersistent.st b kk k l o) (impl_LeastPersistent.st b kk (k + 1) l o) := by
 unfold impl_LeastPersistent.st
 exact LeO.bind (impl_value.mono _ _ _) (fun v => LeO.ite (LeO.ite (LeO.bind (impl_down.mono _ _ _) (fun _ => LeO.refl _)) (LeO.refl _)) (LeO.refl _))
def impl_LeastPersistent.T1 : Bool × List (List Nat × List Nat) := (true, [([], []), ([0], [0]), ([1], [1]), ([2], [2]), ([3, 2], [2, 3]), ([2, 4], [2, 4]), ([5, 2], [5]), ([6], [6]), ([6], [6]), ([7, 8, 6, 6], [6, 7, 8]), ([9, 6], [6, 9]), ([10, 6], [6, 10]), ([6], [6]), ([11, 12, 6], [6, 11, 12]), ([6, 13], [6, 13])])
def impl_LeastPersistent.B1 : List Nat := [0, 1, 3, 7, 15, 31, 63, 127, 127, 511, 1023, 2047, 127, 8191, 16383]
theorem impl_LeastPersistent.tab1 : rtab .any (opsOf Try.f53 1) = impl_LeastPersistent.T1 := by kernel_rfl
theorem impl_LeastPersistent.bits1 : waitsOk impl_LeastPersistent.T1.2 impl_LeastPersistent.B1 = true := by kernel_rfl
set_option maxHeartbeats 8000000 in
set_option maxRecDepth 100000 in
theorem impl_LeastPersistent.each (k : Nat) (b kk : Int) (l : List Int) (o o' : Int) (gb go gk : Nat) (u : Value) (base : Nat) (ok : Nat → Prop) (w : World) (h : impl_LeastPersistent.st b kk k l o = some o') (hgb : w.heap[gb]? = some (.cells #[.int .i64 b] 3 (0, 0))) (hgo : w.heap[go]? = some (.cells #[.int .i64 o] 3 (0, 0))) (hgk : w.heap[gk]? = some (.cells #[.int .i64 kk] 3 (0, 0))) (hU : Kd.R (Kd.int .i64) 3 w base ok u l) :
  Calls Try.prog 53 #[u, .pointer (some ⟨gb, 0, none⟩), .pointer (some ⟨go, 0, none⟩), .pointer (some ⟨gk, 0, none⟩)] w fun e w' => e = .returned (.tuple #[]) ∧ w.grownBy w' (some go) ∧ w'.heap[go]? = some (.cells #[.int .i64 o'] 3 (0, 0)) := by
 obtain ⟨A, c, rfl⟩ := Kd.R_slice hU
 unfold impl_LeastPersistent.st at h
 obtain ⟨v, hv, h2⟩ := Option.bind_eq_some_iff.1 h
 have A1 := Aside0.mk hv
 have HD := Aside0.mk (show impl_LeastPersistent.Hd b kk o gb go gk w from ⟨hgo, (blk_cell hgo 0).trans rfl, (blk_cell hgb 0).trans rfl, (blk_cell hgk 0).trans rfl⟩)
 have cgb := HD.out.2.2.1
 have HU := Aside0.mk hU
 clear hv h hgb hgo hgk hU
 by_cases q1 : o = 0
 case neg =>
  rw [if_neg q1] at h2
  obtain rfl := Option.some.inj h2
  have b1 : (o == 0) = false := beq_eq_false_iff_ne.mpr q1
  clear q1 h2
  go_enter Try.func53, Try.ntmps53
  go_wp2_with (go_at_call 34; refine (impl_value.calls k A c l b v _ (Kd.R_reads' HU.out).2.2 (Kd.R_reads' HU.out).2.1 A1.out).mono ?_; rintro e w' ⟨rfl, ⟨nd, rfl⟩⟩)
  have n1_ := Aside0.mk (impl_LeastPersistent.gd go w nd)
  refine start_ (n := 15) (S := impl_LeastPersistent.Hd b kk o gb go gk) (ds := []) #[false, false, false, false, false, false, false, false, false, false, false, false, false, false, false] (by kernel_rfl) rfl rfl (impl_LeastPersistent.Hd.below HD.out (below_drew1 (pw_below_drewN (Below.refl _ _) nd))) (fun hHeld => ?_); refine with_tabW impl_LeastPersistent.tab1 impl_LeastPersistent.bits1 (fun HT_ HW_ => ?_)
  have HG0 := Aside0.mk (impl_LeastPersistent.gdr go (w := w) (w1 := w.drewN nd) n1_.out)
  clear n1_ HU HD cgb
  generalize World.drew _ = w4 at HG0 hHeld ⊢
  refine take_ (i := 0) (N := some 9) (v := ?_) (a' := ?_) #[true, false, false, false, false, false, false, false, false, false, false, false, false, false, false] rfl rfl (take_ofW HT_.out HW_.out (by kernel_rfl)) (fun _ _ _ h => h) (Or.inl ⟨by rfl, ?_⟩) hHeld ?_ ?_
  rotate_left
  ·rintro w' ⟨_, s0_, s1_, s2_⟩
   go_simp
   with_reducible rfl
  rotate_left
  ·simp only [Act.put, List.setIfInBounds_toArray, List.set_cons_zero, List.set_cons_succ, i64_w, i32_w]
   rfl
  refine pure_ (i := 1) (N := some 10) (v := ?_) (a' := ?_) #[true, true, false, false, false, false, false, false, false, false, false, false, false, false, false] rfl rfl (any_of HT_.out (by kernel_rfl)) (fun _ _ _ h => h) (Or.inl ⟨by rfl, ?_⟩) ?_ ?_
  rotate_left
  ·intro w'
   go_simp
   first | done | (with_reducible rfl) | rfl
  rotate_left
  ·simp only [Act.put, List.setIfInBounds_toArray, List.set_cons_zero, List.set_cons_succ, i64_w, i32_w]
   rfl
  refine pure_ (i := 2) (N := some 11) (v := ?_) (a' := ?_) #[true, true, true, false, false, false, false, false, false, false, false, false, false, false, false] rfl rfl (any_of HT_.out (by kernel_rfl)) (fun _ _ _ h => h) (Or.inl ⟨by rfl, ?_⟩) ?_ ?_
  rotate_left
  ·intro w'
   go_simp
   first | done | (with_reducible rfl) | rfl
  rotate_left
  ·simp only [Act.put, List.setIfInBounds_toArray, List.set_cons_zero, List.set_cons_succ, i64_w, i32_w]
   rfl
  refine pure_ (i := 3) (N := some 12) (v := undef) (a' := ?_) #[true, true, true, true, false, false, false, false, false, false, false, false, false, false, false] rfl rfl (any_of HT_.out (by kernel_rfl)) (fun _ _ _ h => h) (Or.inr ⟨by rfl, rfl⟩) ?_ ?_
  rotate_left
  ·simp only [Act.put, List.setIfInBounds_toArray, List.set_cons_zero, List.set_cons_succ, i64_w, i32_w]
   rfl
  refine pure_ (i := 4) (N := some 13) (v := undef) (a' := ?_) #[true, true, true, true, true, false, false, false, false, false, false, false, false, false, false] rfl rfl (any_of HT_.out (by kernel_rfl)) (fun _ _ _ h => h) (Or.inr ⟨by rfl, rfl⟩) ?_ ?_
  rotate_left
  ·simp only [Act.put, List.setIfInBounds_toArray, List.set_cons_zero, List.set_cons_succ, i64_w, i32_w]
   rfl
  refine pure_ (i := 5) (N := some 14) (v := ?_) (a' := ?_) #[true, true, true, true, true, true, false, false, false, false, false, false, false, false, false] rfl rfl (any_of HT_.out (by kernel_rfl)) (fun _ _ _ h => h) (Or.inl ⟨by rfl, ?_⟩) ?_ ?_
  rotate_left
  ·intro w'
   go_simp
   first | done | (with_reducible rfl) | rfl
  rotate_left
  ·simp only [Act.put, List.setIfInBounds_toArray, List.set_cons_zero, List.set_cons_succ, i64_w, i32_w]
   rfl
  refine pure_ (i := 6) (N := some 15) (v := ?_) (a' := ?_) #[true, true, true, true, true, true, true, false, false, false, false, false, false, false, false] rfl rfl (any_of HT_.out (by kernel_rfl)) (fun _ _ _ h => h) (Or.inl ⟨by rfl, ?_⟩) ?_ ?_
  rotate_left
  ·intro w'
   go_simp
   first | done | (with_reducible rfl) | rfl
  rotate_left
  ·simp only [Act.put, List.setIfInBounds_toArray, List.set_cons_zero, List.set_cons_succ, i64_w, i32_w]
   rfl
  refine pure_ (i := 7) (N := some 16) (v := undef) (a' := ?_) #[true, true, true, true, true, true, true, true, false, false, false, false, false, false, false] rfl rfl (any_of HT_.out (by kernel_rfl)) (fun _ _ _ h => h) (Or.inr ⟨by rfl, rfl⟩) ?_ ?_
  rotate_left
  ·simp only [Act.put, List.setIfInBounds_toArray, List.set_cons_zero, List.set_cons_succ, i64_w, i32_w]
   rfl
  refine pure_ (i := 8) (N := some 17) (v := undef) (a' := ?_) #[true, true, true, true, true, true, true, true, true, false, false, false, false, false, false] rfl rfl (any_of HT_.out (by kernel_rfl)) (fun _ _ _ h => h) (Or.inr ⟨by rfl, rfl⟩) ?_ ?_
  rotate_left
  ·simp only [Act.put, List.setIfInBounds_toArray, List.set_cons_zero, List.set_cons_succ, i64_w, i32_w]
   rfl
  refine pure_ (i := 12) (N := some 21) (v := undef) (a' := ?_) #[true, true, true, true, true, true, true, true, true, false, false, false, true, false, false] rfl rfl (any_of HT_.out (by kernel_rfl)) (fun _ _ _ h => h) (Or.inr ⟨by rfl, rfl⟩) ?_ ?_
  rotate_left
  ·simp only [Act.put, List.setIfInBounds_toArray, List.set_cons_zero, List.set_cons_succ, i64_w, i32_w]
   rfl
  refine one_ (i := 9) (N := some 18) #[true, true, true, true, true, true, true, true, true, true, false, false, true, false, false] rfl rfl (one_of HT_.out (by kernel_rfl)) (by decide) (fun K hK => ?_)
  refine off_ (by rfl) ?_
  refine hK.out _ _ hHeld (fun hHeld2 => ?_)
  clear hK K
  refine norm_ (a' := ?_) ?_ ?_
  rotate_left
  ·show Act.put _ (some 18) _ = _
   simp only [Act.put, List.setIfInBounds_toArray, List.set_cons_zero, List.set_cons_succ, i64_w, i32_w]
   rfl
  refine pure_ (i := 10) (N := some 19) (v := undef) (a' := ?_) #[true, true, true, true, true, true, true, true, true, true, true, false, true, false, false] rfl rfl (any_of HT_.out (by kernel_rfl)) (fun _ _ _ h => h) (Or.inr ⟨by rfl, rfl⟩) ?_ ?_
  rotate_left
  ·simp only [Act.put, List.setIfInBounds_toArray, List.set_cons_zero, List.set_cons_succ, i64_w, i32_w]
   rfl
  refine pure_ (i := 11) (N := some 20) (v := undef) (a' := ?_) #[true, true, true, true, true, true, true, true, true, true, true, true, true, false, false] rfl rfl (any_of HT_.out (by kernel_rfl)) (fun _ _ _ h => h) (Or.inr ⟨by rfl, rfl⟩) ?_ ?_
  rotate_left
  ·simp only [Act.put, List.setIfInBounds_toArray, List.set_cons_zero, List.set_cons_succ, i64_w, i32_w]
   rfl
  refine pure_ (i := 13) (N := some 22) (v := undef) (a' := ?_) #[true, true, true, true, true, true, true, true, true, true, true, true, true, true, false] rfl rfl (any_of HT_.out (by kernel_rfl)) (fun _ _ _ h => h) (Or.inr ⟨by rfl, rfl⟩) ?_ ?_
  rotate_left
  ·simp only [Act.put, List.setIfInBounds_toArray, List.set_cons_zero, List.set_cons_succ, i64_w, i32_w]
   rfl
  refine pure_ (i := 14) (N := some 23) (v := ?_) (a' := ?_) #[true, true, true, true, true, true, true, true, true, true, true, true, true, true, true] rfl rfl (any_of HT_.out (by kernel_rfl)) (fun _ _ _ h => h) (Or.inl ⟨by rfl, ?_⟩) ?_ ?_
  rotate_left
  ·intro w'
   go_simp
   first | done | (with_reducible rfl) | rfl
  rotate_left
  ·simp only [Act.put, List.setIfInBounds_toArray, List.set_cons_zero, List.set_cons_succ, i64_w, i32_w]
   rfl
  refine done_ (done_of HT_.out (by kernel_rfl)) ?_
  try go_wp2
  first | go_end0 | ((try simp only [Exit.inBlock, Exit.then]); refine bodyPost_ret (results_none rfl _ _ _) rfl ?_) | skip
  exact ⟨rfl, HG0.out, hHeld2.1⟩
 case pos =>
  rw [if_pos q1] at h2
  have b1 : (o == 0) = true := beq_iff_eq.mpr q1
  by_cases q2 : v ≤ 10000000
  case neg =>
   rw [if_neg q2] at h2
   obtain rfl := Option.some.inj h2
   have b2 : decide (v ≤ 10000000) = false := decide_eq_false q2
   clear q1 q2 h2
   go_enter Try.func53, Try.ntmps53
   go_wp2_with (go_at_call 34; refine (impl_value.calls k A c l b v _ (Kd.R_reads' HU.out).2.2 (Kd.R_reads' HU.out).2.1 A1.out).mono ?_; rintro e w' ⟨rfl, ⟨nd, rfl⟩⟩)
   have n1_ := Aside0.mk (impl_LeastPersistent.gd go w nd)
   refine start_ (n := 15) (S := impl_LeastPersistent.Hd b kk o gb go gk) (ds := []) #[false, false, false, false, false, false, false, false, false, false, false, false, false, false, false] (by kernel_rfl) rfl rfl (impl_LeastPersistent.Hd.below HD.out (below_drew1 (pw_below_drewN (Below.refl _ _) nd))) (fun hHeld => ?_); refine with_tabW impl_LeastPersistent.tab1 impl_LeastPersistent.bits1 (fun HT_ HW_ => ?_)
   have HG0 := Aside0.mk (impl_LeastPersistent.gdr go (w := w) (w1 := w.drewN nd) n1_.out)
   clear n1_ HU HD cgb
   generalize World.drew _ = w4 at HG0 hHeld ⊢
   refine take_ (i := 0) (N := some 9) (v := ?_) (a' := ?_) #[true, false, false, false, false, false, false, false, false, false, false, false, false, false, false] rfl rfl (take_ofW HT_.out HW_.out (by kernel_rfl)) (fun _ _ _ h => h) (Or.inl ⟨by rfl, ?_⟩) hHeld ?_ ?_
   rotate_left
   ·rintro w' ⟨_, s0_, s1_, s2_⟩
    go_simp
    with_reducible rfl
   rotate_left
   ·simp only [Act.put, List.setIfInBounds_toArray, List.set_cons_zero, List.set_cons_succ, i64_w, i32_w]
    rfl
   refine pure_ (i := 1) (N := some 10) (v := ?_) (a' := ?_) #[true, true, false, false, false, false, false, false, false, false, false, false, false, false, false] rfl rfl (any_of HT_.out (by kernel_rfl)) (fun _ _ _ h => h) (Or.inl ⟨by rfl, ?_⟩) ?_ ?_
   rotate_left
   ·intro w'
    go_simp
    first | done | (with_reducible rfl) | rfl
   rotate_left
   ·simp only [Act.put, List.setIfInBounds_toArray, List.set_cons_zero, List.set_cons_succ, i64_w, i32_w]
    rfl
   refine pure_ (i := 2) (N := some 11) (v := ?_) (a' := ?_) #[true, true, true, false, false, false, false, false, false, false, false, false, false, false, false] rfl rfl (any_of HT_.out (by kernel_rfl)) (fun _ _ _ h => h) (Or.inl ⟨by rfl, ?_⟩) ?_ ?_
   rotate_left
   ·intro w'
    go_simp
    first | done | (with_reducible rfl) | rfl
   rotate_left
   ·simp only [Act.put, List.setIfInBounds_toArray, List.set_cons_zero, List.set_cons_succ, i64_w, i32_w]
    rfl
   refine pure_ (i := 3) (N := some 12) (v := ?_) (a' := ?_) #[true, true, true, true, false, false, false, false, false, false, false, false, false, false, false] rfl rfl (any_of HT_.out (by kernel_rfl)) (fun _ _ _ h => h) (Or.inl ⟨by rfl, ?_⟩) ?_ ?_
   rotate_left
   ·intro w'
    go_simp
    first | done | (with_reducible rfl) | rfl
   rotate_left
   ·simp only [Act.put, List.setIfInBounds_toArray, List.set_cons_zero, List.set_cons_succ, i64_w, i32_w]
    rfl
   refine pure_ (i := 4) (N := some 13) (v := ?_) (a' := ?_) #[true, true, true, true, true, false, false, false, false, false, false, false, false, false, false] rfl rfl (any_of HT_.out (by kernel_rfl)) (fun _ _ _ h => h) (Or.inl ⟨by rfl, ?_⟩) ?_ ?_
   rotate_left
   ·intro w'
    go_simp
    first | done | (with_reducible rfl) | rfl
   rotate_left
   ·simp only [Act.put, List.setIfInBounds_toArray, List.set_cons_zero, List.set_cons_succ, i64_w, i32_w]
    rfl
   refine pure_ (i := 5) (N := some 14) (v := ?_) (a' := ?_) #[true, true, true, true, true, true, false, false, false, false, false, false, false, false, false] rfl rfl (any_of HT_.out (by kernel_rfl)) (fun _ _ _ h => h) (Or.inl ⟨by rfl, ?_⟩) ?_ ?_
   rotate_left
   ·intro w'
    go_simp
    first | done | (with_reducible rfl) | rfl
   rotate_left
   ·simp only [Act.put, List.setIfInBounds_toArray, List.set_cons_zero, List.set_cons_succ, i64_w, i32_w]
    rfl
   refine pure_ (i := 6) (N := some 15) (v := ?_) (a' := ?_) #[true, true, true, true, true, true, true, false, false, false, false, false, false, false, false] rfl rfl (any_of HT_.out (by kernel_rfl)) (fun _ _ _ h => h) (Or.inl ⟨by rfl, ?_⟩) ?_ ?_
   rotate_left
   ·intro w'
    go_simp
    first | done | (with_reducible rfl) | rfl
   rotate_left
   ·simp only [Act.put, List.setIfInBounds_toArray, List.set_cons_zero, List.set_cons_succ, i64_w, i32_w]
    rfl
   refine pure_ (i := 7) (N := some 16) (v := undef) (a' := ?_) #[true, true, true, true, true, true, true, true, false, false, false, false, false, false, false] rfl rfl (any_of HT_.out (by kernel_rfl)) (fun _ _ _ h => h) (Or.inr ⟨by rfl, rfl⟩) ?_ ?_
   rotate_left
   ·simp only [Act.put, List.setIfInBounds_toArray, List.set_cons_zero, List.set_cons_succ, i64_w, i32_w]
    rfl
   refine pure_ (i := 8) (N := some 17) (v := undef) (a' := ?_) #[true, true, true, true, true, true, true, true, true, false, false, false, false, false, false] rfl rfl (any_of HT_.out (by kernel_rfl)) (fun _ _ _ h => h) (Or.inr ⟨by rfl, rfl⟩) ?_ ?_
   rotate_left
   ·simp only [Act.put, List.setIfInBounds_toArray, List.set_cons_zero, List.set_cons_succ, i64_w, i32_w]
    rfl
   refine pure_ (i := 12) (N := some 21) (v := undef) (a' := ?_) #[true, true, true, true, true, true, true, true, true, false, false, false, true, false, false] rfl rfl (any_of HT_.out (by kernel_rfl)) (fun _ _ _ h => h) (Or.inr ⟨by rfl, rfl⟩) ?_ ?_
   rotate_left
   ·simp only [Act.put, List.setIfInBounds_toArray, List.set_cons_zero, List.set_cons_succ, i64_w, i32_w]
    rfl
   refine one_ (i := 9) (N := some 18) #[true, true, true, true, true, true, true, true, true, true, false, false, true, false, false] rfl rfl (one_of HT_.out (by kernel_rfl)) (by decide) (fun K hK => ?_)
   refine off_ (by rfl) ?_
   refine hK.out _ _ hHeld (fun hHeld2 => ?_)
   clear hK K
   refine norm_ (a' := ?_) ?_ ?_
   rotate_left
   ·show Act.put _ (some 18) _ = _
    simp only [Act.put, List.setIfInBounds_toArray, List.set_cons_zero, List.set_cons_succ, i64_w, i32_w]
    rfl
   refine pure_ (i := 10) (N := some 19) (v := undef) (a' := ?_) #[true, true, true, true, true, true, true, true, true, true, true, false, true, false, false] rfl rfl (any_of HT_.out (by kernel_rfl)) (fun _ _ _ h => h) (Or.inr ⟨by rfl, rfl⟩) ?_ ?_
   rotate_left
   ·simp only [Act.put, List.setIfInBounds_toArray, List.set_cons_zero, List.set_cons_succ, i64_w, i32_w]
    rfl
   refine pure_ (i := 11) (N := some 20) (v := undef) (a' := ?_) #[true, true, true, true, true, true, true, true, true, true, true, true, true, false, false] rfl rfl (any_of HT_.out (by kernel_rfl)) (fun _ _ _ h => h) (Or.inr ⟨by rfl, rfl⟩) ?_ ?_
   rotate_left
   ·simp only [Act.put, List.setIfInBounds_toArray, List.set_cons_zero, List.set_cons_succ, i64_w, i32_w]
    rfl
   refine pure_ (i := 13) (N := some 22) (v := undef) (a' := ?_) #[true, true, true, true, true, true, true, true, true, true, true, true, true, true, false] rfl rfl (any_of HT_.out (by kernel_rfl)) (fun _ _ _ h => h) (Or.inr ⟨by rfl, rfl⟩) ?_ ?_
   rotate_left
   ·simp only [Act.put, List.setIfInBounds_toArray, List.set_cons_zero, List.set_cons_succ, i64_w, i32_w]
    rfl
   refine pure_ (i := 14) (N := some 23) (v := ?_) (a' := ?_) #[true, true, true, true, true, true, true, true, true, true, true, true, true, true, true] rfl rfl (any_of HT_.out (by kernel_rfl)) (fun _ _ _ h => h) (Or.inl ⟨by rfl, ?_⟩) ?_ ?_
   rotate_left
   ·intro w'
    go_simp
    first | done | (with_reducible rfl) | rfl
   rotate_left
   ·simp only [Act.put, List.setIfInBounds_toArray, List.set_cons_zero, List.set_cons_succ, i64_w, i32_w]
    rfl
   refine done_ (done_of HT_.out (by kernel_rfl)) ?_
   try go_wp2
   first | go_end0 | ((try simp only [Exit.inBlock, Exit.then]); refine bodyPost_ret (results_none rfl _ _ _) rfl ?_) | skip
   exact ⟨rfl, HG0.out, hHeld2.1⟩
  case pos =>
   rw [if_pos q2] at h2
   have b2 : decide (v ≤ 10000000) = true := decide_eq_true q2
   obtain ⟨r, hr, h3⟩ := Option.bind_eq_some_iff.1 h2
   have A4 := Aside0.mk hr
   clear q1 q2 h2 hr
   by_cases q3 : wrap64 ((r.length : Int) - 1) = kk
   case neg =>
    rw [if_neg q3] at h3
    obtain rfl := Option.some.inj h3
    have b3 : (wrap64 ((r.length : Int) - 1) == kk) = false := beq_eq_false_iff_ne.mpr q3
    clear q3 h3
    go_enter Try.func53, Try.ntmps53
    go_wp2_with (go_at_call 34; refine (impl_value.calls k A c l b v _ (Kd.R_reads' HU.out).2.2 (Kd.R_reads' HU.out).2.1 A1.out).mono ?_; rintro e w' ⟨rfl, ⟨nd, rfl⟩⟩)
    have n1_ := Aside0.mk (impl_LeastPersistent.gd go w nd)
    refine start_ (n := 15) (S := impl_LeastPersistent.Hd b kk o gb go gk) (ds := []) #[false, false, false, false, false, false, false, false, false, false, false, false, false, false, false] (by kernel_rfl) rfl rfl (impl_LeastPersistent.Hd.below HD.out (below_drew1 (pw_below_drewN (Below.refl _ _) nd))) (fun hHeld => ?_); refine with_tabW impl_LeastPersistent.tab1 impl_LeastPersistent.bits1 (fun HT_ HW_ => ?_)
    have HG0 := Aside0.mk (impl_LeastPersistent.gdr go (w := w) (w1 := w.drewN nd) n1_.out)
    clear n1_ HU HD cgb
    generalize World.drew _ = w4 at HG0 hHeld ⊢
    refine take_ (i := 0) (N := some 9) (v := ?_) (a' := ?_) #[true, false, false, false, false, false, false, false, false, false, false, false, false, false, false] rfl rfl (take_ofW HT_.out HW_.out (by kernel_rfl)) (fun _ _ _ h => h) (Or.inl ⟨by rfl, ?_⟩) hHeld ?_ ?_
    rotate_left
    ·rintro w' ⟨_, s0_, s1_, s2_⟩
     go_simp
     with_reducible rfl
    rotate_left
    ·simp only [Act.put, List.setIfInBounds_toArray, List.set_cons_zero, List.set_cons_succ, i64_w, i32_w]
     rfl
    refine pure_ (i := 1) (N := some 10) (v := ?_) (a' := ?_) #[true, true, false, false, false, false, false, false, false, false, false, false, false, false, false] rfl rfl (any_of HT_.out (by kernel_rfl)) (fun _ _ _ h => h) (Or.inl ⟨by rfl, ?_⟩) ?_ ?_
    rotate_left
    ·intro w'
     go_simp
     first | done | (with_reducible rfl) | rfl
    rotate_left
    ·simp only [Act.put, List.setIfInBounds_toArray, List.set_cons_zero, List.set_cons_succ, i64_w, i32_w]
     rfl
    refine pure_ (i := 2) (N := some 11) (v := ?_) (a' := ?_) #[true, true, true, false, false, false, false, false, false, false, false, false, false, false, false] rfl rfl (any_of HT_.out (by kernel_rfl)) (fun _ _ _ h => h) (Or.inl ⟨by rfl, ?_⟩) ?_ ?_
    rotate_left
    ·intro w'
     go_simp
     first | done | (with_reducible rfl) | rfl
    rotate_left
    ·simp only [Act.put, List.setIfInBounds_toArray, List.set_cons_zero, List.set_cons_succ, i64_w, i32_w]
     rfl
    refine pure_ (i := 3) (N := some 12) (v := ?_) (a' := ?_) #[true, true, true, true, false, false, false, false, false, false, false, false, false, false, false] rfl rfl (any_of HT_.out (by kernel_rfl)) (fun _ _ _ h => h) (Or.inl ⟨by rfl, ?_⟩) ?_ ?_
    rotate_left
    ·intro w'
     go_simp
     first | done | (with_reducible rfl) | rfl
    rotate_left
    ·simp only [Act.put, List.setIfInBounds_toArray, List.set_cons_zero, List.set_cons_succ, i64_w, i32_w]
     rfl
    refine pure_ (i := 4) (N := some 13) (v := ?_) (a' := ?_) #[true, true, true, true, true, false, false, false, false, false, false, false, false, false, false] rfl rfl (any_of HT_.out (by kernel_rfl)) (fun _ _ _ h => h) (Or.inl ⟨by rfl, ?_⟩) ?_ ?_
    rotate_left
    ·intro w'
     go_simp
     first | done | (with_reducible rfl) | rfl
    rotate_left
    ·simp only [Act.put, List.setIfInBounds_toArray, List.set_cons_zero, List.set_cons_succ, i64_w, i32_w]
     rfl
    refine pure_ (i := 5) (N := some 14) (v := ?_) (a' := ?_) #[true, true, true, true, true, true, false, false, false, false, false, false, false, false, false] rfl rfl (any_of HT_.out (by kernel_rfl)) (fun _ _ _ h => h) (Or.inl ⟨by rfl, ?_⟩) ?_ ?_
    rotate_left
    ·intro w'
     go_simp
     first | done | (with_reducible rfl) | rfl
    rotate_left
    ·simp only [Act.put, List.setIfInBounds_toArray, List.set_cons_zero, List.set_cons_succ, i64_w, i32_w]
     rfl
    refine pure_ (i := 6) (N := some 15) (v := ?_) (a' := ?_) #[true, true, true, true, true, true, true, false, false, false, false, false, false, false, false] rfl rfl (any_of HT_.out (by kernel_rfl)) (fun _ _ _ h => h) (Or.inl ⟨by rfl, ?_⟩) ?_ ?_
    rotate_left
    ·intro w'
     go_simp
     first | done | (with_reducible rfl) | rfl
    rotate_left
    ·simp only [Act.put, List.setIfInBounds_toArray, List.set_cons_zero, List.set_cons_succ, i64_w, i32_w]
     rfl
    refine pure_ (i := 7) (N := some 16) (v := ?_) (a' := ?_) #[true, true, true, true, true, true, true, true, false, false, false, false, false, false, false] rfl rfl (any_of HT_.out (by kernel_rfl)) (fun _ _ _ h => h) (Or.inl ⟨by rfl, ?_⟩) ?_ ?_
    rotate_left
    ·intro w'
     go_simp
     first | done | (with_reducible rfl) | rfl
    rotate_left
    ·simp only [Act.put, List.setIfInBounds_toArray, List.set_cons_zero, List.set_cons_succ, i64_w, i32_w]
     rfl
    refine take_ (i := 8) (N := some 17) (v := ?_) (a' := ?_) #[true, true, true, true, true, true, true, true, true, false, false, false, false, false, false] rfl rfl (take_ofW HT_.out HW_.out (by kernel_rfl)) (fun _ _ _ h => h) (Or.inl ⟨by rfl, ?_⟩) hHeld ?_ ?_
    rotate_left
    ·rintro w' ⟨_, s0_, s1_, s2_⟩
     go_simp
     with_reducible rfl
    rotate_left
    ·simp only [Act.put, List.setIfInBounds_toArray, List.set_cons_zero, List.set_cons_succ, i64_w, i32_w]
     rfl
    refine take_ (i := 12) (N := some 21) (v := ?_) (a' := ?_) #[true, true, true, true, true, true, true, true, true, false, false, false, true, false, false] rfl rfl (take_ofW HT_.out HW_.out (by kernel_rfl)) (fun _ _ _ h => h) (Or.inl ⟨by rfl, ?_⟩) hHeld ?_ ?_
    rotate_left
    ·rintro w' ⟨_, s0_, s1_, s2_⟩
     go_simp
     with_reducible rfl
    rotate_left
    ·simp only [Act.put, List.setIfInBounds_toArray, List.set_cons_zero, List.set_cons_succ, i64_w, i32_w]
     rfl
    refine one_ (i := 9) (N := some 18) #[true, true, true, true, true, true, true, true, true, true, false, false, true, false, false] rfl rfl (one_of HT_.out (by kernel_rfl)) (by decide) (fun K hK => ?_)
    refine goes_ Try.func28 (by kernel_rfl) rfl #[.int .i64 v, .int .i64 b, .func (.func 29) #[] #[]] (by rfl) rfl rfl (by (try simp only [List.map_toArray, List.map_cons, List.map_nil]); first | done | rfl) ?_
    refine (impl_down.calls k v b r _ A4.out).mono ?_
    rintro e w5 ⟨vc, rfl, hoc, hbc⟩
    refine ⟨_, rfl, ?_⟩
    have HG := Aside0.mk (impl_LeastPersistent.gt HG0.out (impl_LeastPersistent.gb go hbc))
    refine hK.out _ _ (impl_LeastPersistent.Hd.below hHeld hbc) (fun hHeld2 => ?_)
    obtain ⟨Ac, cc, rfl⟩ := Kd.R_slice hoc
    clear hoc
    clear hK K
    refine norm_ (a' := ?_) ?_ ?_
    rotate_left
    ·show Act.put _ (some 18) _ = _
     simp only [Act.put, List.setIfInBounds_toArray, List.set_cons_zero, List.set_cons_succ, i64_w, i32_w]
     rfl
    refine pure_ (i := 10) (N := some 19) (v := ?_) (a' := ?_) #[true, true, true, true, true, true, true, true, true, true, true, false, true, false, false] rfl rfl (any_of HT_.out (by kernel_rfl)) (fun _ _ _ h => h) (Or.inl ⟨by rfl, ?_⟩) ?_ ?_
    rotate_left
    ·intro w'
     go_simp
     first | done | (with_reducible rfl) | rfl
    rotate_left
    ·simp only [Act.put, List.setIfInBounds_toArray, List.set_cons_zero, List.set_cons_succ, i64_w, i32_w]
     rfl
    refine pure_ (i := 11) (N := some 20) (v := ?_) (a' := ?_) #[true, true, true, true, true, true, true, true, true, true, true, true, true, false, false] rfl rfl (any_of HT_.out (by kernel_rfl)) (fun _ _ _ h => h) (Or.inl ⟨by rfl, ?_⟩) ?_ ?_
    rotate_left
    ·intro w'
     go_simp
     first | done | (with_reducible rfl) | rfl
    rotate_left
    ·simp only [Act.put, List.setIfInBounds_toArray, List.set_cons_zero, List.set_cons_succ, i64_w, i32_w]
     rfl
    refine pure_ (i := 13) (N := some 22) (v := ?_) (a' := ?_) #[true, true, true, true, true, true, true, true, true, true, true, true, true, true, false] rfl rfl (any_of HT_.out (by kernel_rfl)) (fun _ _ _ h => h) (Or.inl ⟨by rfl, ?_⟩) ?_ ?_
    rotate_left
    ·intro w'
     go_simp
     first | done | (with_reducible rfl) | rfl
    rotate_left
    ·simp only [Act.put, List.setIfInBounds_toArray, List.set_cons_zero, List.set_cons_succ, i64_w, i32_w]
     rfl
    refine pure_ (i := 14) (N := some 23) (v := ?_) (a' := ?_) #[true, true, true, true, true, true, true, true, true, true, true, true, true, true, true] rfl rfl (any_of HT_.out (by kernel_rfl)) (fun _ _ _ h => h) (Or.inl ⟨by rfl, ?_⟩) ?_ ?_
    rotate_left
    ·intro w'
     go_simp
     first | done | (with_reducible rfl) | rfl
    rotate_left
    ·simp only [Act.put, List.setIfInBounds_toArray, List.set_cons_zero, List.set_cons_succ, i64_w, i32_w]
     rfl
    refine done_ (done_of HT_.out (by kernel_rfl)) ?_
    try go_wp2
    first | go_end0 | ((try simp only [Exit.inBlock, Exit.then]); refine bodyPost_ret (results_none rfl _ _ _) rfl ?_) | skip
    exact ⟨rfl, HG.out, hHeld2.1⟩
   case pos =>
    rw [if_pos q3] at h3
    obtain rfl := Option.some.inj h3
    have b3 : (wrap64 ((r.length : Int) - 1) == kk) = true := beq_iff_eq.mpr q3
    clear q3 h3
    go_enter Try.func53, Try.ntmps53
    go_wp2_with (go_at_call 34; refine (impl_value.calls k A c l b v _ (Kd.R_reads' HU.out).2.2 (Kd.R_reads' HU.out).2.1 A1.out).mono ?_; rintro e w' ⟨rfl, ⟨nd, rfl⟩⟩)
    have n1_ := Aside0.mk (impl_LeastPersistent.gd go w nd)
    refine start_ (n := 15) (S := impl_LeastPersistent.Hd b kk o gb go gk) (ds := []) #[false, false, false, false, false, false, false, false, false, false, false, false, false, false, false] (by kernel_rfl) rfl rfl (impl_LeastPersistent.Hd.below HD.out (below_drew1 (pw_below_drewN (Below.refl _ _) nd))) (fun hHeld => ?_); refine with_tabW impl_LeastPersistent.tab1 impl_LeastPersistent.bits1 (fun HT_ HW_ => ?_)
    have HG0 := Aside0.mk (impl_LeastPersistent.gdr go (w := w) (w1 := w.drewN nd) n1_.out)
    clear n1_ HU HD cgb
    generalize World.drew _ = w4 at HG0 hHeld ⊢
    refine take_ (i := 0) (N := some 9) (v := ?_) (a' := ?_) #[true, false, false, false, false, false, false, false, false, false, false, false, false, false, false] rfl rfl (take_ofW HT_.out HW_.out (by kernel_rfl)) (fun _ _ _ h => h) (Or.inl ⟨by rfl, ?_⟩) hHeld ?_ ?_
    rotate_left
    ·rintro w' ⟨_, s0_, s1_, s2_⟩
     go_simp
     with_reducible rfl
    rotate_left
    ·simp only [Act.put, List.setIfInBounds_toArray, List.set_cons_zero, List.set_cons_succ, i64_w, i32_w]
     rfl
    refine pure_ (i := 1) (N := some 10) (v := ?_) (a' := ?_) #[true, true, false, false, false, false, false, false, false, false, false, false, false, false, false] rfl rfl (any_of HT_.out (by kernel_rfl)) (fun _ _ _ h => h) (Or.inl ⟨by rfl, ?_⟩) ?_ ?_
    rotate_left
    ·intro w'
     go_simp
     first | done | (with_reducible rfl) | rfl
    rotate_left
    ·simp only [Act.put, List.setIfInBounds_toArray, List.set_cons_zero, List.set_cons_succ, i64_w, i32_w]
     rfl
    refine pure_ (i := 2) (N := some 11) (v := ?_) (a' := ?_) #[true, true, true, false, false, false, false, false, false, false, false, false, false, false, false] rfl rfl (any_of HT_.out (by kernel_rfl)) (fun _ _ _ h => h) (Or.inl ⟨by rfl, ?_⟩) ?_ ?_
    rotate_left
    ·intro w'
     go_simp
     first | done | (with_reducible rfl) | rfl
    rotate_left
    ·simp only [Act.put, List.setIfInBounds_toArray, List.set_cons_zero, List.set_cons_succ, i64_w, i32_w]
     rfl
    refine pure_ (i := 3) (N := some 12) (v := ?_) (a' := ?_) #[true, true, true, true, false, false, false, false, false, false, false, false, false, false, false] rfl rfl (any_of HT_.out (by kernel_rfl)) (fun _ _ _ h => h) (Or.inl ⟨by rfl, ?_⟩) ?_ ?_
    rotate_left
    ·intro w'
     go_simp
     first | done | (with_reducible rfl) | rfl
    rotate_left
    ·simp only [Act.put, List.setIfInBounds_toArray, List.set_cons_zero, List.set_cons_succ, i64_w, i32_w]
     rfl
    refine pure_ (i := 4) (N := some 13) (v := ?_) (a' := ?_) #[true, true, true, true, true, false, false, false, false, false, false, false, false, false, false] rfl rfl (any_of HT_.out (by kernel_rfl)) (fun _ _ _ h => h) (Or.inl ⟨by rfl, ?_⟩) ?_ ?_
    rotate_left
    ·intro w'
     go_simp
     first | done | (with_reducible rfl) | rfl
    rotate_left
    ·simp only [Act.put, List.setIfInBounds_toArray, List.set_cons_zero, List.set_cons_succ, i64_w, i32_w]
     rfl
    refine pure_ (i := 5) (N := some 14) (v := ?_) (a' := ?_) #[true, true, true, true, true, true, false, false, false, false, false, false, false, false, false] rfl rfl (any_of HT_.out (by kernel_rfl)) (fun _ _ _ h => h) (Or.inl ⟨by rfl, ?_⟩) ?_ ?_
    rotate_left
    ·intro w'
     go_simp
     first | done | (with_reducible rfl) | rfl
    rotate_left
    ·simp only [Act.put, List.setIfInBounds_toArray, List.set_cons_zero, List.set_cons_succ, i64_w, i32_w]
     rfl
    refine pure_ (i := 6) (N := some 15) (v := ?_) (a' := ?_) #[true, true, true, true, true, true, true, false, false, false, false, false, false, false, false] rfl rfl (any_of HT_.out (by kernel_rfl)) (fun _ _ _ h => h) (Or.inl ⟨by rfl, ?_⟩) ?_ ?_
    rotate_left
    ·intro w'
     go_simp
     first | done | (with_reducible rfl) | rfl
    rotate_left
    ·simp only [Act.put, List.setIfInBounds_toArray, List.set_cons_zero, List.set_cons_succ, i64_w, i32_w]
     rfl
    refine pure_ (i := 7) (N := some 16) (v := ?_) (a' := ?_) #[true, true, true, true, true, true, true, true, false, false, false, false, false, false, false] rfl rfl (any_of HT_.out (by kernel_rfl)) (fun _ _ _ h => h) (Or.inl ⟨by rfl, ?_⟩) ?_ ?_
    rotate_left
    ·intro w'
     go_simp
     first | done | (with_reducible rfl) | rfl
    rotate_left
    ·simp only [Act.put, List.setIfInBounds_toArray, List.set_cons_zero, List.set_cons_succ, i64_w, i32_w]
     rfl
    refine take_ (i := 8) (N := some 17) (v := ?_) (a' := ?_) #[true, true, true, true, true, true, true, true, true, false, false, false, false, false, false] rfl rfl (take_ofW HT_.out HW_.out (by kernel_rfl)) (fun _ _ _ h => h) (Or.inl ⟨by rfl, ?_⟩) hHeld ?_ ?_
    rotate_left
    ·rintro w' ⟨_, s0_, s1_, s2_⟩
     go_simp
     with_reducible rfl
    rotate_left
    ·simp only [Act.put, List.setIfInBounds_toArray, List.set_cons_zero, List.set_cons_succ, i64_w, i32_w]
     rfl
    refine take_ (i := 12) (N := some 21) (v := ?_) (a' := ?_) #[true, true, true, true, true, true, true, true, true, false, false, false, true, false, false] rfl rfl (take_ofW HT_.out HW_.out (by kernel_rfl)) (fun _ _ _ h => h) (Or.inl ⟨by rfl, ?_⟩) hHeld ?_ ?_
    rotate_left
    ·rintro w' ⟨_, s0_, s1_, s2_⟩
     go_simp
     with_reducible rfl
    rotate_left
    ·simp only [Act.put, List.setIfInBounds_toArray, List.set_cons_zero, List.set_cons_succ, i64_w, i32_w]
     rfl
    refine one_ (i := 9) (N := some 18) #[true, true, true, true, true, true, true, true, true, true, false, false, true, false, false] rfl rfl (one_of HT_.out (by kernel_rfl)) (by decide) (fun K hK => ?_)
    refine goes_ Try.func28 (by kernel_rfl) rfl #[.int .i64 v, .int .i64 b, .func (.func 29) #[] #[]] (by rfl) rfl rfl (by (try simp only [List.map_toArray, List.map_cons, List.map_nil]); first | done | rfl) ?_
    refine (impl_down.calls k v b r _ A4.out).mono ?_
    rintro e w5 ⟨vc, rfl, hoc, hbc⟩
    refine ⟨_, rfl, ?_⟩
    have HG := Aside0.mk (impl_LeastPersistent.gt HG0.out (impl_LeastPersistent.gb go hbc))
    refine hK.out _ _ (impl_LeastPersistent.Hd.below hHeld hbc) (fun hHeld2 => ?_)
    obtain ⟨Ac, cc, rfl⟩ := Kd.R_slice hoc
    clear hoc
    clear hK K
    refine norm_ (a' := ?_) ?_ ?_
    rotate_left
    ·show Act.put _ (some 18) _ = _
     simp only [Act.put, List.setIfInBounds_toArray, List.set_cons_zero, List.set_cons_succ, i64_w, i32_w]
     rfl
    refine pure_ (i := 10) (N := some 19) (v := ?_) (a' := ?_) #[true, true, true, true, true, true, true, true, true, true, true, false, true, false, false] rfl rfl (any_of HT_.out (by kernel_rfl)) (fun _ _ _ h => h) (Or.inl ⟨by rfl, ?_⟩) ?_ ?_
    rotate_left
    ·intro w'
     go_simp
     first | done | (with_reducible rfl) | rfl
    rotate_left
    ·simp only [Act.put, List.setIfInBounds_toArray, List.set_cons_zero, List.set_cons_succ, i64_w, i32_w]
     rfl
    refine pure_ (i := 11) (N := some 20) (v := ?_) (a' := ?_) #[true, true, true, true, true, true, true, true, true, true, true, true, true, false, false] rfl rfl (any_of HT_.out (by kernel_rfl)) (fun _ _ _ h => h) (Or.inl ⟨by rfl, ?_⟩) ?_ ?_
    rotate_left
    ·intro w'
     go_simp
     first | done | (with_reducible rfl) | rfl
    rotate_left
    ·simp only [Act.put, List.setIfInBounds_toArray, List.set_cons_zero, List.set_cons_succ, i64_w, i32_w]
     rfl
    refine pure_ (i := 13) (N := some 22) (v := ?_) (a' := ?_) #[true, true, true, true, true, true, true, true, true, true, true, true, true, true, false] rfl rfl (any_of HT_.out (by kernel_rfl)) (fun _ _ _ h => h) (Or.inl ⟨by rfl, ?_⟩) ?_ ?_
    rotate_left
    ·intro w'
     go_simp
     first | done | (with_reducible rfl) | rfl
    rotate_left
    ·simp only [Act.put, List.setIfInBounds_toArray, List.set_cons_zero, List.set_cons_succ, i64_w, i32_w]
     rfl
    refine pure_ (i := 14) (N := some 23) (v := ?_) (a' := ?_) #[true, true, true, true, true, true, true, true, true, true, true, true, true, true, true] rfl rfl (any_of HT_.out (by kernel_rfl)) (fun _ _ _ h => h) (Or.inl ⟨by rfl, ?_⟩) ?_ ?_
    rotate_left
    ·intro w'
     go_simp
     first | done | (with_reducible rfl) | rfl
    rotate_left
    ·simp only [Act.put, List.setIfInBounds_toArray, List.set_cons_zero, List.set_cons_succ, i64_w, i32_w]
     rfl
    refine done_ (done_of HT_.out (by kernel_rfl)) ?_
    have cg2 := hHeld2.1
    have cgo := hHeld2.2.1
    have cgf := blk_frozen cg2 0
    try go_wp2
    first | go_end0 | ((try simp only [Exit.inBlock, Exit.then]); refine bodyPost_ret (results_none rfl _ _ _) rfl ?_) | skip
    exact ⟨rfl, impl_LeastPersistent.gt HG.out (impl_LeastPersistent.gset cg2 _), by simpa using blk_set cg2 0 (.int .i64 v)⟩
def impl_LeastPersistent.on (b kk n m : Int) : Nat → Bool → List Int → Int → Int → Option Int
 | 0, _, _, _, _ => none
 | k + 1, false, l, d, o => if (l.length : Int) = n then impl_LeastPersistent.st b kk k l o else impl_LeastPersistent.on b kk n m k true l d o
 | k + 1, true, l, d, o =>
  if d ≤ m then
   if l.length < 1000000000000 then (impl_LeastPersistent.on b kk n m k false (l ++ [d]) d o).bind fun o1 => impl_LeastPersistent.on b kk n m k true l (wrap64 (d + 1)) o1 else none
  else some o
theorem impl_LeastPersistent.on_mono (b kk n m : Int) : ∀ k t l d o, LeO (impl_LeastPersistent.on b kk n m k t l d o) (impl_LeastPersistent.on b kk n m (k + 1) t l d o)
 | 0, _, _, _, _ => fun r h => by simp [impl_LeastPersistent.on] at h
 | k + 1, false, l, d, o => by
  rw [impl_LeastPersistent.on, impl_LeastPersistent.on]
  exact LeO.ite (impl_LeastPersistent.st_mono _ _ _ _ _) (impl_LeastPersistent.on_mono b kk n m k _ _ _ _)
 | k + 1, true, l, d, o => by
  rw [impl_LeastPersistent.on, impl_LeastPersistent.on]
  exact LeO.ite (LeO.ite (LeO.bind (impl_LeastPersistent.on_mono b kk n m k _ _ _ _) (fun _ => impl_LeastPersistent.on_mono b kk n m k _ _ _ _)) (LeO.none _)) (LeO.refl _)
structure impl_LeastPersistent.St (W : World) (b kk n m : Int) (gb go gk gn ge gm gf : Nat) : Prop where
 hb : W.heap[gb]? = some (.cells #[.int .i64 b] 3 (0, 0))
 hk : W.heap[gk]? = some (.cells #[.int .i64 kk] 3 (0, 0))
 hn : W.heap[gn]? = some (.cells #[.int .i64 n] 3 (0, 0))
 he : W.heap[ge]? = some (.cells #[.func (.func 53) #[] #[.pointer (some ⟨gb, 0, none⟩), .pointer (some ⟨go, 0, none⟩), .pointer (some ⟨gk, 0, none⟩)]] 55 (0, 0))
 hm : W.heap[gm]? = some (.cells #[.int .i64 m] 3 (0, 0))
 hf : W.heap[gf]? = some (.cells #[.func (.func 67) #[] #[.pointer (some ⟨gn, 0, none⟩), .pointer (some ⟨ge, 0, none⟩), .pointer (some ⟨gm, 0, none⟩), .pointer (some ⟨gf, 0, none⟩)]] 58 (0, 0))
 nb : gb ≠ go
 nk : gk ≠ go
 nn : gn ≠ go
 ne : ge ≠ go
 nm : gm ≠ go
 nf : gf ≠ go
theorem impl_LeastPersistent.St.gr {W W1 : World} {b kk n m : Int} {gb go gk gn ge gm gf : Nat} (h : impl_LeastPersistent.St W b kk n m gb go gk gn ge gm gf) (k : W.grownBy W1 (some go)) : impl_LeastPersistent.St W1 b kk n m gb go gk gn ge gm gf :=
 ⟨impl_LeastPersistent.far k h.hb h.nb, impl_LeastPersistent.far k h.hk h.nk, impl_LeastPersistent.far k h.hn h.nn, impl_LeastPersistent.far k h.he h.ne, impl_LeastPersistent.far k h.hm h.nm, impl_LeastPersistent.far k h.hf h.nf, h.nb, h.nk, h.nn, h.ne, h.nm, h.nf⟩
theorem impl_LeastPersistent.bk {W W1 : World} {g : Nat} {o : Obj} (h : W.heap[g]? = some o) (hb : Below W.heap.size W W1) : W1.heap[g]? = some o := (hb.block _ (blk_lt h)).trans h
def impl_LeastPersistent.T5 : Bool × List (List Nat × List Nat) := (true, [([], []), ([], []), ([1], [1]), ([], []), ([3], [3]), ([2, 4, 2], [2, 4]), ([], []), ([0, 5, 6, 5], [0, 5, 6])])
def impl_LeastPersistent.B5 : List Nat := [0, 0, 2, 0, 8, 30, 0, 127]
theorem impl_LeastPersistent.tab5 : rtab .any (opsOf Try.f67 5) = impl_LeastPersistent.T5 := by kernel_rfl
theorem impl_LeastPersistent.bits5 : waitsOk impl_LeastPersistent.T5.2 impl_LeastPersistent.B5 = true := by kernel_rfl
theorem impl_LeastPersistent.app (W : World) (base : Nat) (l : List Int) (d : Int) (A : Option Addr) (c g : Nat) (hu : Kd.R (Kd.int .i64) 3 W base (fun _ => True) (.slice A l.length c) l) (hg : W.cell? ⟨g, 0, none⟩ = some (.int .i64 d)) (hbase : base ≤ W.heap.size) (hl : l.length < 1000000000000) :
  ∃ v' w', (Builtin.append_ #[26, 26] 26 #[.slice A l.length c, .slice (some ⟨g, 0, none⟩) 1 1]).run Try.prog W = .ok v' w' ∧ Kd.R (Kd.int .i64) 3 w' base (fun _ => True) v' (l ++ [d]) ∧ Below base W w' := by
 obtain ⟨i, hi, hz⟩ := Option.map_eq_some_iff.1 info3
 obtain ⟨hz1, hz2, hz3⟩ : i.zero = some (.int .i64 0) ∧ i.size = 1 ∧ i.bytes = 8 := by simpa [Prod.mk.injEq] using hz
 have hown := Kd.own_of_R hu
 have hnews : ∀ j x, ([Value.int .i64 d] : List Value)[j]? = some x → W.cell? ((⟨g, 0, none⟩ : Addr).add j) = some x := by
  intro j x hj
  have h0 : j = 0 := by
   have := (List.getElem?_eq_some_iff.1 hj).1
   simpa using this
  subst h0
  rw [add_plain, hg]
  simpa using hj
 obtain ⟨v', w', hrun, r1, r2, _⟩ := run_append_own (P := Try.prog) W base 26 26 3 i (.int .i64 0) 1 8 Try.underlying26 hi hz1 hz2 hz3 rfl (by decide) _ _ _ hown ⟨g, 0, none⟩ 1 1 [.int .i64 d] rfl hnews (by intro u hu; simp at hu; subst hu; rfl) (by simp only [maxLen]; omega) (by omega) hbase
 refine ⟨v', w', hrun, Kd.R_of_own (enc := Value.int .i64) (h1 := fun _ => rfl) ?_ (fun _ _ => trivial), (Below.refl base W).grown r2 hbase (fun k hk => Kd.R_base hu k hk)⟩
 rw [List.length_append, List.length_singleton]
 have e : encs (Value.int .i64) (l ++ [d]) = encs (Value.int .i64) l ++ [.int .i64 d] := by simp [encs]
 rw [e]
 exact r1
theorem impl_LeastPersistent.app_run {P : Program} {ev : Operand → Value} {o : Oper} (s x : Operand) (t : TypeId) {v1 v2 v' : Value} {W w' : World} (hop : o.op = .call { callee := .builtin .append, args := #[s, x], argTypes := #[t, t] }) (hs : ev s = v1) (hx : ev x = v2)
  (hrun : (Builtin.append_ #[t, t] o.type #[v1, v2]).run P W = .ok v' w') : (execOp ev o).run P W = .ok (.value v') w' := by
 simp [execOp, hop, resolve, invoke, builtin, hs, hx, hrun, Result.andThen]
set_option maxHeartbeats 8000000 in
set_option maxRecDepth 100000 in
theorem impl_LeastPersistent.on_calls (b kk n m : Int) (gb go gk gn ge gm gf : Nat) : ∀ (k : Nat) (l : List Int) (d0 o r : Int) (u : Value) (base : Nat) (w : World), impl_LeastPersistent.on b kk n m k false l d0 o = some r → impl_LeastPersistent.St w b kk n m gb go gk gn ge gm gf → w.heap[go]? = some (.cells #[.int .i64 o] 3 (0, 0)) → Kd.R (Kd.int .i64) 3 w base (fun k => k ≠ go) u l →
  Calls Try.prog 67 #[u, .int .i64 d0, .pointer (some ⟨gn, 0, none⟩), .pointer (some ⟨ge, 0, none⟩), .pointer (some ⟨gm, 0, none⟩), .pointer (some ⟨gf, 0, none⟩)] w fun e w' => e = .returned (.tuple #[]) ∧ w.grownBy w' (some go) ∧ w'.heap[go]? = some (.cells #[.int .i64 r] 3 (0, 0)) := by
 intro k
 induction k using Nat.strongRecOn with
 | _ k ih =>
 intro l d0 o r u base w h hS hI hU
 cases k with
 | zero => exact absurd h (by simp [impl_LeastPersistent.on])
 | succ k =>
 have IH := Aside0.mk ih
 clear ih
 obtain ⟨A, c, rfl⟩ := Kd.R_slice hU
 have cn : w.cell? ⟨gn, 0, none⟩ = some (.int .i64 n) := (blk_cell hS.hn 0).trans rfl
 have ce : w.cell? ⟨ge, 0, none⟩ = some (.func (.func 53) #[] #[.pointer (some ⟨gb, 0, none⟩), .pointer (some ⟨go, 0, none⟩), .pointer (some ⟨gk, 0, none⟩)]) := (blk_cell hS.he 0).trans rfl
 have HS0 := Aside0.mk hS
 have HI := Aside0.mk hI
 have HU := Aside0.mk hU
 have HK := Aside0.mk (impl_LeastPersistent.gr go w)
 clear hI hU hS
 simp only [impl_LeastPersistent.on] at h
 by_cases q1 : (l.length : Int) = n
 case pos =>
  rw [if_pos q1] at h
  have b1 : ((l.length : Int) == n) = true := beq_iff_eq.mpr q1
  clear q1
  have he := impl_LeastPersistent.each k b kk l o r gb go gk (.slice A l.length c) base _ w h HS0.out.hb HI.out HS0.out.hk HU.out
  change Calls Try.prog 53 _ _ _ at he
  clear h
  go_enter Try.func67, Try.ntmps67
  go_wp2_with (go_at_call 53; refine he.mono ?_; rintro e w2 ⟨rfl, hg2, ho2⟩)
  first | go_end0 | ((try simp only [Exit.inBlock, Exit.then]); refine bodyPost_ret (results_none rfl _ _ _) rfl ?_)
  exact ⟨rfl, hg2, ho2⟩
 case neg =>
  rw [if_neg q1] at h
  have b1 : ((l.length : Int) == n) = false := beq_eq_false_iff_ne.mpr q1
  clear q1
  have H := Aside0.mk h
  clear h
  go_enter Try.func67, Try.ntmps67
  go_wp2
  go_loopg [8] k (fun kq v8 w' => ∃ (d o1 : Int), v8 = .int .i64 d ∧ w'.cell? ⟨gm, 0, none⟩ = some (.int .i64 m) ∧ Aside0 (impl_LeastPersistent.on b kk n m kq true l d o1 = some r) ∧ Aside0 (kq ≤ k) ∧ Aside0 (impl_LeastPersistent.St w' b kk n m gb go gk gn ge gm gf) ∧ Aside0 (w'.heap[go]? = some (.cells #[.int .i64 o1] 3 (0, 0))) ∧ Aside0 (Kd.R (Kd.int .i64) 3 w' base (fun k => k ≠ go) (.slice A l.length c) l) ∧ Aside0 (w.grownBy w' (some go)))
  case atStart => exact ⟨d0, o, rfl, (blk_cell HS0.out.hm 0).trans rfl, H, ⟨Nat.le_refl _⟩, HS0, HI, HU, HK⟩
  case round =>
   clear H HI HU HK HS0 cn ce b1
   obtain ⟨d, o1, rfl, cm, HA, HK1, HS0, HI, HU, HK⟩ := hrel
   cases gk with
   | zero => exact absurd HA.out (by simp [impl_LeastPersistent.on])
   | succ k1 =>
    have H1 := HA.out
    clear HA
    simp only [impl_LeastPersistent.on] at H1
    by_cases p1 : d ≤ m
    case pos =>
     rw [if_pos p1] at H1
     have p1d : decide (d ≤ m) = true := decide_eq_true p1
     by_cases p2 : l.length < 1000000000000
     case neg => rw [if_neg p2] at H1; exact absurd H1 (by simp)
     case pos =>
       rw [if_pos p2] at H1
       have LM := Aside0.mk p2
       obtain ⟨o2, hu, H2⟩ := Option.bind_eq_some_iff.1 H1
       have A1 := Aside0.mk hu
       have A2 := Aside0.mk H2
       have A3 := Aside0.mk (show slices_Clone_int_int.f l = some l by unfold slices_Clone_int_int.f; exact if_pos (by omega))
       clear hu H1 H2 p1 p2
       go_wp2
       have CF := Aside0.mk (show wr.cell? ⟨gf, 0, none⟩ = some (.func (.func 67) #[] #[.pointer (some ⟨gn, 0, none⟩), .pointer (some ⟨ge, 0, none⟩), .pointer (some ⟨gm, 0, none⟩), .pointer (some ⟨gf, 0, none⟩)]) from (blk_cell HS0.out.hf 0).trans rfl)
       refine start_ (n := 8) (S := fun w' => w'.cell? ⟨gf, 0, none⟩ = some (.func (.func 67) #[] #[.pointer (some ⟨gn, 0, none⟩), .pointer (some ⟨ge, 0, none⟩), .pointer (some ⟨gm, 0, none⟩), .pointer (some ⟨gf, 0, none⟩)])) (ds := [7]) #[false, false, false, false, false, false, false, false] (by kernel_rfl) rfl rfl (pw_cell_below (below_drew1 (Below.refl _ _)) CF.out) (fun hHeld => ?_); refine with_tabW impl_LeastPersistent.tab5 impl_LeastPersistent.bits5 (fun HT_ HW_ => ?_)
       have n0_ := Aside0.mk (impl_LeastPersistent.bk HI.out (below_drew1 (Below.refl _ _)))
       have n2_ := Aside0.mk (Kd.R_drew HU.out)
       have n3_ := Aside0.mk (impl_LeastPersistent.gdr go HK.out)
       have n4_ := Aside0.mk (impl_LeastPersistent.St.gr HS0.out (impl_LeastPersistent.gb go (below_drew1 (Below.refl _ _))))
       clear HI HU HK CF HS0 cm
       have HI := n0_
       have HU := n2_
       have HK := n3_
       have HS0 := n4_
       clear n0_ n2_ n3_ n4_
       generalize World.drew _ = w4 at HI HU HK HS0 hHeld ⊢
       refine pure_ (i := 1) (N := some 23) (v := ?_) (a' := ?_) #[false, true, false, false, false, false, false, false] rfl rfl (any_of HT_.out (by kernel_rfl)) (fun _ _ _ h => h) (Or.inl ⟨by rfl, ?_⟩) ?_ ?_
       rotate_left
       ·intro w'
        go_simp
        with_reducible rfl
       rotate_left
       ·simp only [Act.put, List.setIfInBounds_toArray, List.set_cons_zero, List.set_cons_succ, i64_w, i32_w]
        rfl
       refine pure_ (i := 3) (N := some 25) (v := ?_) (a' := ?_) #[false, true, false, true, false, false, false, false] rfl rfl (any_of HT_.out (by kernel_rfl)) (fun _ _ _ h => h) (Or.inl ⟨by rfl, ?_⟩) ?_ ?_
       rotate_left
       ·intro w'
        go_simp
        with_reducible rfl
       rotate_left
       ·simp only [Act.put, List.setIfInBounds_toArray, List.set_cons_zero, List.set_cons_succ, i64_w, i32_w]
        rfl
       refine pure_ (i := 6) (N := some 28) (v := ?_) (a' := ?_) #[false, true, false, true, false, false, true, false] rfl rfl (any_of HT_.out (by kernel_rfl)) (fun _ _ _ h => h) (Or.inl ⟨by rfl, ?_⟩) ?_ ?_
       rotate_left
       ·intro w'
        go_simp
        with_reducible rfl
       rotate_left
       ·simp only [Act.put, List.setIfInBounds_toArray, List.set_cons_zero, List.set_cons_succ, i64_w, i32_w]
        rfl
       refine take_ (i := 0) (N := some 22) (v := ?_) (a' := ?_) #[true, true, false, true, false, false, true, false] rfl rfl (take_ofW HT_.out HW_.out (by kernel_rfl)) (fun _ _ _ h => h) (Or.inl ⟨by rfl, ?_⟩) hHeld ?_ ?_
       rotate_left
       ·intro w' s0
        go_simp
        with_reducible rfl
       rotate_left
       ·simp only [Act.put, List.setIfInBounds_toArray, List.set_cons_zero, List.set_cons_succ, i64_w, i32_w]
        rfl
       refine two_ (i := 2) (j := 4) (Ni := some 24) (Nj := some 26) #[true, true, true, true, false, false, true, false] #[true, true, false, true, true, false, true, false] rfl rfl rfl rfl (two_of HT_.out (by kernel_rfl)) (by decide) (by decide) (fun K hK => ?b1) (fun K hK => ?b2)
       case' b1 =>
        refine goes_ Try.func68 (by kernel_rfl) rfl #[.slice A l.length c] (by rfl) rfl rfl (by (try simp only [List.map_toArray, List.map_cons, List.map_nil]); first | done | rfl) ?_
        refine (slices_Clone_int_int.calls A c l l _ (Kd.R_reads' HU.out).2.2 (Kd.R_reads' HU.out).2.1 A3.out).mono ?_
        rintro e w5 ⟨vc, rfl, hoc, hbc⟩
        refine ⟨_, rfl, ?_⟩
        obtain ⟨Ac, cc, rfl⟩ := Kd.R_slice hoc
        have hHeld1 := pw_cell_below hbc hHeld
        refine hK.out _ _ hHeld1 (fun _ => ?_)
        clear hK K
        refine norm_ (a' := ?_) ?_ ?_
        rotate_left
        ·show Act.put _ (some 24) _ = _
         simp only [Act.put, List.setIfInBounds_toArray, List.set_cons_zero, List.set_cons_succ, i64_w, i32_w]
         rfl
        refine one_ (i := 4) (N := some 26) #[true, true, true, true, true, false, true, false] rfl rfl (one_of HT_.out (by kernel_rfl)) (by decide) (fun K hK => ?_)
        refine value_ (w1 := ?_) (v := ?_) (by rfl) rfl ?_ ?_
        rotate_left 2
        ·go_simp
         constructor
         ·rfl
         ·rfl
        refine hK.out _ _ (pw_cell_below (below_alloc (Below.refl _ _) _) hHeld1) (fun _ => ?_)
        clear hK K
        refine norm_ (a' := ?_) ?_ ?_
        rotate_left
        ·show Act.put _ (some 26) _ = _
         simp only [Act.put, List.setIfInBounds_toArray, List.set_cons_zero, List.set_cons_succ, i64_w, i32_w]
         rfl
        have HC := Aside0.mk (Kd.R_alloc hoc (.cells #[.int .i64 d] 3))
        have HBC := Aside0.mk (below_alloc hbc (.cells #[.int .i64 d] 3))
        have hcl : (w5.alloc (.cells #[.int .i64 d] 3)).cell? ⟨w5.heap.size, 0, none⟩ = some (.int .i64 d) := by rw [World.cell?_alloc_at _ _ _ _ rfl]; rfl
        have hH5 := pw_cell_below (below_alloc (Below.refl w5.heap.size w5) (.cells #[.int .i64 d] 3)) hHeld1
        clear hoc hbc hHeld1
        generalize w5.alloc (.cells #[.int .i64 d] 3) = W5 at HC HBC hcl hH5 ⊢
        generalize w5.heap.size = gd at hcl ⊢
       case' b2 =>
        refine value_ (w1 := ?_) (v := ?_) (by rfl) rfl ?_ ?_
        rotate_left 2
        ·go_simp
         constructor
         ·rfl
         ·rfl
        have hHeld1 := pw_cell_below (below_alloc (Below.refl w4.heap.size w4) (.cells #[.int .i64 d] 3)) hHeld
        refine hK.out _ _ hHeld1 (fun _ => ?_)
        clear hK K
        refine norm_ (a' := ?_) ?_ ?_
        rotate_left
        ·show Act.put _ (some 26) _ = _
         simp only [Act.put, List.setIfInBounds_toArray, List.set_cons_zero, List.set_cons_succ, i64_w, i32_w]
         rfl
        refine one_ (i := 2) (N := some 24) #[true, true, true, true, true, false, true, false] rfl rfl (one_of HT_.out (by kernel_rfl)) (by decide) (fun K hK => ?_)
        refine goes_ Try.func68 (by kernel_rfl) rfl #[.slice A l.length c] (by rfl) rfl rfl (by (try simp only [List.map_toArray, List.map_cons, List.map_nil]); first | done | rfl) ?_
        refine (slices_Clone_int_int.calls A c l l _ (Kd.C_alloc (Kd.R_reads' HU.out).2.2 _) (Kd.R_reads' HU.out).2.1 A3.out).mono ?_
        rintro e w5 ⟨vc, rfl, hoc, hbc⟩
        refine ⟨_, rfl, ?_⟩
        obtain ⟨Ac, cc, rfl⟩ := Kd.R_slice hoc
        have hH5 := pw_cell_below hbc hHeld1
        refine hK.out _ _ hH5 (fun _ => ?_)
        clear hK K
        refine norm_ (a' := ?_) ?_ ?_
        rotate_left
        ·show Act.put _ (some 24) _ = _
         simp only [Act.put, List.setIfInBounds_toArray, List.set_cons_zero, List.set_cons_succ, i64_w, i32_w]
         rfl
        have HBC := Aside0.mk (below_step (below_alloc (Below.refl w4.heap.size w4) (.cells #[.int .i64 d] 3)) hbc)
        have HC := Aside0.mk (Kd.R_lower hoc (show w4.heap.size ≤ (w4.alloc (.cells #[.int .i64 d] 3)).heap.size by simp))
        have hcl0 : (w4.alloc (.cells #[.int .i64 d] 3)).cell? ⟨w4.heap.size, 0, none⟩ = some (.int .i64 d) := by rw [World.cell?_alloc_at _ _ _ _ rfl]; rfl
        have hcl := pw_cell_below hbc hcl0
        clear hoc hbc hHeld1 hcl0
        rename World => W5
        obtain ⟨gd, hgd⟩ : ∃ gd, gd = w4.heap.size := ⟨_, rfl⟩
        rw [← hgd] at hcl
        simp only [← hgd]
        clear hgd
       all_goals
        obtain ⟨v2, w6, hrun, ho, hb0⟩ := impl_LeastPersistent.app W5 w4.heap.size l d Ac cc gd HC.out hcl HBC.out.size LM.out
        have hb := HBC.out.trans hb0
        refine one_ (i := 5) (N := some 27) #[true, true, true, true, true, true, true, false] rfl rfl (one_of HT_.out (by kernel_rfl)) (by decide) (fun K hK => ?_)
        refine value_ (w1 := w6) (v := v2) (by rfl) rfl ?_ ?_
        ·exact impl_LeastPersistent.app_run (.tmp 24) (.tmp 26) 26 (by rfl) (by rfl) (by rfl) hrun
        clear hrun hb0 hcl
        have hHeld3 := pw_cell_below hb hHeld
        have HV := Aside0.mk (Kd.R_mono (Kd.R_bound ho) (fun k_ hk_ => show k_ ≠ go from (by have h1_ := hk_.2.1; have h2_ := blk_lt HI.out; omega)))
        have n0_ := Aside0.mk (impl_LeastPersistent.bk HI.out hb)
        have n2_ := Aside0.mk (Kd.R_below HU.out hb)
        have n3_ := Aside0.mk (impl_LeastPersistent.gt HK.out (impl_LeastPersistent.gb go hb))
        have n4_ := Aside0.mk (impl_LeastPersistent.St.gr HS0.out (impl_LeastPersistent.gb go hb))
        clear HI HK HU HS0 ho hb hHeld HC HBC hH5
        have HI := n0_
        have HU := n2_
        have HK := n3_
        have HS0 := n4_
        clear n0_ n2_ n3_ n4_
        refine hK.out _ _ hHeld3 (fun _ => ?_)
        clear hK K
        refine norm_ (a' := ?_) ?_ ?_
        rotate_left
        ·show Act.put _ (some 27) _ = _
         simp only [Act.put, List.setIfInBounds_toArray, List.set_cons_zero, List.set_cons_succ, i64_w, i32_w]
         rfl
        refine last_ (i := 7) (N := some 29) #[true, true, true, true, true, true, true, true] rfl rfl (one_of HT_.out (by kernel_rfl)) (by decide) (fun K hK => ?_)
        refine call_ 67 #[v2, .int .i64 d, .pointer (some ⟨gn, 0, none⟩), .pointer (some ⟨ge, 0, none⟩), .pointer (some ⟨gm, 0, none⟩), .pointer (some ⟨gf, 0, none⟩)] (by rfl) rfl ?_ ?_
        ·go_simp
         first | done | rfl
        refine (IH.out k1 (by have := HK1.out; omega) (l ++ [d]) _ o1 o2 v2 w4.heap.size _ A1.out HS0.out HI.out HV.out).mono ?_
        rintro e w7 ⟨rfl, hg7, ho7⟩
        refine ⟨_, rfl, ?_⟩
        refine hK.out _ _ ?_
        clear hK K
        refine norm_ (a' := ?_) ?_ ?_
        rotate_left
        ·show Act.put _ (some 29) _ = _
         simp only [Act.put, List.setIfInBounds_toArray, List.set_cons_zero, List.set_cons_succ, i64_w, i32_w]
         rfl
        have n0_ := Aside0.mk ho7
        have n3_ := Aside0.mk (impl_LeastPersistent.gt HK.out hg7)
        have n2_ := Aside0.mk (impl_LeastPersistent.row hg7 HU.out)
        have n4_ := Aside0.mk (impl_LeastPersistent.St.gr HS0.out hg7)
        clear HI HK HU HV HS0 ho7 hg7
        have HI := n0_
        have HK := n3_
        have HU := n2_
        have HS0 := n4_
        clear n0_ n2_ n3_ n4_
        refine done_ (done_of HT_.out (by kernel_rfl)) ?_
        try go_wp2
        go_roundg k1
        case measure => have := HK1.out; omega
        case rel => exact ⟨_, o2, rfl, (blk_cell HS0.out.hm 0).trans rfl, A2, ⟨by have := HK1.out; omega⟩, HS0, HI, HU, HK⟩
    case neg =>
     rw [if_neg p1] at H1
     have p1d : decide (d ≤ m) = false := decide_eq_false p1
     clear p1
     obtain rfl := Option.some.inj H1
     go_wp2
     first | go_end0 | ((try simp only [Exit.inBlock, Exit.then]); refine bodyPost_ret (results_none rfl _ _ _) rfl ?_)
     exact ⟨rfl, HK.out, HI.out⟩
theorem impl_LeastPersistent.alloc_old (W : World) (o : Obj) (g : Nat) (hg : g < W.heap.size) : (W.alloc o).heap[g]? = W.heap[g]? := (below_alloc (Below.refl _ _) o : Below W.heap.size W (W.alloc o)).block g hg
theorem impl_LeastPersistent.alloc_at (W : World) (o : Obj) (g : Nat) (hg : g = W.heap.size) : (W.alloc o).heap[g]? = some o := by subst hg; exact heap_alloc_new W o
set_option maxHeartbeats 8000000 in
set_option maxRecDepth 100000 in
theorem impl_LeastPersistent.nf (b kk n m d0 o r : Int) (k : Nat) (gb go gk : Nat) (w : World) (h : impl_LeastPersistent.on b kk n m k false [] d0 o = some r) (hgb : w.heap[gb]? = some (.cells #[.int .i64 b] 3 (0, 0))) (hgo : w.heap[go]? = some (.cells #[.int .i64 o] 3 (0, 0))) (hgk : w.heap[gk]? = some (.cells #[.int .i64 kk] 3 (0, 0))) (nb : gb ≠ go) (nk : gk ≠ go) :
  Calls Try.prog 52 #[.int .i64 n, .int .i64 d0, .int .i64 m, .func (.func 53) #[] #[.pointer (some ⟨gb, 0, none⟩), .pointer (some ⟨go, 0, none⟩), .pointer (some ⟨gk, 0, none⟩)]] w fun e w' => e = .returned (.tuple #[]) ∧ w.grownBy w' (some go) ∧ w'.heap[go]? = some (.cells #[.int .i64 r] 3 (0, 0)) := by
 have hmf : ∀ (fn : Fn) (first cap : Array Value) (w : World), (Instr.makeFunc fn first cap).run Try.prog w = .ok (.func fn first cap) w := fun _ _ _ _ => rfl
 have hsf : ∀ (b : Addr) (fn : Fn) (first cap : Array Value) (md : Mode) (W : World), (store b (.func fn first cap) md).run Try.prog W = stored Try.prog W b (.func fn first cap) md := fun b _ _ _ md W => run_store Try.prog W b _ md rfl
 have H := Aside0.mk h
 have HGB := Aside0.mk hgb
 have HGO := Aside0.mk hgo
 have HGK := Aside0.mk hgk
 have lo := blk_lt hgo
 clear h hgb hgo hgk
 have key : ∀ W1 W2 W3 W4 : World, W1 = w.alloc (.cells #[.int .i64 n] 3) → W2 = W1.alloc (.cells #[.int .i64 m] 3) → W3 = W2.alloc (.cells #[.func (.func 53) #[] #[.pointer (some ⟨gb, 0, none⟩), .pointer (some ⟨go, 0, none⟩), .pointer (some ⟨gk, 0, none⟩)]] 55) →
   W4 = W3.alloc (.cells #[.func (.func 67) #[] #[.pointer (some ⟨w.heap.size, 0, none⟩), .pointer (some ⟨w.heap.size + 1 + 1, 0, none⟩), .pointer (some ⟨w.heap.size + 1, 0, none⟩), .pointer (some ⟨w.heap.size + 1 + 1 + 1, 0, none⟩)]] 58) →
   Calls Try.prog 67 #[.slice none 0 0, .int .i64 d0, .pointer (some ⟨w.heap.size, 0, none⟩), .pointer (some ⟨w.heap.size + 1 + 1, 0, none⟩), .pointer (some ⟨w.heap.size + 1, 0, none⟩), .pointer (some ⟨w.heap.size + 1 + 1 + 1, 0, none⟩)] W4 fun e w' => e = .returned (.tuple #[]) ∧ w.grownBy w' (some go) ∧ w'.heap[go]? = some (.cells #[.int .i64 r] 3 (0, 0)) := by
  intro W1 W2 W3 W4 e1 e2 e3 e4
  have s1 : W1.heap.size = w.heap.size + 1 := by rw [e1]; simp
  have s2 : W2.heap.size = w.heap.size + 1 + 1 := by rw [e2]; simp [s1]
  have s3 : W3.heap.size = w.heap.size + 1 + 1 + 1 := by rw [e3]; simp [s2]
  have hb : Below w.heap.size w W4 := by rw [e4, e3, e2, e1]; exact below_alloc (below_alloc (below_alloc (below_alloc (Below.refl _ _) _) _) _) _
  have f4 : W4.heap[w.heap.size + 1 + 1 + 1]? = _ := (congrArg (fun W : World => W.heap[w.heap.size + 1 + 1 + 1]?) e4).trans (impl_LeastPersistent.alloc_at W3 _ _ s3.symm)
  have f3 : W4.heap[w.heap.size + 1 + 1]? = _ := (congrArg (fun W : World => W.heap[w.heap.size + 1 + 1]?) e4).trans ((impl_LeastPersistent.alloc_old W3 _ _ (by omega)).trans ((congrArg (fun W : World => W.heap[w.heap.size + 1 + 1]?) e3).trans (impl_LeastPersistent.alloc_at W2 _ _ s2.symm)))
  have f2 : W4.heap[w.heap.size + 1]? = _ := (congrArg (fun W : World => W.heap[w.heap.size + 1]?) e4).trans ((impl_LeastPersistent.alloc_old W3 _ _ (by omega)).trans ((congrArg (fun W : World => W.heap[w.heap.size + 1]?) e3).trans ((impl_LeastPersistent.alloc_old W2 _ _ (by omega)).trans ((congrArg (fun W : World => W.heap[w.heap.size + 1]?) e2).trans (impl_LeastPersistent.alloc_at W1 _ _ s1.symm)))))
  have f1 : W4.heap[w.heap.size]? = _ := (congrArg (fun W : World => W.heap[w.heap.size]?) e4).trans ((impl_LeastPersistent.alloc_old W3 _ _ (by omega)).trans ((congrArg (fun W : World => W.heap[w.heap.size]?) e3).trans ((impl_LeastPersistent.alloc_old W2 _ _ (by omega)).trans ((congrArg (fun W : World => W.heap[w.heap.size]?) e2).trans ((impl_LeastPersistent.alloc_old W1 _ _ (by omega)).trans ((congrArg (fun W : World => W.heap[w.heap.size]?) e1).trans (impl_LeastPersistent.alloc_at w _ _ rfl)))))))
  refine (impl_LeastPersistent.on_calls b kk n m gb go gk w.heap.size (w.heap.size + 1 + 1) (w.heap.size + 1) (w.heap.size + 1 + 1 + 1) k [] d0 o r (.slice none 0 0) 0 W4 H.out ⟨impl_LeastPersistent.bk HGB.out hb, impl_LeastPersistent.bk HGK.out hb, f1, f3, f2, f4, nb, nk, by omega, by omega, by omega, by omega⟩ (impl_LeastPersistent.bk HGO.out hb) (Kd.R_nil _ _ _ _ _)).mono ?_
  rintro e w' ⟨rfl, h1, h2⟩
  exact ⟨rfl, impl_LeastPersistent.gt (impl_LeastPersistent.gb go hb) h1, h2⟩
 have key2 := key _ _ _ _ rfl rfl rfl rfl
 clear key
 change Calls Try.prog 67 _ _ _ at key2
 go_enter Try.func52, Try.ntmps52
 go_wp2_with (go_at_call 67; refine key2.mono ?_; rintro e w2 ⟨rfl, hi2, hb2⟩)
 first | go_end0 | ((try simp only [Exit.inBlock, Exit.then]); refine bodyPost_ret (results_none rfl _ _ _) rfl ?_)
 exact ⟨rfl, hi2, hb2⟩
def impl_LeastPersistent.lp (b kk : Int) : Nat → Int → Int → Option Int
 | 0, _, _ => none
 | k + 1, n, o => if o = 0 then (impl_toPower.f k b (wrap64 (n - 1))).bind fun t => if t ≤ 10000000 then (impl_LeastPersistent.on b kk n (wrap64 (b - 1)) k false [] 1 o).bind fun o1 => impl_LeastPersistent.lp b kk k (wrap64 (n + 1)) o1 else some o else some o
theorem impl_LeastPersistent.lp_mono (b kk : Int) : ∀ k n o, LeO (impl_LeastPersistent.lp b kk k n o) (impl_LeastPersistent.lp b kk (k + 1) n o)
 | 0, _, _ => fun r h => by simp [impl_LeastPersistent.lp] at h
 | k + 1, n, o => by
  rw [impl_LeastPersistent.lp, impl_LeastPersistent.lp]
  exact LeO.ite (LeO.bind (impl_toPower.mono _ _ _) (fun _ => LeO.ite (LeO.bind (impl_LeastPersistent.on_mono _ _ _ _ _ _ _ _ _) (fun _ => impl_LeastPersistent.lp_mono b kk k _ _)) (LeO.refl _))) (LeO.refl _)
def impl_LeastPersistent.f (k : Nat) (a0 a1 : Int) : Option (Int × Bool) :=
 (impl_in.f a0 0 12).bind fun t => if t = true then (impl_isBase.f a1).bind fun u => if u = true then (if a0 < 2 then some (wrap64 (a0 * a1), true) else (impl_LeastPersistent.lp a1 a0 k 2 0).bind fun o => some (o, decide (o > 0))) else some (0, false) else some (0, false)
theorem impl_LeastPersistent.mono : ∀ a0 a1 k, LeO (impl_LeastPersistent.f k a0 a1) (impl_LeastPersistent.f (k + 1) a0 a1) := by
 intro a0 a1 k
 unfold impl_LeastPersistent.f
 exact LeO.bind (LeO.refl _) (fun _ => LeO.ite (LeO.bind (LeO.refl _) (fun _ => LeO.ite (LeO.ite (LeO.refl _) (LeO.bind (impl_LeastPersistent.lp_mono _ _ _ _ _) (fun _ => LeO.refl _))) (LeO.refl _))) (LeO.refl _))
theorem impl_LeastPersistent.start (w : World) (a b c : Obj) (n : Nat) :
  ((((w.alloc a).alloc b).drewN n).alloc c).heap[w.heap.size]? = some a ∧ ((((w.alloc a).alloc b).drewN n).alloc c).heap[w.heap.size + 1]? = some b ∧ ((((w.alloc a).alloc b).drewN n).alloc c).heap[w.heap.size + 1 + 1]? = some c ∧ Below w.heap.size w ((((w.alloc a).alloc b).drewN n).alloc c) := by
 have s1 : (w.alloc a).heap.size = w.heap.size + 1 := by simp
 have s2 : (((w.alloc a).alloc b).drewN n).heap.size = w.heap.size + 1 + 1 := by show ((w.alloc a).alloc b).heap.size = _; simp
 refine ⟨?_, ?_, impl_LeastPersistent.alloc_at _ c _ s2.symm, below_alloc (pw_below_drewN (below_alloc (below_alloc (Below.refl _ _) _) _) n) _⟩
 ·refine (impl_LeastPersistent.alloc_old _ c _ (by omega)).trans ?_
  show ((w.alloc a).alloc b).heap[w.heap.size]? = some a
  exact (impl_LeastPersistent.alloc_old _ b _ (by omega)).trans (impl_LeastPersistent.alloc_at w a _ rfl)
 ·refine (impl_LeastPersistent.alloc_old _ c _ (by omega)).trans ?_
  show ((w.alloc a).alloc b).heap[w.heap.size + 1]? = some b
  exact impl_LeastPersistent.alloc_at _ b _ s1.symm
set_option maxHeartbeats 8000000 in
set_option maxRecDepth 100000 in
theorem impl_LeastPersistent.calls (k : Nat) (a0 a1 : Int) (r1 : Int) (r2 : Bool) (w : World) (h : impl_LeastPersistent.f k a0 a1 = some (r1, r2)) :
  Calls Try.prog 23 #[.int .i64 a0, .int .i64 a1] w fun e w' => e = .returned (.tuple #[.int .i64 r1, .bool r2]) ∧ Below w.heap.size w w' := by
 have hmf : ∀ (fn : Fn) (first cap : Array Value) (w : World), (Instr.makeFunc fn first cap).run Try.prog w = .ok (.func fn first cap) w := fun _ _ _ _ => rfl
 unfold impl_LeastPersistent.f at h
 obtain ⟨t, ht, h⟩ := Option.bind_eq_some_iff.1 h
 have h1 := fun W => impl_in.calls a0 0 12 t W ht
 change ∀ W, Calls Try.prog 37 _ _ _ at h1
 have HB := Aside0.mk (Below.refl w.heap.size w)
 cases t with
 | false =>
  rw [if_neg (by simp)] at h
  obtain ⟨rfl, rfl⟩ := Prod.mk.inj (Option.some.inj h)
  clear ht
  go_enter Try.func23, Try.ntmps23
  go_wp2_with (go_at_call 37; refine (h1 _).mono ?_; rintro e w' ⟨rfl, ⟨nd, rfl⟩⟩)
  go_ret2
  exact ⟨rfl, by repeat (first | (with_reducible first | exact HB.out | apply below_alloc | apply pw_below_drewN | apply below_drew1) | exact HB.out)⟩
 | true =>
  rw [if_pos rfl] at h
  obtain ⟨u, hu, h⟩ := Option.bind_eq_some_iff.1 h
  have h2 := fun W => impl_isBase.calls a1 u W hu
  change ∀ W, Calls Try.prog 38 _ _ _ at h2
  cases u with
  | false =>
   rw [if_neg (by simp)] at h
   obtain ⟨rfl, rfl⟩ := Prod.mk.inj (Option.some.inj h)
   clear ht hu
   go_enter Try.func23, Try.ntmps23
   go_wp2_with (first | (go_at_call 37; refine (h1 _).mono ?_; rintro e w' ⟨rfl, ⟨nd, rfl⟩⟩) | (go_at_call 38; refine (h2 _).mono ?_; rintro e w' ⟨rfl, ⟨nd2, rfl⟩⟩))
   go_ret2
   exact ⟨rfl, by repeat (first | (with_reducible first | exact HB.out | apply below_alloc | apply pw_below_drewN | apply below_drew1) | exact HB.out)⟩
  | true =>
   rw [if_pos rfl] at h
   by_cases hne : a0 < 2
   ·rw [if_pos hne] at h
    obtain ⟨rfl, rfl⟩ := Prod.mk.inj (Option.some.inj h)
    have hb1 : decide (a0 < 2) = true := decide_eq_true hne
    clear ht hu hne
    go_enter Try.func23, Try.ntmps23
    go_wp2_with (first | (go_at_call 37; refine (h1 _).mono ?_; rintro e w' ⟨rfl, ⟨nd, rfl⟩⟩) | (go_at_call 38; refine (h2 _).mono ?_; rintro e w' ⟨rfl, ⟨nd2, rfl⟩⟩))
    go_ret2
    exact ⟨rfl, by repeat (first | (with_reducible first | exact HB.out | apply below_alloc | apply pw_below_drewN | apply below_drew1) | exact HB.out)⟩
   ·rw [if_neg hne] at h
    obtain ⟨o9, hp, h⟩ := Option.bind_eq_some_iff.1 h
    obtain ⟨rfl, rfl⟩ := Prod.mk.inj (Option.some.inj h)
    have hb1 : decide (a0 < 2) = false := decide_eq_false hne
    have H := Aside0.mk hp
    clear ht hu hne hp h
    go_enter Try.func23, Try.ntmps23
    go_wp2_with (first | (go_at_call 37; refine (h1 _).mono ?_; rintro e w' ⟨rfl, ⟨nd, rfl⟩⟩) | (go_at_call 38; refine (h2 _).mono ?_; rintro e w' ⟨rfl, ⟨nd2, rfl⟩⟩))
    have hst := impl_LeastPersistent.start w (.cells #[.int .i64 a0] 3) (.cells #[.int .i64 a1] 3) (.cells #[.int .i64 0] 3) (nd + nd2)
    go_loopg [7] k (fun kq v7 w' => ∃ (m o1 : Int), v7 = .int .i64 m ∧ w'.cell? ⟨w.heap.size + 1 + 1, 0, none⟩ = some (.int .i64 o1) ∧ w'.cell? ⟨w.heap.size + 1, 0, none⟩ = some (.int .i64 a1) ∧ Aside0 (impl_LeastPersistent.lp a1 a0 kq m o1 = some o9) ∧ Aside0 (kq ≤ k) ∧ Aside0 (w'.heap[w.heap.size]? = some (.cells #[.int .i64 a0] 3 (0, 0)) ∧ w'.heap[w.heap.size + 1]? = some (.cells #[.int .i64 a1] 3 (0, 0)) ∧ w'.heap[w.heap.size + 1 + 1]? = some (.cells #[.int .i64 o1] 3 (0, 0))) ∧ Aside0 (Below w.heap.size w w'))
    case atStart => exact ⟨2, 0, rfl, (blk_cell hst.2.2.1 0).trans rfl, (blk_cell hst.2.1 0).trans rfl, H, ⟨Nat.le_refl _⟩, ⟨hst.1, hst.2.1, hst.2.2.1⟩, ⟨hst.2.2.2⟩⟩
    case round =>
     clear H hst HB
     obtain ⟨m, o1, rfl, co, cb, HA, HK1, HH, HB⟩ := hrel
     cases gk with
     | zero => exact absurd HA.out (by simp [impl_LeastPersistent.lp])
     | succ k1 =>
      have H1 := HA.out
      clear HA
      simp only [impl_LeastPersistent.lp] at H1
      by_cases q1 : o1 = 0
      ·rw [if_pos q1] at H1
       subst q1
       obtain ⟨t, htp, H2⟩ := Option.bind_eq_some_iff.1 H1
       have h3 := fun W => impl_toPower.calls k1 a1 (wrap64 (m - 1)) t W htp
       change ∀ W, Calls Try.prog 51 _ _ _ at h3
       clear H1 htp
       by_cases q2 : t ≤ 10000000
       ·rw [if_pos q2] at H2
        obtain ⟨o2, hon, H3⟩ := Option.bind_eq_some_iff.1 H2
        have H4 := Aside0.mk H3
        have b2 : decide (t ≤ 10000000) = true := decide_eq_true q2
        have hnf : ∀ nd3 : Nat, Calls Try.prog 52 #[.int .i64 m, .int .i64 1, .int .i64 (wrap64 (a1 - 1)), .func (.func 53) #[] #[.pointer (some ⟨w.heap.size + 1, 0, none⟩), .pointer (some ⟨w.heap.size + 1 + 1, 0, none⟩), .pointer (some ⟨w.heap.size, 0, none⟩)]] (wr.drewN nd3) fun e w' => e = .returned (.tuple #[]) ∧ (wr.drewN nd3).grownBy w' (some (w.heap.size + 1 + 1)) ∧ w'.heap[w.heap.size + 1 + 1]? = some (.cells #[.int .i64 o2] 3 (0, 0)) :=
         fun nd3 => impl_LeastPersistent.nf a1 a0 m (wrap64 (a1 - 1)) 1 0 o2 k1 (w.heap.size + 1) (w.heap.size + 1 + 1) w.heap.size (wr.drewN nd3) hon HH.out.2.1 HH.out.2.2 HH.out.1 (by omega) (by omega)
        clear H2 H3 hon q2
        go_wp2_with (first
         | (go_at_call 51; refine (h3 _).mono ?_; rintro e w' ⟨rfl, ⟨nd3, rfl⟩⟩)
         | (go_at_call 52; refine (hnf _).mono ?_; rintro e w2 ⟨rfl, hg2, ho2⟩; have HH2 := Aside0.mk (show w2.heap[w.heap.size]? = some (.cells #[.int .i64 a0] 3 (0, 0)) ∧ w2.heap[w.heap.size + 1]? = some (.cells #[.int .i64 a1] 3 (0, 0)) ∧ w2.heap[w.heap.size + 1 + 1]? = some (.cells #[.int .i64 o2] 3 (0, 0)) from ⟨impl_LeastPersistent.far hg2 HH.out.1 (by omega), impl_LeastPersistent.far hg2 HH.out.2.1 (by omega), ho2⟩); have HB2 := Aside0.mk (impl_LeastPersistent.below (pw_below_drewN HB.out nd3) hg2 (by omega)); clear hg2 ho2 hnf h3 co cb))
        go_roundg k1
        case measure => have := HK1.out; omega
        case rel => exact ⟨_, o2, rfl, (blk_cell HH2.out.2.2 0).trans rfl, (blk_cell HH2.out.2.1 0).trans rfl, H4, ⟨by have := HK1.out; omega⟩, HH2, HB2⟩
       ·rw [if_neg q2] at H2
        obtain rfl := Option.some.inj H2
        have b2 : decide (t ≤ 10000000) = false := decide_eq_false q2
        clear H2 q2
        go_wp2_with (go_at_call 51; refine (h3 _).mono ?_; rintro e w' ⟨rfl, ⟨nd3, rfl⟩⟩)
        repeat (go_quiet (fail); try go_wp2)
        go_ret2
        exact ⟨by first | rfl | simp, by repeat (first | (with_reducible first | exact HB.out | apply below_alloc | apply pw_below_drewN | apply below_drew1) | exact HB.out)⟩
      ·rw [if_neg q1] at H1
       obtain rfl := Option.some.inj H1
       have b1 : (o1 == 0) = false := beq_eq_false_iff_ne.mpr q1
       clear H1 q1
       go_wp2
       repeat (go_quiet (fail); try go_wp2)
       go_ret2
       exact ⟨by first | rfl | simp, by repeat (first | (with_reducible first | exact HB.out | apply below_alloc | apply pw_below_drewN | apply below_drew1) | exact HB.out)⟩

end Go.Proofs.Ytjkhgigmhmghbaa.PFnProductRuns
