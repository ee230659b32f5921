-- out of the kit's print, turned by wip/own_print.py
import Derived.Test.YtiheocddlopfcaaPFnSourcesOfSumsx0
import Derived.Test.YtiheocddlopfcaaPFnSourcesOfSumsx3
import Derived.Test.YtiheocddlopfcaaPFnSourcesOfSumsx4
namespace Go.Proofs.Ytiheocddlopfcaa.PFnSourcesOfSums
open Go.RowKit Go.Proofs.YtiheocddlopfcaaW.PrintWords Go.Proofs.YtiheocddlopfcaaW.PrintLast Go.Proofs.YtiheocddlopfcaaW.PrintMore
attribute [local go_sem] max2_int min2_int max_two min_two max_three min_three max_four min_four   -- for this text's walks alone
set_option linter.unusedVariables false
set_option linter.unusedSimpArgs false

/-! ### impl_sourcesOf: function 263 -/
def impl_sourcesOf.lo (b s : Int) (o : Bool) : Int := if o = true then mx (mx (wrap64 (s - wrap64 (b - 1))) 0) 1 else mx (wrap64 (s - wrap64 (b - 1))) 0
def impl_sourcesOf.wy (b s : Int) (o : Bool) : Int := mx (wrap64 (wrap64 (mn s (wrap64 (b - 1)) - impl_sourcesOf.lo b s o) + 1)) 0
def impl_sourcesOf.ck (b m : Int) (S : List Int) : Nat → List Int → Int → Int → Option (Option (List Int × Int))
 | 0, _, _, _ => none
 | k + 1, L, n, i =>
  if i < (S.length : Int) then
   if 0 ≤ i then
    if i < (L.length : Int) then
     if wrap64 (wrap64 (2 * i) + 1) = m then
      if Int.tmod (rd S i) 2 = 1 then some none
      else if i = 0 then
       if rd S i = 0 then some none else impl_sourcesOf.ck b m S k (L.set i.toNat (wrap64 (Int.tdiv (rd S i) 2))) n (wrap64 (i + 1))
      else impl_sourcesOf.ck b m S k (L.set i.toNat (wrap64 (Int.tdiv (rd S i) 2))) n (wrap64 (i + 1))
     else if 0 ≤ wrap64 (wrap64 (m - 1) - i) then
      if wrap64 (wrap64 (m - 1) - i) < (L.length : Int) then
       impl_sourcesOf.ck b m S k ((L.set i.toNat (impl_sourcesOf.lo b (rd S i) (decide (i = 0)))).set (wrap64 (wrap64 (m - 1) - i)).toNat (wrap64 (rd S i - impl_sourcesOf.lo b (rd S i) (decide (i = 0))))) (wrap64 (n * impl_sourcesOf.wy b (rd S i) (decide (i = 0)))) (wrap64 (i + 1))
      else none
     else none
    else none
   else none
  else some (some (L, n))
def impl_sourcesOf.chk (k : Nat) (D : List Int) (b m : Int) (S : List Int) (n : Int) (F : List Int) : Option (Int × List Int) :=
 if 1 ≤ m then
  if m.toNat ≤ 1000 then
   (impl_sourcesOf.ck b m S k (List.replicate m.toNat 0) 1 0).bind fun z => match z with
    | none => some (n, F)
    | some (L, c) => if c = 0 then some (n, F) else (impl_summed.f k L b).bind fun y => (slices_Equal_int_int.f k y.1 D).bind fun e => if e = true then (if F = [] then some (wrap64 (n + c), L) else (slices_Compare_int_int.f k L F).bind fun q => if q < 0 then some (wrap64 (n + c), L) else some (wrap64 (n + c), F)) else some (n, F)
  else none
 else none
def impl_sourcesOf.go (D : List Int) (b m : Int) : Nat → Bool → Int → Int → Int → List Int × Int × List Int → Option (List Int × Int × List Int)
 | 0, _, _, _, _, _ => none
 | k + 1, false, i, c, _, t =>
  if i = wrap64 (Int.tdiv (wrap64 (m + 1)) 2) then (impl_sourcesOf.chk k D b m t.1 t.2.1 t.2.2).bind fun r => some (t.1, r)
  else if 0 ≤ wrap64 (wrap64 ((D.length : Int) - 1) - i) then
   if wrap64 (wrap64 ((D.length : Int) - 1) - i) < (D.length : Int) then
    if b = 0 then none else impl_sourcesOf.go D b m k true i c (Int.tmod (wrap64 (wrap64 (rd D (wrap64 (wrap64 ((D.length : Int) - 1) - i)) - c) + b)) b) t
   else none
  else none
 | k + 1, true, i, c, s, t =>
  if s ≤ wrap64 (2 * wrap64 (b - 1)) then
   if 0 ≤ i then
    if i ≤ (t.1.length : Int) then
     if i.toNat < 17592186044416 then
      if b = 0 then none else (impl_sourcesOf.go D b m k false (wrap64 (i + 1)) (wrap64 (Int.tdiv (wrap64 (s + c)) b)) 0 (t.1.take i.toNat ++ [s], t.2)).bind fun u => impl_sourcesOf.go D b m k true i c (wrap64 (s + b)) u
     else none
    else none
   else none
  else some t
def impl_sourcesOf.f (k : Nat) (D : List Int) (b m : Int) : Option (Int × List Int) := if m > 0 then (impl_sourcesOf.go D b m k false 0 0 0 ([], 0, [])).bind fun t => some t.2 else some (0, [])
theorem impl_sourcesOf.ck_mono (b m : Int) (S : List Int) : ∀ k L n i, LeO (impl_sourcesOf.ck b m S k L n i) (impl_sourcesOf.ck b m S (k + 1) L n i)
 | 0, _, _, _ => fun r h => by simp [impl_sourcesOf.ck] at h
 | k + 1, L, n, i => by
  rw [impl_sourcesOf.ck, impl_sourcesOf.ck]
  refine LeO.ite (LeO.ite (LeO.ite (LeO.ite (LeO.ite (LeO.refl _) (LeO.ite (LeO.ite (LeO.refl _) ?_) ?_)) (LeO.ite (LeO.ite ?_ (LeO.none _)) (LeO.none _))) (LeO.none _)) (LeO.none _)) (LeO.refl _)
  ·exact impl_sourcesOf.ck_mono b m S k _ _ _
  ·exact impl_sourcesOf.ck_mono b m S k _ _ _
  ·exact impl_sourcesOf.ck_mono b m S k _ _ _
theorem impl_sourcesOf.chk_mono (D : List Int) (b m : Int) (S : List Int) (n : Int) (F : List Int) (k : Nat) : LeO (impl_sourcesOf.chk k D b m S n F) (impl_sourcesOf.chk (k + 1) D b m S n F) := by
 unfold impl_sourcesOf.chk
 refine LeO.ite (LeO.ite (LeO.bind (impl_sourcesOf.ck_mono _ _ _ _ _ _ _) (fun z => ?_)) (LeO.none _)) (LeO.none _)
 cases z with
 | none => exact LeO.refl _
 | some z => exact LeO.ite (LeO.refl _) (LeO.bind (impl_summed.mono _ _ _) (fun _ => LeO.bind (slices_Equal_int_int.mono _ _ _) (fun _ => LeO.ite (LeO.ite (LeO.refl _) (LeO.bind (slices_Compare_int_int.mono _ _ _) (fun _ => LeO.refl _))) (LeO.refl _))))
theorem impl_sourcesOf.go_mono (D : List Int) (b m : Int) : ∀ k o i c s t, LeO (impl_sourcesOf.go D b m k o i c s t) (impl_sourcesOf.go D b m (k + 1) o i c s t)
 | 0, _, _, _, _, _ => fun r h => by simp [impl_sourcesOf.go] at h
 | k + 1, false, i, c, s, t => by
  rw [impl_sourcesOf.go, impl_sourcesOf.go]
  exact LeO.ite (LeO.bind (impl_sourcesOf.chk_mono _ _ _ _ _ _ _) (fun _ => LeO.refl _)) (LeO.ite (LeO.ite (LeO.ite (LeO.none _) (impl_sourcesOf.go_mono D b m k _ _ _ _ _)) (LeO.none _)) (LeO.none _))
 | k + 1, true, i, c, s, t => by
  rw [impl_sourcesOf.go, impl_sourcesOf.go]
  exact LeO.ite (LeO.ite (LeO.ite (LeO.ite (LeO.ite (LeO.none _) (LeO.bind (impl_sourcesOf.go_mono D b m k _ _ _ _ _) (fun _ => impl_sourcesOf.go_mono D b m k _ _ _ _ _))) (LeO.none _)) (LeO.none _)) (LeO.none _)) (LeO.refl _)
theorem impl_sourcesOf.mono : ∀ a0 a1 a2 k, LeO (impl_sourcesOf.f k a0 a1 a2) (impl_sourcesOf.f (k + 1) a0 a1 a2) := by
 intro a0 a1 a2 k
 unfold impl_sourcesOf.f
 exact LeO.ite (LeO.bind (impl_sourcesOf.go_mono _ _ _ _ _ _ _ _ _) (fun _ => LeO.refl _)) (LeO.refl _)
def impl_sourcesOf.Is (w0 W : World) (g : Nat) (D : List Int) (b m : Int) (S : List Int) (n : Int) (F : List Int) : Prop :=
 ∃ (AD : Option Addr) (cD : Nat) (vs vf : Value), W.heap[g]? = some (.cells #[.slice AD D.length cD, .int .i64 b, .int .i64 m, vs, .int .i64 n, vf] 102 (0, 0)) ∧ w0.heap.size ≤ g ∧ Kd.C (Kd.int .i64) w0 AD D.length D ∧ D.length ≤ cD ∧
  Kd.R (Kd.int .i64) 3 W w0.heap.size (fun _ => True) vs S ∧ Kd.R (Kd.int .i64) 3 W w0.heap.size (fun k => True ∧ some k ≠ vs.ownBlock) vf F ∧ (F = [] → vf = .slice none 0 0)
theorem impl_sourcesOf.Is.below {w0 W W1 : World} {g : Nat} {D : List Int} {b m : Int} {S : List Int} {n : Int} {F : List Int} (h : impl_sourcesOf.Is w0 W g D b m S n F) (hw : Below W.heap.size W W1) : impl_sourcesOf.Is w0 W1 g D b m S n F := by
 obtain ⟨AD, cD, vs, vf, h1, h2, h3, h4, h5, h6, h7⟩ := h
 exact ⟨AD, cD, vs, vf, blk_grown h1 (grown_of_below hw none) (by simp), h2, h3, h4, Kd.R_below h5 hw, Kd.R_below h6 hw, h7⟩
theorem impl_sourcesOf.Is.set4 {w0 W : World} {g : Nat} {D : List Int} {b m : Int} {S : List Int} {n : Int} {F : List Int} (h : impl_sourcesOf.Is w0 W g D b m S n F) (x : Int) : impl_sourcesOf.Is w0 (W.setCell ⟨g, 4, none⟩ (.int .i64 x)) g D b m S x F := by
 obtain ⟨AD, cD, vs, vf, h1, h2, h3, h4, h5, h6, h7⟩ := h
 have h5' := Kd.R_types h5 h1 (by decide)
 have h6' := Kd.R_types h6 h1 (by decide)
 exact ⟨AD, cD, vs, vf, by simpa using blk_set h1 4 (.int .i64 x), h2, h3, h4, Kd.R_mono (Kd.R_far h5' (fun _ hk => hk.2) _) (fun _ _ => trivial), Kd.R_mono (Kd.R_far h6' (fun _ hk => hk.2) _) (fun _ hk => hk.1), h7⟩
theorem impl_sourcesOf.Is.set5 {w0 W : World} {g : Nat} {D : List Int} {b m : Int} {S : List Int} {n : Int} {F : List Int} (h : impl_sourcesOf.Is w0 W g D b m S n F) {vs v : Value} {L : List Int} (hc : W.cell? ⟨g, 3, none⟩ = some vs)
  (hv : Kd.R (Kd.int .i64) 3 W w0.heap.size (fun k => True ∧ some k ≠ vs.ownBlock) v L) (hL : L ≠ []) : impl_sourcesOf.Is w0 (W.setCell ⟨g, 5, none⟩ v) g D b m S n L := by
 obtain ⟨AD, cD, vs', vf, h1, h2, h3, h4, h5, h6, h7⟩ := h
 have e : vs' = vs := by
  have e1 : W.cell? ⟨g, 3, none⟩ = some vs' := (blk_cell h1 3).trans rfl
  rw [hc] at e1
  exact (Option.some.inj e1).symm
 subst e
 have h5' := Kd.R_types h5 h1 (by decide)
 have hv' := Kd.R_types hv h1 (by decide)
 exact ⟨AD, cD, vs', v, by simpa using blk_set h1 5 v, h2, h3, h4, Kd.R_mono (Kd.R_far h5' (fun _ hk => hk.2) _) (fun _ _ => trivial), Kd.R_mono (Kd.R_far hv' (fun _ hk => hk.2) _) (fun _ hk => hk.1), fun h => absurd h hL⟩
theorem impl_sourcesOf.Is.set3 {w0 W : World} {g : Nat} {D : List Int} {b m : Int} {n : Int} {F : List Int} {AD : Option Addr} {cD : Nat} {vs vf v : Value} {T : List Int} (h1 : W.heap[g]? = some (.cells #[.slice AD D.length cD, .int .i64 b, .int .i64 m, vs, .int .i64 n, vf] 102 (0, 0))) (h2 : w0.heap.size ≤ g) (h3 : Kd.C (Kd.int .i64) w0 AD D.length D) (h4 : D.length ≤ cD)
  (h5 : Kd.R (Kd.int .i64) 3 W w0.heap.size (fun _ => True) v T) (h6 : Kd.R (Kd.int .i64) 3 W w0.heap.size (fun k => True ∧ some k ≠ v.ownBlock) vf F) (h7 : F = [] → vf = .slice none 0 0) : impl_sourcesOf.Is w0 (W.setCell ⟨g, 3, none⟩ v) g D b m T n F := by
 have h5' := Kd.R_types h5 h1 (by decide)
 have h6' := Kd.R_types h6 h1 (by decide)
 exact ⟨AD, cD, v, vf, by simpa using blk_set h1 3 v, h2, h3, h4, Kd.R_mono (Kd.R_far h5' (fun _ hk => hk.2) _) (fun _ _ => trivial), Kd.R_mono (Kd.R_far h6' (fun _ hk => hk.2) _) (fun _ hk => hk.1), h7⟩
set_option maxHeartbeats 4000000 in
set_option maxRecDepth 100000 in
theorem impl_sourcesOf.ways_calls (g : Nat) (b s : Int) (o : Bool) (w : World) (hc : w.cell? ⟨g, 1, none⟩ = some (.int .i64 b)) :
  Calls Try.prog 408 #[.pointer (some ⟨g, 0, none⟩), .int .i64 s, .bool o] w fun e w' => e = .returned (.tuple #[.int .i64 (impl_sourcesOf.wy b s o), .int .i64 (impl_sourcesOf.lo b s o)]) ∧ Below w.heap.size w w' := by
 have hb := Aside0.mk (Below.refl w.heap.size w)
 obtain ⟨x0, e0⟩ : ∃ x, x = wrap64 (b - 1) := ⟨_, rfl⟩
 obtain ⟨x1, e1⟩ : ∃ x, x = wrap64 (s - x0) := ⟨_, rfl⟩
 obtain ⟨x2, e2⟩ : ∃ x, x = mx x1 0 := ⟨_, rfl⟩
 obtain ⟨x4, e4⟩ : ∃ x, x = mn s x0 := ⟨_, rfl⟩
 have E0 := e0.symm
 have E1 := e1.symm
 have E2 : (if x1 < 0 then 0 else x1) = x2 := e2.symm
 have E4 : (if x0 < s then x0 else s) = x4 := e4.symm
 cases o with
 | true =>
  obtain ⟨x3, e3⟩ : ∃ x, x = mx x2 1 := ⟨_, rfl⟩
  have E3 : (if x2 < 1 then 1 else x2) = x3 := e3.symm
  obtain ⟨x5, e5⟩ : ∃ x, x = wrap64 (wrap64 (x4 - x3) + 1) := ⟨_, rfl⟩
  have E5 := e5.symm
  obtain ⟨x6, e6⟩ : ∃ x, x = mx x5 0 := ⟨_, rfl⟩
  have E6 : (if x5 < 0 then 0 else x5) = x6 := e6.symm
  have r1 : impl_sourcesOf.lo b s true = x3 := by rw [e3, e2, e1, e0]; rfl
  have r2 : impl_sourcesOf.wy b s true = x6 := by rw [e6, e5, e4, ← r1, e0]; rfl
  rw [r1, r2]
  clear e0 e1 e2 e3 e4 e5 e6 r1 r2
  go_enter Try.func408, Try.ntmps408
  go_wp2
  go_ret2
  exact ⟨rfl, by repeat (first | (with_reducible first | exact hb.out | apply below_alloc | apply pw_below_drewN | apply below_drew1))⟩
 | false =>
  obtain ⟨x5, e5⟩ : ∃ x, x = wrap64 (wrap64 (x4 - x2) + 1) := ⟨_, rfl⟩
  have E5 := e5.symm
  obtain ⟨x6, e6⟩ : ∃ x, x = mx x5 0 := ⟨_, rfl⟩
  have E6 : (if x5 < 0 then 0 else x5) = x6 := e6.symm
  have r1 : impl_sourcesOf.lo b s false = x2 := by rw [e2, e1, e0]; rfl
  have r2 : impl_sourcesOf.wy b s false = x6 := by rw [e6, e5, e4, ← r1, e0]; rfl
  rw [r1, r2]
  clear e0 e1 e2 e4 e5 e6 r1 r2
  go_enter Try.func408, Try.ntmps408
  go_wp2
  go_ret2
  exact ⟨rfl, by repeat (first | (with_reducible first | exact hb.out | apply below_alloc | apply pw_below_drewN | apply below_drew1))⟩
set_option maxHeartbeats 4000000 in
set_option maxRecDepth 100000 in
theorem impl_sourcesOf.pairs_calls (g : Nat) (m : Int) (w : World) (hc : w.cell? ⟨g, 2, none⟩ = some (.int .i64 m)) :
  Calls Try.prog 385 #[.pointer (some ⟨g, 0, none⟩)] w fun e w' => e = .returned (.int .i64 (wrap64 (Int.tdiv (wrap64 (m + 1)) 2))) ∧ Below w.heap.size w w' := by
 go_enter Try.func385, Try.ntmps385
 go_wp2
 go_ret
 exact ⟨rfl, by repeat (first | (with_reducible first | exact Below.refl _ _ | apply below_alloc | apply pw_below_drewN | apply below_drew1))⟩
set_option maxHeartbeats 4000000 in
set_option maxRecDepth 100000 in
theorem impl_sourcesOf.middle_calls (g : Nat) (i m : Int) (w : World) (hc : w.cell? ⟨g, 2, none⟩ = some (.int .i64 m)) :
  Calls Try.prog 407 #[.pointer (some ⟨g, 0, none⟩), .int .i64 i] w fun e w' => e = .returned (.bool (decide (wrap64 (wrap64 (2 * i) + 1) = m))) ∧ Below w.heap.size w w' := by
 go_enter Try.func407, Try.ntmps407
 go_wp2
 go_ret
 exact ⟨rfl, by repeat (first | (with_reducible first | exact Below.refl _ _ | apply below_alloc | apply pw_below_drewN | apply below_drew1))⟩
set_option maxHeartbeats 8000000 in
set_option maxRecDepth 100000 in
theorem impl_sourcesOf.check_calls (k : Nat) (g : Nat) (D : List Int) (b m : Int) (S : List Int) (n : Int) (F : List Int) (n' : Int) (F' : List Int) (w0 w : World) (h : impl_sourcesOf.chk k D b m S n F = some (n', F')) (hI : impl_sourcesOf.Is w0 w g D b m S n F) (hB : Below w0.heap.size w0 w) :
  Calls Try.prog 386 #[.pointer (some ⟨g, 0, none⟩)] w fun e w' => e = .returned (.tuple #[]) ∧ impl_sourcesOf.Is w0 w' g D b m S n' F' ∧ Below w0.heap.size w0 w' := by
 have HB0 := Aside0.mk hB
 have HI := Aside0.mk hI
 obtain ⟨AD, cD, vs, vf, HG, hge, hC, hcD, hS, hF, hnil⟩ := hI
 obtain ⟨As, cs, rfl⟩ := Kd.R_slice hS
 obtain ⟨Af, cf, rfl⟩ := Kd.R_slice hF
 have HS := Aside0.mk hS
 have HF := Aside0.mk hF
 have HC := Aside0.mk (Kd.C_below hC hB)
 have HN := Aside0.mk hnil
 have hc0 : w.cell? ⟨g, 0, none⟩ = some (.slice AD D.length cD) := (blk_cell HG 0).trans rfl
 have hc1 : w.cell? ⟨g, 1, none⟩ = some (.int .i64 b) := (blk_cell HG 1).trans rfl
 have hc2 : w.cell? ⟨g, 2, none⟩ = some (.int .i64 m) := (blk_cell HG 2).trans rfl
 have hc3 : w.cell? ⟨g, 3, none⟩ = some (.slice As S.length cs) := (blk_cell HG 3).trans rfl
 have hc4 : w.cell? ⟨g, 4, none⟩ = some (.int .i64 n) := (blk_cell HG 4).trans rfl
 have hc5 : w.cell? ⟨g, 5, none⟩ = some (.slice Af F.length cf) := (blk_cell HG 5).trans rfl
 have HGB := Aside0.mk HG
 have HGE := Aside0.mk hge
 have HCD := Aside0.mk hcD
 clear HG hC hS hF hnil hB hge hcD
 have K0 := Aside0.mk hc0
 have K1 := Aside0.mk hc1
 have K2 := Aside0.mk hc2
 have K3 := Aside0.mk hc3
 have K4 := Aside0.mk hc4
 have K5 := Aside0.mk hc5
 have HB := Aside0.mk (Below.refl w.heap.size w)
 unfold impl_sourcesOf.chk at h
 by_cases hm : 1 ≤ m
 case neg => rw [if_neg hm] at h; exact absurd h (by simp)
 rw [if_pos hm] at h
 by_cases hm2 : m.toNat ≤ 1000
 case neg => rw [if_neg hm2] at h; exact absurd h (by simp)
 rw [if_pos hm2] at h
 obtain ⟨z, hz, h1⟩ := Option.bind_eq_some_iff.1 h
 have HZ := Aside0.mk hz
 have H := Aside0.mk h1
 clear hz h h1
 have m0 : decide (0 ≤ m) = true := decide_eq_true (by omega)
 have HM := Aside0.mk hm
 clear hm
 have HM2 := Aside0.mk hm2
 clear hm2
 go_enter Try.func386, Try.ntmps386
 go_wp2_with ((with_reducible refine gate_dst (N := 14) rfl ?_); refine Kd.R_make (Kd.int .i64) _ 3 rfl (N := 14) rfl 29 _ _ rfl m rfl rfl Try.underlying29 (.int .i64 0) 8 info3 rfl (by decide) (by omega) 0 (ok := fun _ => True) (okp := fun _ => True) rfl (fun _ hk => hk) trivial (of_decide_eq_true m0) (by have := HM2.out; omega) (Below.refl _ _) (Nat.le_refl _) ?_; intro v2 w2 ho2 hb2 hg_ hnew_; clear hg_ hnew_; have HL := Aside0.mk (Kd.R_lower ho2 (below_size (by repeat (first | (with_reducible first | exact HB.out | apply below_alloc | apply pw_below_drewN | apply below_drew1) | exact HB.out)))); have n1_ := Aside0.mk (below_step (by repeat (first | (with_reducible first | exact HB.out | apply below_alloc | apply pw_below_drewN | apply below_drew1) | exact HB.out)) hb2); clear HB ho2 hb2; have HB := n1_; clear n1_; replace hc3 := pw_cell_below HB.out K3.out)
 go_loopg [3, 20] k (fun kq v3 v20 w' => ∃ (n1 i : Int) (L : List Int), v3 = .int .i64 n1 ∧ v20 = .int .i64 i ∧ Aside0 (impl_sourcesOf.ck b m S kq L n1 i = some z) ∧ Aside0 (kq ≤ k) ∧ Aside0 (L.length = m.toNat) ∧ Aside0 (Kd.R (Kd.int .i64) 3 w' w.heap.size (fun _ => True) v2 L) ∧ Aside0 (Below w.heap.size w w'))
 case atStart => exact ⟨1, 0, List.replicate m.toNat 0, rfl, rfl, HZ, ⟨Nat.le_refl _⟩, ⟨by simp⟩, HL, HB⟩
 case round =>
  clear HZ
  clear HL
  clear hc0 hc1 hc2 hc3 hc4 hc5 HB
  obtain ⟨n1, i, L, rfl, rfl, HA, HK1, HLL, HL, HB⟩ := hrel
  have hc0 := pw_cell_below HB.out K0.out
  have hc1 := pw_cell_below HB.out K1.out
  have hc2 := pw_cell_below HB.out K2.out
  have hc3 := pw_cell_below HB.out K3.out
  cases gk with
  | zero => exact absurd HA.out (by simp [impl_sourcesOf.ck])
  | succ k1 =>
   have H1 := HA.out
   clear HA
   simp only [impl_sourcesOf.ck] at H1
   obtain ⟨g2, c2, e2, gb2, gl2, _⟩ := Kd.R_form HL.out (by have := HM.out; have := HLL.out; omega)
   subst e2
   clear gl2
   have GB2 := Aside0.mk gb2
   clear gb2
   by_cases q1 : i < (S.length : Int)
   case pos =>
    rw [if_pos q1] at H1
    by_cases q2 : 0 ≤ i
    case neg => rw [if_neg q2] at H1; exact absurd H1 (by simp)
    rw [if_pos q2] at H1
    by_cases q3 : i < (L.length : Int)
    case neg => rw [if_neg q3] at H1; exact absurd H1 (by simp)
    rw [if_pos q3] at H1
    obtain ⟨gs, cs2, es, _⟩ := Kd.R_form HS.out (by omega)
    injection es with ea en ec
    subst ea
    subst ec
    clear en
    have hsx := pw_cell_below HB.out (Kd.R_celln 0 HS.out i q2 q1).1
    have q1d : decide (i < (S.length : Int)) = true := decide_eq_true q1
    have q2d : decide (0 ≤ i) = true := decide_eq_true q2
    have q3d : decide (i < (L.length : Int)) = true := decide_eq_true q3
    have q1t := eq_true q1
    have q2t := eq_true q2
    have q3t := eq_true q3
    have Q1 := Aside0.mk q1
    have Q2 := Aside0.mk q2
    have Q3 := Aside0.mk q3
    clear q1 q2 q3
    obtain ⟨sx, esx⟩ : ∃ x, rd S i = x := ⟨_, rfl⟩
    change _ = some (Value.int IntKind.i64 (rd S i)) at hsx
    rw [esx] at hsx
    rw [esx] at H1
    by_cases q4 : wrap64 (wrap64 (2 * i) + 1) = m
    case pos =>
     rw [if_pos q4] at H1
     have q4d : decide (wrap64 (wrap64 (2 * i) + 1) = m) = true := decide_eq_true q4
     clear q4
     have HIx := HI
     by_cases q5 : Int.tmod sx 2 = 1
     case pos =>
      rw [if_pos q5] at H1
      have b5 : (Int.tmod sx 2 == 1) = true := beq_iff_eq.mpr q5
      clear q5
      obtain rfl := Option.some.inj H1
      obtain ⟨rfl, rfl⟩ := Prod.mk.inj (Option.some.inj H.out)
      go_wp2_with (first
       | (go_at_call 407; refine (impl_sourcesOf.middle_calls g i m _ hc2).mono ?_; rintro e w3 ⟨rfl, hb3⟩; replace hc1 := pw_cell_below hb3 hc1; replace hc2 := pw_cell_below hb3 hc2; replace hsx := pw_cell_below hb3 hsx; have n0_ := Aside0.mk (Kd.R_below HL.out hb3); have n1_ := Aside0.mk (below_step HB.out hb3); clear HL HB; have HL := n0_; have HB := n1_; clear n0_ n1_; skip)
       | ((with_reducible refine gate_store (t := 3) (p := 32) rfl ?_); obtain ⟨hy, hz⟩ := Kd.R_celln 0 HL.out (i) Q2.out Q3.out; refine store_event (t := 3) (p := 32) (v := ?vo_32) (w1 := (w3.setCell ⟨g2, (i).toNat, none⟩ (.int .i64 (wrap64 (Int.tdiv sx 2))))) ?hg ?ho ?hn ?hr ?_; (case ho => rfl); (case hg => rfl); (case hn => rfl); (case hr => first | (go_simp; done) | (go_simp; rfl)); intro w4 hw; have HP := Kd.R_putg HL.out (i) ((wrap64 (Int.tdiv sx 2))); have n0_ := Aside0.mk (show Kd.R (Kd.int .i64) 3 w4 w.heap.size (fun _ => True) _ _ from by rw [hw]; exact HP.1); have n1_ := Aside0.mk (show Below w.heap.size w w4 from by rw [hw]; exact below_set HB.out GB2.out); clear HL HB HP hw hy hz; have HL := n0_; have HB := n1_; clear n0_ n1_))
      first | go_end0 | ((try simp only [Exit.inBlock, Exit.then]); refine bodyPost_ret (results_none rfl _ _ _) rfl ?_)
      exact ⟨rfl, impl_sourcesOf.Is.below HI.out HB.out, below_step HB0.out HB.out⟩
     case neg =>
      rw [if_neg q5] at H1
      have b5 : (Int.tmod sx 2 == 1) = false := beq_eq_false_iff_ne.mpr q5
      clear q5
      by_cases q6 : i = 0
      case pos =>
       rw [if_pos q6] at H1
       have b6 : (i == 0) = true := beq_iff_eq.mpr q6
       clear q6
       by_cases q7 : sx = 0
       case pos =>
        rw [if_pos q7] at H1
        have b7 : (sx == 0) = true := beq_iff_eq.mpr q7
        clear q7
        obtain rfl := Option.some.inj H1
        obtain ⟨rfl, rfl⟩ := Prod.mk.inj (Option.some.inj H.out)
        go_wp2_with (first
         | (go_at_call 407; refine (impl_sourcesOf.middle_calls g i m _ hc2).mono ?_; rintro e w3 ⟨rfl, hb3⟩; replace hc1 := pw_cell_below hb3 hc1; replace hc2 := pw_cell_below hb3 hc2; replace hsx := pw_cell_below hb3 hsx; have n0_ := Aside0.mk (Kd.R_below HL.out hb3); have n1_ := Aside0.mk (below_step HB.out hb3); clear HL HB; have HL := n0_; have HB := n1_; clear n0_ n1_; skip)
         | ((with_reducible refine gate_store (t := 3) (p := 32) rfl ?_); obtain ⟨hy, hz⟩ := Kd.R_celln 0 HL.out (i) Q2.out Q3.out; refine store_event (t := 3) (p := 32) (v := ?vo_32) (w1 := (w3.setCell ⟨g2, (i).toNat, none⟩ (.int .i64 (wrap64 (Int.tdiv sx 2))))) ?hg ?ho ?hn ?hr ?_; (case ho => rfl); (case hg => rfl); (case hn => rfl); (case hr => first | (go_simp; done) | (go_simp; rfl)); intro w4 hw; have HP := Kd.R_putg HL.out (i) ((wrap64 (Int.tdiv sx 2))); have n0_ := Aside0.mk (show Kd.R (Kd.int .i64) 3 w4 w.heap.size (fun _ => True) _ _ from by rw [hw]; exact HP.1); have n1_ := Aside0.mk (show Below w.heap.size w w4 from by rw [hw]; exact below_set HB.out GB2.out); clear HL HB HP hw hy hz; have HL := n0_; have HB := n1_; clear n0_ n1_))
        first | go_end0 | ((try simp only [Exit.inBlock, Exit.then]); refine bodyPost_ret (results_none rfl _ _ _) rfl ?_)
        exact ⟨rfl, impl_sourcesOf.Is.below HI.out HB.out, below_step HB0.out HB.out⟩
       case neg =>
        rw [if_neg q7] at H1
        have b7 : (sx == 0) = false := beq_eq_false_iff_ne.mpr q7
        clear q7
        have H2 := Aside0.mk H1
        clear H1
        go_wp2_with (first
         | (go_at_call 407; refine (impl_sourcesOf.middle_calls g i m _ hc2).mono ?_; rintro e w3 ⟨rfl, hb3⟩; replace hc1 := pw_cell_below hb3 hc1; replace hc2 := pw_cell_below hb3 hc2; replace hsx := pw_cell_below hb3 hsx; have n0_ := Aside0.mk (Kd.R_below HL.out hb3); have n1_ := Aside0.mk (below_step HB.out hb3); clear HL HB; have HL := n0_; have HB := n1_; clear n0_ n1_; skip)
         | ((with_reducible refine gate_store (t := 3) (p := 32) rfl ?_); obtain ⟨hy, hz⟩ := Kd.R_celln 0 HL.out (i) Q2.out Q3.out; refine store_event (t := 3) (p := 32) (v := ?vo_32) (w1 := (w3.setCell ⟨g2, (i).toNat, none⟩ (.int .i64 (wrap64 (Int.tdiv sx 2))))) ?hg ?ho ?hn ?hr ?_; (case ho => rfl); (case hg => rfl); (case hn => rfl); (case hr => first | (go_simp; done) | (go_simp; rfl)); intro w4 hw; have HP := Kd.R_putg HL.out (i) ((wrap64 (Int.tdiv sx 2))); have n0_ := Aside0.mk (show Kd.R (Kd.int .i64) 3 w4 w.heap.size (fun _ => True) _ _ from by rw [hw]; exact HP.1); have n1_ := Aside0.mk (show Below w.heap.size w w4 from by rw [hw]; exact below_set HB.out GB2.out); clear HL HB HP hw hy hz; have HL := n0_; have HB := n1_; clear n0_ n1_))
        go_roundg k1
        case measure => have := HK1.out; omega
        case rel => exact ⟨_, _, _, rfl, rfl, H2, ⟨by have := HK1.out; omega⟩, ⟨by simpa using HLL.out⟩, HL, HB⟩
      case neg =>
       rw [if_neg q6] at H1
       have b6 : (i == 0) = false := beq_eq_false_iff_ne.mpr q6
       clear q6
       have H2 := Aside0.mk H1
       clear H1
       go_wp2_with (first
        | (go_at_call 407; refine (impl_sourcesOf.middle_calls g i m _ hc2).mono ?_; rintro e w3 ⟨rfl, hb3⟩; replace hc1 := pw_cell_below hb3 hc1; replace hc2 := pw_cell_below hb3 hc2; replace hsx := pw_cell_below hb3 hsx; have n0_ := Aside0.mk (Kd.R_below HL.out hb3); have n1_ := Aside0.mk (below_step HB.out hb3); clear HL HB; have HL := n0_; have HB := n1_; clear n0_ n1_; skip)
        | ((with_reducible refine gate_store (t := 3) (p := 32) rfl ?_); obtain ⟨hy, hz⟩ := Kd.R_celln 0 HL.out (i) Q2.out Q3.out; refine store_event (t := 3) (p := 32) (v := ?vo_32) (w1 := (w3.setCell ⟨g2, (i).toNat, none⟩ (.int .i64 (wrap64 (Int.tdiv sx 2))))) ?hg ?ho ?hn ?hr ?_; (case ho => rfl); (case hg => rfl); (case hn => rfl); (case hr => first | (go_simp; done) | (go_simp; rfl)); intro w4 hw; have HP := Kd.R_putg HL.out (i) ((wrap64 (Int.tdiv sx 2))); have n0_ := Aside0.mk (show Kd.R (Kd.int .i64) 3 w4 w.heap.size (fun _ => True) _ _ from by rw [hw]; exact HP.1); have n1_ := Aside0.mk (show Below w.heap.size w w4 from by rw [hw]; exact below_set HB.out GB2.out); clear HL HB HP hw hy hz; have HL := n0_; have HB := n1_; clear n0_ n1_))
       go_roundg k1
       case measure => have := HK1.out; omega
       case rel => exact ⟨_, _, _, rfl, rfl, H2, ⟨by have := HK1.out; omega⟩, ⟨by simpa using HLL.out⟩, HL, HB⟩
    case neg =>
     rw [if_neg q4] at H1
     have q4d : decide (wrap64 (wrap64 (2 * i) + 1) = m) = false := decide_eq_false q4
     clear q4
     obtain ⟨j, ej⟩ : ∃ j, wrap64 (wrap64 (m - 1) - i) = j := ⟨_, rfl⟩
     have ejw : (IntKind.i64.wrap (wrap64 (m - 1) - i)) = j := (i64_w _).trans ej
     rw [ej] at H1
     by_cases q5 : 0 ≤ j
     case neg => rw [if_neg q5] at H1; exact absurd H1 (by simp)
     rw [if_pos q5] at H1
     by_cases q6 : j < (L.length : Int)
     case neg => rw [if_neg q6] at H1; exact absurd H1 (by simp)
     rw [if_pos q6] at H1
     have q5d : decide (0 ≤ j) = true := decide_eq_true q5
     have q6d : decide (j < (L.length : Int)) = true := decide_eq_true q6
     have q5t := eq_true q5
     have q6t := eq_true q6
     have Q5 := Aside0.mk q5
     have Q6 := Aside0.mk q6
     clear q5 q6
     obtain ⟨sl, el⟩ : ∃ x, impl_sourcesOf.lo b sx (decide (i = 0)) = x := ⟨_, rfl⟩
     obtain ⟨sw, ew⟩ : ∃ x, impl_sourcesOf.wy b sx (decide (i = 0)) = x := ⟨_, rfl⟩
     have el2 : impl_sourcesOf.lo b sx (i == 0) = sl := el
     have ew2 : impl_sourcesOf.wy b sx (i == 0) = sw := ew
     rw [el, ew] at H1
     clear el ew
     have H2 := Aside0.mk H1
     clear H1
     go_wp2_with (first
      | (go_at_call 407; refine (impl_sourcesOf.middle_calls g i m _ hc2).mono ?_; rintro e w3 ⟨rfl, hb3⟩; replace hc1 := pw_cell_below hb3 hc1; replace hc2 := pw_cell_below hb3 hc2; replace hsx := pw_cell_below hb3 hsx; have n0_ := Aside0.mk (Kd.R_below HL.out hb3); have n1_ := Aside0.mk (below_step HB.out hb3); clear HL HB; have HL := n0_; have HB := n1_; clear n0_ n1_; skip)
      | (go_at_call 408; refine (impl_sourcesOf.ways_calls g b sx (i == 0) _ hc1).mono ?_; rw [el2, ew2]; rintro e w4 ⟨rfl, hb4⟩; replace hc1 := pw_cell_below hb4 hc1; replace hc2 := pw_cell_below hb4 hc2; have n0_ := Aside0.mk (Kd.R_below HL.out hb4); have n1_ := Aside0.mk (below_step HB.out hb4); clear HL HB; have HL := n0_; have HB := n1_; clear n0_ n1_; skip)
      | ((with_reducible refine gate_store (t := 3) (p := 69) rfl ?_); obtain ⟨hy, hz⟩ := Kd.R_celln 0 HL.out (i) Q2.out Q3.out; refine store_event (t := 3) (p := 69) (v := ?vo_69) (w1 := (w4.setCell ⟨g2, (i).toNat, none⟩ (.int .i64 sl))) ?hg ?ho ?hn ?hr ?_; (case ho => rfl); (case hg => rfl); (case hn => rfl); (case hr => first | (go_simp; done) | (go_simp; rfl)); intro w5 hw; have HP := Kd.R_putg HL.out (i) (sl); have n0_ := Aside0.mk (show Kd.R (Kd.int .i64) 3 w5 w.heap.size (fun _ => True) _ _ from by rw [hw]; exact HP.1); have n1_ := Aside0.mk (show Below w.heap.size w w5 from by rw [hw]; exact below_set HB.out GB2.out); clear HL HB HP hw hy hz; have HL := n0_; have HB := n1_; clear n0_ n1_)
      | ((with_reducible refine gate_store (t := 3) (p := 70) rfl ?_); obtain ⟨hy, hz⟩ := Kd.R_celln 0 HL.out (j) Q5.out Q6.out; refine store_event (t := 3) (p := 70) (v := ?vo_70) (w1 := (w5.setCell ⟨g2, (j).toNat, none⟩ (.int .i64 (wrap64 (sx - sl))))) ?hg ?ho ?hn ?hr ?_; (case ho => rfl); (case hg => rfl); (case hn => rfl); (case hr => first | (go_simp; done) | (go_simp; rfl)); intro w6 hw; have HP := Kd.R_putg HL.out (j) ((wrap64 (sx - sl))); have n0_ := Aside0.mk (show Kd.R (Kd.int .i64) 3 w6 w.heap.size (fun _ => True) _ _ from by rw [hw]; exact HP.1); have n1_ := Aside0.mk (show Below w.heap.size w w6 from by rw [hw]; exact below_set HB.out GB2.out); clear HL HB HP hw hy hz; have HL := n0_; have HB := n1_; clear n0_ n1_))
     go_roundg k1
     case measure => have := HK1.out; omega
     case rel => exact ⟨_, _, _, rfl, rfl, H2, ⟨by have := HK1.out; omega⟩, ⟨by simpa using HLL.out⟩, HL, HB⟩
   case neg =>
    rw [if_neg q1] at H1
    have q1d : decide (i < (S.length : Int)) = false := decide_eq_false q1
    clear q1
    obtain rfl := Option.some.inj H1
    have H2 := H.out
    simp only at H2
    clear H H1
    by_cases p1 : n1 = 0
    case pos =>
     rw [if_pos p1] at H2
     have b1 : (n1 == 0) = true := beq_iff_eq.mpr p1
     clear p1
     obtain ⟨rfl, rfl⟩ := Prod.mk.inj (Option.some.inj H2)
     go_wp2
     first | go_end0 | ((try simp only [Exit.inBlock, Exit.then]); refine bodyPost_ret (results_none rfl _ _ _) rfl ?_)
     exact ⟨rfl, impl_sourcesOf.Is.below HI.out HB.out, below_step HB0.out HB.out⟩
    case neg =>
     rw [if_neg p1] at H2
     have b1 : (n1 == 0) = false := beq_eq_false_iff_ne.mpr p1
     clear p1
     obtain ⟨⟨y1, y2⟩, hy, H3⟩ := Option.bind_eq_some_iff.1 H2
     obtain ⟨ee, he, H4⟩ := Option.bind_eq_some_iff.1 H3
     have A1 := Aside0.mk hy
     have A2 := Aside0.mk he
     clear hy he H2 H3
     cases ee with
     | false =>
      rw [if_neg (by simp)] at H4
      obtain ⟨rfl, rfl⟩ := Prod.mk.inj (Option.some.inj H4)
      go_wp2_with (first
       | (go_at_call 226; refine (impl_summed.calls k _ _ L b y1 y2 _ ?sC ?sc A1.out).mono ?_; (case sC => (repeat (first | exact (Kd.R_reads' HL.out).2.2 | (with_reducible refine Kd.C_alloc ?_ _) | (with_reducible refine Kd.C_drewN ?_ _) | (with_reducible refine Kd.C_drew ?_)))); (case sc => exact (Kd.R_reads' HL.out).2.1); rintro e w3 ⟨v8, v9, rfl, ho8, ho9, hb3⟩; clear ho9; have n2_ := Aside0.mk (Kd.R_lower ho8 (below_size (by repeat (first | (with_reducible first | exact HB.out | apply below_alloc | apply pw_below_drewN | apply below_drew1) | exact HB.out)))); have n0_ := Aside0.mk (Kd.R_below HL.out hb3); have n1_ := Aside0.mk (below_step (by repeat (first | (with_reducible first | exact HB.out | apply below_alloc | apply pw_below_drewN | apply below_drew1) | exact HB.out)) hb3); clear HL HB hb3 ho8; have HL := n0_; have HB := n1_; have HO8 := n2_; clear n0_ n1_ n2_; obtain ⟨A8, c8, e8⟩ := Kd.R_slice HO8.out; subst e8; replace hc0 := pw_cell_below HB.out K0.out)
       | (go_at_call 328; (refine (slices_Equal_int_int.calls k _ _ y1 _ _ D _ _ ?tC ?tc ?tD ?td A2.out).mono ?_; (case tC => (repeat (first | exact (Kd.R_reads' HO8.out).2.2 | (with_reducible refine Kd.C_alloc ?_ _) | (with_reducible refine Kd.C_drewN ?_ _) | (with_reducible refine Kd.C_drew ?_)))); (case tc => exact (Kd.R_reads' HO8.out).2.1); (case tD => (repeat (first | exact (Kd.C_below HC.out HB.out) | (with_reducible refine Kd.C_alloc ?_ _) | (with_reducible refine Kd.C_drewN ?_ _) | (with_reducible refine Kd.C_drew ?_)))); (case td => exact HCD.out); rintro e w4 ⟨rfl, hd4⟩; have n0_ := Aside0.mk (Kd.R_below HL.out hd4.below); have n1_ := Aside0.mk (below_step (by repeat (first | (with_reducible first | exact HB.out | apply below_alloc | apply pw_below_drewN | apply below_drew1) | exact HB.out)) hd4.below); clear HL HB hd4; have HL := n0_; have HB := n1_; clear n0_ n1_; have hc4 := pw_cell_below HB.out K4.out)))
      first | go_end0 | ((try simp only [Exit.inBlock, Exit.then]); refine bodyPost_ret (results_none rfl _ _ _) rfl ?_)
      exact ⟨rfl, impl_sourcesOf.Is.below HI.out HB.out, below_step HB0.out HB.out⟩
     | true =>
      rw [if_pos rfl] at H4
      by_cases pF : F = []
      case pos =>
       rw [if_pos pF] at H4
       have eF := HN.out pF
       rw [eF] at K5 HGB HF
       have hq_ : ∀ W : World, (binOp .eql 29 (.slice none 0 0) (.slice none 0 0)).run Try.prog W = .ok (.bool true) W := fun W => Go.Lib.run_eql_slice_nil W 29 3 none 0 0 0 0 Try.underlying29
       obtain ⟨rfl, rfl⟩ := Prod.mk.inj (Option.some.inj H4)
       go_wp2_with (first
        | (go_at_call 226; refine (impl_summed.calls k _ _ L b y1 y2 _ ?sC ?sc A1.out).mono ?_; (case sC => (repeat (first | exact (Kd.R_reads' HL.out).2.2 | (with_reducible refine Kd.C_alloc ?_ _) | (with_reducible refine Kd.C_drewN ?_ _) | (with_reducible refine Kd.C_drew ?_)))); (case sc => exact (Kd.R_reads' HL.out).2.1); rintro e w3 ⟨v8, v9, rfl, ho8, ho9, hb3⟩; clear ho9; have n2_ := Aside0.mk (Kd.R_lower ho8 (below_size (by repeat (first | (with_reducible first | exact HB.out | apply below_alloc | apply pw_below_drewN | apply below_drew1) | exact HB.out)))); have n0_ := Aside0.mk (Kd.R_below HL.out hb3); have n1_ := Aside0.mk (below_step (by repeat (first | (with_reducible first | exact HB.out | apply below_alloc | apply pw_below_drewN | apply below_drew1) | exact HB.out)) hb3); clear HL HB hb3 ho8; have HL := n0_; have HB := n1_; have HO8 := n2_; clear n0_ n1_ n2_; obtain ⟨A8, c8, e8⟩ := Kd.R_slice HO8.out; subst e8; replace hc0 := pw_cell_below HB.out K0.out)
        | (go_at_call 328; (refine (slices_Equal_int_int.calls k _ _ y1 _ _ D _ _ ?tC ?tc ?tD ?td A2.out).mono ?_; (case tC => (repeat (first | exact (Kd.R_reads' HO8.out).2.2 | (with_reducible refine Kd.C_alloc ?_ _) | (with_reducible refine Kd.C_drewN ?_ _) | (with_reducible refine Kd.C_drew ?_)))); (case tc => exact (Kd.R_reads' HO8.out).2.1); (case tD => (repeat (first | exact (Kd.C_below HC.out HB.out) | (with_reducible refine Kd.C_alloc ?_ _) | (with_reducible refine Kd.C_drewN ?_ _) | (with_reducible refine Kd.C_drew ?_)))); (case td => exact HCD.out); rintro e w4 ⟨rfl, hd4⟩; have n0_ := Aside0.mk (Kd.R_below HL.out hd4.below); have n1_ := Aside0.mk (below_step (by repeat (first | (with_reducible first | exact HB.out | apply below_alloc | apply pw_below_drewN | apply below_drew1) | exact HB.out)) hd4.below); clear HL HB hd4; have HL := n0_; have HB := n1_; clear n0_ n1_; have hc4 := pw_cell_below HB.out K4.out))
        | ((with_reducible refine gate_store (t := 3) (p := 97) rfl ?_); have HG4 := blk_grown HGB.out (grown_of_below HB.out none) (by simp); have hf4 := blk_frozen HG4 4; refine store_event (t := 3) (p := 97) (v := ?vo_97) (w1 := (w4.setCell ⟨g, 4, none⟩ (.int .i64 (wrap64 (n + n1))))) ?hg ?ho ?hn ?hr ?_; (case ho => rfl); (case hg => rfl); (case hn => rfl); (case hr => first | (go_simp; done) | (go_simp; rfl)); intro w5 hw; have HI5 := Aside0.mk (show impl_sourcesOf.Is w0 w5 g D b m S (wrap64 (n + n1)) F from by rw [hw]; exact impl_sourcesOf.Is.set4 (impl_sourcesOf.Is.below HI.out HB.out) _); have HB5 := Aside0.mk (show Below w0.heap.size w0 w5 from by rw [hw]; exact below_set (below_step HB0.out HB.out) HGE.out); have HL5 := Aside0.mk (show Kd.R (Kd.int .i64) 3 w5 w.heap.size (fun _ => True) _ L from by rw [hw]; exact Kd.R_mono (Kd.R_far (Kd.R_types HL.out HG4 (by decide)) (fun _ hk => hk.2) _) (fun _ _ => trivial)); have HF5 := Aside0.mk (show Kd.R (Kd.int .i64) 3 w5 w0.heap.size (fun _ => True) _ F from by rw [hw]; exact Kd.R_mono (Kd.R_far (Kd.R_types (Kd.R_below HF.out HB.out) HG4 (by decide)) (fun _ hk => hk.2) _) (fun _ _ => trivial)); have HG5 := blk_set HG4 4 (Value.int .i64 (wrap64 (n + n1))); rw [← hw] at HG5; have hc3 : w5.cell? ⟨g, 3, none⟩ = some (.slice As S.length cs) := (blk_cell HG5 3).trans rfl; have hc5 : w5.cell? ⟨g, 5, none⟩ = some (.slice none 0 0) := (blk_cell HG5 5).trans rfl; clear hf4 HG4 hc4; have HG5 := Aside0.mk HG5; clear HL HB hw)
        | ((with_reducible refine gate_store (t := 29) (p := 115) rfl ?_); have hf5 := blk_frozen HG5.out 5; refine store_event (t := 29) (p := 115) (v := ?vo_115) (w1 := (w5.setCell ⟨g, 5, none⟩ (.slice (some ⟨g2, 0, none⟩) L.length c2))) ?hg ?ho ?hn ?hr ?_; (case ho => rfl); (case hg => rfl); (case hn => rfl); (case hr => first | (go_simp; done) | (go_simp; rfl)); intro w7 hw; have HI7 := Aside0.mk (show impl_sourcesOf.Is w0 w7 g D b m S (wrap64 (n + n1)) L from by rw [hw]; exact impl_sourcesOf.Is.set5 HI5.out hc3 (Kd.R_lower (Kd.R_new' HL5.out (Kd.R_lt HS.out)) (below_size HB0.out)) (by intro hL0; have h1 := HM.out; have h2 := HLL.out; rw [hL0] at h2; simp only [List.length_nil] at h2; omega)); have HB7 := Aside0.mk (show Below w0.heap.size w0 w7 from by rw [hw]; exact below_set HB5.out HGE.out); clear hw hf5))
       first | go_end0 | ((try simp only [Exit.inBlock, Exit.then]); refine bodyPost_ret (results_none rfl _ _ _) rfl ?_)
       exact ⟨rfl, HI7.out, HB7.out⟩
      case neg =>
       rw [if_neg pF] at H4
       obtain ⟨q, hq, H5⟩ := Option.bind_eq_some_iff.1 H4
       have A3 := Aside0.mk hq
       clear hq H4
       obtain ⟨gf, cf2, ef, _⟩ := Kd.R_form HF.out (List.length_pos_iff.2 pF)
       injection ef with ea en ec
       subst ea
       subst ec
       clear en
       have hq_ : ∀ W : World, (binOp .eql 29 (.slice (some ⟨gf, 0, none⟩) F.length cf) (.slice none 0 0)).run Try.prog W = .ok (.bool false) W := fun W => Go.Lib.run_eql_slice_nil W 29 3 (some ⟨gf, 0, none⟩) F.length cf 0 0 Try.underlying29
       by_cases pq : q < 0
       case pos =>
        rw [if_pos pq] at H5
        have b2 : decide (q < 0) = true := decide_eq_true pq
        clear pq
        obtain ⟨rfl, rfl⟩ := Prod.mk.inj (Option.some.inj H5)
        go_wp2_with (first
         | (go_at_call 226; refine (impl_summed.calls k _ _ L b y1 y2 _ ?sC ?sc A1.out).mono ?_; (case sC => (repeat (first | exact (Kd.R_reads' HL.out).2.2 | (with_reducible refine Kd.C_alloc ?_ _) | (with_reducible refine Kd.C_drewN ?_ _) | (with_reducible refine Kd.C_drew ?_)))); (case sc => exact (Kd.R_reads' HL.out).2.1); rintro e w3 ⟨v8, v9, rfl, ho8, ho9, hb3⟩; clear ho9; have n2_ := Aside0.mk (Kd.R_lower ho8 (below_size (by repeat (first | (with_reducible first | exact HB.out | apply below_alloc | apply pw_below_drewN | apply below_drew1) | exact HB.out)))); have n0_ := Aside0.mk (Kd.R_below HL.out hb3); have n1_ := Aside0.mk (below_step (by repeat (first | (with_reducible first | exact HB.out | apply below_alloc | apply pw_below_drewN | apply below_drew1) | exact HB.out)) hb3); clear HL HB hb3 ho8; have HL := n0_; have HB := n1_; have HO8 := n2_; clear n0_ n1_ n2_; obtain ⟨A8, c8, e8⟩ := Kd.R_slice HO8.out; subst e8; replace hc0 := pw_cell_below HB.out K0.out)
         | (go_at_call 328; (refine (slices_Equal_int_int.calls k _ _ y1 _ _ D _ _ ?tC ?tc ?tD ?td A2.out).mono ?_; (case tC => (repeat (first | exact (Kd.R_reads' HO8.out).2.2 | (with_reducible refine Kd.C_alloc ?_ _) | (with_reducible refine Kd.C_drewN ?_ _) | (with_reducible refine Kd.C_drew ?_)))); (case tc => exact (Kd.R_reads' HO8.out).2.1); (case tD => (repeat (first | exact (Kd.C_below HC.out HB.out) | (with_reducible refine Kd.C_alloc ?_ _) | (with_reducible refine Kd.C_drewN ?_ _) | (with_reducible refine Kd.C_drew ?_)))); (case td => exact HCD.out); rintro e w4 ⟨rfl, hd4⟩; have n0_ := Aside0.mk (Kd.R_below HL.out hd4.below); have n1_ := Aside0.mk (below_step (by repeat (first | (with_reducible first | exact HB.out | apply below_alloc | apply pw_below_drewN | apply below_drew1) | exact HB.out)) hd4.below); clear HL HB hd4; have HL := n0_; have HB := n1_; clear n0_ n1_; have hc4 := pw_cell_below HB.out K4.out))
         | ((with_reducible refine gate_store (t := 3) (p := 97) rfl ?_); have HG4 := blk_grown HGB.out (grown_of_below HB.out none) (by simp); have hf4 := blk_frozen HG4 4; refine store_event (t := 3) (p := 97) (v := ?vo_97) (w1 := (w4.setCell ⟨g, 4, none⟩ (.int .i64 (wrap64 (n + n1))))) ?hg ?ho ?hn ?hr ?_; (case ho => rfl); (case hg => rfl); (case hn => rfl); (case hr => first | (go_simp; done) | (go_simp; rfl)); intro w5 hw; have HI5 := Aside0.mk (show impl_sourcesOf.Is w0 w5 g D b m S (wrap64 (n + n1)) F from by rw [hw]; exact impl_sourcesOf.Is.set4 (impl_sourcesOf.Is.below HI.out HB.out) _); have HB5 := Aside0.mk (show Below w0.heap.size w0 w5 from by rw [hw]; exact below_set (below_step HB0.out HB.out) HGE.out); have HL5 := Aside0.mk (show Kd.R (Kd.int .i64) 3 w5 w.heap.size (fun _ => True) _ L from by rw [hw]; exact Kd.R_mono (Kd.R_far (Kd.R_types HL.out HG4 (by decide)) (fun _ hk => hk.2) _) (fun _ _ => trivial)); have HF5 := Aside0.mk (show Kd.R (Kd.int .i64) 3 w5 w0.heap.size (fun _ => True) _ F from by rw [hw]; exact Kd.R_mono (Kd.R_far (Kd.R_types (Kd.R_below HF.out HB.out) HG4 (by decide)) (fun _ hk => hk.2) _) (fun _ _ => trivial)); have HG5 := blk_set HG4 4 (Value.int .i64 (wrap64 (n + n1))); rw [← hw] at HG5; have hc3 : w5.cell? ⟨g, 3, none⟩ = some (.slice As S.length cs) := (blk_cell HG5 3).trans rfl; have hc5 : w5.cell? ⟨g, 5, none⟩ = some (.slice (some ⟨gf, 0, none⟩) F.length cf) := (blk_cell HG5 5).trans rfl; clear hf4 HG4 hc4; have HG5 := Aside0.mk HG5; clear HL HB hw)
         | (go_at_call 232; refine (slices_Compare_int_int.calls k _ _ L _ _ F q _ ?uC ?uc ?uD ?ud A3.out).mono ?_; (case uC => (repeat (first | exact (Kd.R_reads' HL5.out).2.2 | (with_reducible refine Kd.C_alloc ?_ _) | (with_reducible refine Kd.C_drewN ?_ _) | (with_reducible refine Kd.C_drew ?_)))); (case uc => exact (Kd.R_reads' HL5.out).2.1); (case uD => (repeat (first | exact (Kd.R_reads' HF5.out).2.2 | (with_reducible refine Kd.C_alloc ?_ _) | (with_reducible refine Kd.C_drewN ?_ _) | (with_reducible refine Kd.C_drew ?_)))); (case ud => exact (Kd.R_reads' HF5.out).2.1); rintro e w6 ⟨rfl, hd6⟩; have n0_ := Aside0.mk (Kd.R_below HL5.out hd6.below); have n1_ := Aside0.mk (below_step HB5.out hd6.below); have n2_ := Aside0.mk (impl_sourcesOf.Is.below HI5.out hd6.below); have n3_ := Aside0.mk (blk_grown HG5.out (grown_of_below hd6.below none) (by simp)); replace hc3 := pw_cell_below hd6.below hc3; replace hc5 := pw_cell_below hd6.below hc5; clear HL5 HB5 HI5 HG5 hd6; have HL5 := n0_; have HB5 := n1_; have HI5 := n2_; have HG5 := n3_; clear n0_ n1_ n2_ n3_)
         | ((with_reducible refine gate_store (t := 29) (p := 115) rfl ?_); have hf5 := blk_frozen HG5.out 5; refine store_event (t := 29) (p := 115) (v := ?vo_115) (w1 := (w6.setCell ⟨g, 5, none⟩ (.slice (some ⟨g2, 0, none⟩) L.length c2))) ?hg ?ho ?hn ?hr ?_; (case ho => rfl); (case hg => rfl); (case hn => rfl); (case hr => first | (go_simp; done) | (go_simp; rfl)); intro w7 hw; have HI7 := Aside0.mk (show impl_sourcesOf.Is w0 w7 g D b m S (wrap64 (n + n1)) L from by rw [hw]; exact impl_sourcesOf.Is.set5 HI5.out hc3 (Kd.R_lower (Kd.R_new' HL5.out (Kd.R_lt HS.out)) (below_size HB0.out)) (by intro hL0; have h1 := HM.out; have h2 := HLL.out; rw [hL0] at h2; simp only [List.length_nil] at h2; omega)); have HB7 := Aside0.mk (show Below w0.heap.size w0 w7 from by rw [hw]; exact below_set HB5.out HGE.out); clear hw hf5))
        first | go_end0 | ((try simp only [Exit.inBlock, Exit.then]); refine bodyPost_ret (results_none rfl _ _ _) rfl ?_)
        exact ⟨rfl, HI7.out, HB7.out⟩
       case neg =>
        rw [if_neg pq] at H5
        have b2 : decide (q < 0) = false := decide_eq_false pq
        clear pq
        obtain ⟨rfl, rfl⟩ := Prod.mk.inj (Option.some.inj H5)
        go_wp2_with (first
         | (go_at_call 226; refine (impl_summed.calls k _ _ L b y1 y2 _ ?sC ?sc A1.out).mono ?_; (case sC => (repeat (first | exact (Kd.R_reads' HL.out).2.2 | (with_reducible refine Kd.C_alloc ?_ _) | (with_reducible refine Kd.C_drewN ?_ _) | (with_reducible refine Kd.C_drew ?_)))); (case sc => exact (Kd.R_reads' HL.out).2.1); rintro e w3 ⟨v8, v9, rfl, ho8, ho9, hb3⟩; clear ho9; have n2_ := Aside0.mk (Kd.R_lower ho8 (below_size (by repeat (first | (with_reducible first | exact HB.out | apply below_alloc | apply pw_below_drewN | apply below_drew1) | exact HB.out)))); have n0_ := Aside0.mk (Kd.R_below HL.out hb3); have n1_ := Aside0.mk (below_step (by repeat (first | (with_reducible first | exact HB.out | apply below_alloc | apply pw_below_drewN | apply below_drew1) | exact HB.out)) hb3); clear HL HB hb3 ho8; have HL := n0_; have HB := n1_; have HO8 := n2_; clear n0_ n1_ n2_; obtain ⟨A8, c8, e8⟩ := Kd.R_slice HO8.out; subst e8; replace hc0 := pw_cell_below HB.out K0.out)
         | (go_at_call 328; (refine (slices_Equal_int_int.calls k _ _ y1 _ _ D _ _ ?tC ?tc ?tD ?td A2.out).mono ?_; (case tC => (repeat (first | exact (Kd.R_reads' HO8.out).2.2 | (with_reducible refine Kd.C_alloc ?_ _) | (with_reducible refine Kd.C_drewN ?_ _) | (with_reducible refine Kd.C_drew ?_)))); (case tc => exact (Kd.R_reads' HO8.out).2.1); (case tD => (repeat (first | exact (Kd.C_below HC.out HB.out) | (with_reducible refine Kd.C_alloc ?_ _) | (with_reducible refine Kd.C_drewN ?_ _) | (with_reducible refine Kd.C_drew ?_)))); (case td => exact HCD.out); rintro e w4 ⟨rfl, hd4⟩; have n0_ := Aside0.mk (Kd.R_below HL.out hd4.below); have n1_ := Aside0.mk (below_step (by repeat (first | (with_reducible first | exact HB.out | apply below_alloc | apply pw_below_drewN | apply below_drew1) | exact HB.out)) hd4.below); clear HL HB hd4; have HL := n0_; have HB := n1_; clear n0_ n1_; have hc4 := pw_cell_below HB.out K4.out))
         | ((with_reducible refine gate_store (t := 3) (p := 97) rfl ?_); have HG4 := blk_grown HGB.out (grown_of_below HB.out none) (by simp); have hf4 := blk_frozen HG4 4; refine store_event (t := 3) (p := 97) (v := ?vo_97) (w1 := (w4.setCell ⟨g, 4, none⟩ (.int .i64 (wrap64 (n + n1))))) ?hg ?ho ?hn ?hr ?_; (case ho => rfl); (case hg => rfl); (case hn => rfl); (case hr => first | (go_simp; done) | (go_simp; rfl)); intro w5 hw; have HI5 := Aside0.mk (show impl_sourcesOf.Is w0 w5 g D b m S (wrap64 (n + n1)) F from by rw [hw]; exact impl_sourcesOf.Is.set4 (impl_sourcesOf.Is.below HI.out HB.out) _); have HB5 := Aside0.mk (show Below w0.heap.size w0 w5 from by rw [hw]; exact below_set (below_step HB0.out HB.out) HGE.out); have HL5 := Aside0.mk (show Kd.R (Kd.int .i64) 3 w5 w.heap.size (fun _ => True) _ L from by rw [hw]; exact Kd.R_mono (Kd.R_far (Kd.R_types HL.out HG4 (by decide)) (fun _ hk => hk.2) _) (fun _ _ => trivial)); have HF5 := Aside0.mk (show Kd.R (Kd.int .i64) 3 w5 w0.heap.size (fun _ => True) _ F from by rw [hw]; exact Kd.R_mono (Kd.R_far (Kd.R_types (Kd.R_below HF.out HB.out) HG4 (by decide)) (fun _ hk => hk.2) _) (fun _ _ => trivial)); have HG5 := blk_set HG4 4 (Value.int .i64 (wrap64 (n + n1))); rw [← hw] at HG5; have hc3 : w5.cell? ⟨g, 3, none⟩ = some (.slice As S.length cs) := (blk_cell HG5 3).trans rfl; have hc5 : w5.cell? ⟨g, 5, none⟩ = some (.slice (some ⟨gf, 0, none⟩) F.length cf) := (blk_cell HG5 5).trans rfl; clear hf4 HG4 hc4; have HG5 := Aside0.mk HG5; clear HL HB hw)
         | (go_at_call 232; refine (slices_Compare_int_int.calls k _ _ L _ _ F q _ ?uC ?uc ?uD ?ud A3.out).mono ?_; (case uC => (repeat (first | exact (Kd.R_reads' HL5.out).2.2 | (with_reducible refine Kd.C_alloc ?_ _) | (with_reducible refine Kd.C_drewN ?_ _) | (with_reducible refine Kd.C_drew ?_)))); (case uc => exact (Kd.R_reads' HL5.out).2.1); (case uD => (repeat (first | exact (Kd.R_reads' HF5.out).2.2 | (with_reducible refine Kd.C_alloc ?_ _) | (with_reducible refine Kd.C_drewN ?_ _) | (with_reducible refine Kd.C_drew ?_)))); (case ud => exact (Kd.R_reads' HF5.out).2.1); rintro e w6 ⟨rfl, hd6⟩; have n0_ := Aside0.mk (Kd.R_below HL5.out hd6.below); have n1_ := Aside0.mk (below_step HB5.out hd6.below); have n2_ := Aside0.mk (impl_sourcesOf.Is.below HI5.out hd6.below); have n3_ := Aside0.mk (blk_grown HG5.out (grown_of_below hd6.below none) (by simp)); replace hc3 := pw_cell_below hd6.below hc3; replace hc5 := pw_cell_below hd6.below hc5; clear HL5 HB5 HI5 HG5 hd6; have HL5 := n0_; have HB5 := n1_; have HI5 := n2_; have HG5 := n3_; clear n0_ n1_ n2_ n3_))
        first | go_end0 | ((try simp only [Exit.inBlock, Exit.then]); refine bodyPost_ret (results_none rfl _ _ _) rfl ?_)
        exact ⟨rfl, HI5.out, HB5.out⟩
set_option maxHeartbeats 8000000 in
set_option maxRecDepth 100000 in
theorem impl_sourcesOf.on_calls (D : List Int) (b m : Int) : ∀ (k : Nat) (i c s0 : Int) (t r : List Int × Int × List Int) (g : Nat) (w0 w : World), impl_sourcesOf.go D b m k false i c s0 t = some r → impl_sourcesOf.Is w0 w g D b m t.1 t.2.1 t.2.2 → Below w0.heap.size w0 w →
  Calls Try.prog 366 #[.pointer (some ⟨g, 0, none⟩), .int .i64 i, .int .i64 c] w fun e w' => e = .returned (.tuple #[]) ∧ impl_sourcesOf.Is w0 w' g D b m r.1 r.2.1 r.2.2 ∧ Below w0.heap.size w0 w' := by
 intro k
 induction k using Nat.strongRecOn with
 | _ k ih =>
  intro i c s0 t r g w0 w h hI hB
  cases k with
  | zero => exact absurd h (by simp [impl_sourcesOf.go])
  | succ k =>
   have IH := Aside0.mk ih
   clear ih
   obtain ⟨S, n, F⟩ := t
   simp only at hI
   have HB := Aside0.mk hB
   have HI := Aside0.mk hI
   clear hB hI
   simp only [impl_sourcesOf.go] at h
   obtain ⟨AD, cD, vs, vf, HG, hge, hC, hcD, hS, hF, hnil⟩ := HI.out
   have hc0 : w.cell? ⟨g, 0, none⟩ = some (.slice AD D.length cD) := (blk_cell HG 0).trans rfl
   have hc1 : w.cell? ⟨g, 1, none⟩ = some (.int .i64 b) := (blk_cell HG 1).trans rfl
   have hc2 : w.cell? ⟨g, 2, none⟩ = some (.int .i64 m) := (blk_cell HG 2).trans rfl
   by_cases q1 : i = wrap64 (Int.tdiv (wrap64 (m + 1)) 2)
   case pos =>
    rw [if_pos q1] at h
    obtain ⟨⟨n', F'⟩, hc, h2⟩ := Option.bind_eq_some_iff.1 h
    obtain rfl := Option.some.inj h2
    have A1 := Aside0.mk hc
    clear hc h h2
    have b1 : (i == wrap64 (Int.tdiv (wrap64 (m + 1)) 2)) = true := beq_iff_eq.mpr q1
    clear q1 HG hge hC hcD hS hF hnil
    go_enter Try.func366, Try.ntmps366
    go_wp2_with (first
     | (go_at_call 385; refine (impl_sourcesOf.pairs_calls g m _ hc2).mono ?_; rintro e w3 ⟨rfl, hb3⟩; have n0_ := Aside0.mk (below_step HB.out hb3); have n1_ := Aside0.mk (impl_sourcesOf.Is.below HI.out hb3); clear HB HI; have HB := n0_; have HI := n1_; clear n0_ n1_; replace hc0 := pw_cell_below hb3 hc0; replace hc1 := pw_cell_below hb3 hc1; replace hc2 := pw_cell_below hb3 hc2)
     | (go_at_call 386; refine (impl_sourcesOf.check_calls k g D b m S n F n' F' w0 _ A1.out HI.out HB.out).mono ?_; rintro e w4 ⟨rfl, hi, hb⟩; have HI2 := Aside0.mk hi; have HB2 := Aside0.mk hb; clear hi hb))
    first | go_end0 | ((try simp only [Exit.inBlock, Exit.then]); refine bodyPost_ret (results_none rfl _ _ _) rfl ?_)
    exact ⟨rfl, HI2.out, HB2.out⟩
   case neg =>
    rw [if_neg q1] at h
    have b1 : (i == wrap64 (Int.tdiv (wrap64 (m + 1)) 2)) = false := beq_eq_false_iff_ne.mpr q1
    obtain ⟨j, ej⟩ : ∃ j, wrap64 (wrap64 ((D.length : Int) - 1) - i) = j := ⟨_, rfl⟩
    have ejw : (IntKind.i64.wrap (wrap64 ((D.length : Int) - 1) - i)) = j := (i64_w _).trans ej
    have ejx : IntKind.i64.wrap (IntKind.i64.wrap ((D.length : Int) - 1) - i) = j := by rw [i64_w, i64_w]; exact ej
    rw [ej] at h
    by_cases q2 : 0 ≤ j
    case neg => rw [if_neg q2] at h; exact absurd h (by simp)
    rw [if_pos q2] at h
    by_cases q3 : j < (D.length : Int)
    case neg => rw [if_neg q3] at h; exact absurd h (by simp)
    rw [if_pos q3] at h
    by_cases q4 : b = 0
    case pos => rw [if_pos q4] at h; exact absurd h (by simp)
    rw [if_neg q4] at h
    have b4 : (b == 0) = false := beq_eq_false_iff_ne.mpr q4
    have b4n : (b != 0) = true := bne_iff_ne.mpr q4
    have b4f : (b = 0) = False := eq_false q4
    have b4d : decide (b = 0) = false := decide_eq_false q4
    have H := Aside0.mk h
    obtain ⟨aD, eD, hD⟩ := Kd.at_int (Kd.C_below hC HB.out) j q2 q3
    subst eD
    have q2d : decide (0 ≤ j) = true := decide_eq_true q2
    have q3d : decide (j < (D.length : Int)) = true := decide_eq_true q3
    have q2t := eq_true q2
    have q3t := eq_true q3
    clear h q1 q2 q3 HG hge hC hcD hS hF hnil
    go_enter Try.func366, Try.ntmps366
    go_wp2_with (first
     | (go_at_call 385; refine (impl_sourcesOf.pairs_calls g m _ hc2).mono ?_; rintro e w3 ⟨rfl, hb3⟩; have n0_ := Aside0.mk (below_step HB.out hb3); have n1_ := Aside0.mk (impl_sourcesOf.Is.below HI.out hb3); clear HB HI; have HB := n0_; have HI := n1_; clear n0_ n1_; replace hc0 := pw_cell_below hb3 hc0; replace hc1 := pw_cell_below hb3 hc1; replace hc2 := pw_cell_below hb3 hc2; replace hD := pw_cell_below hb3 hD))
    repeat (go_quiet (fail); try go_wp2)
    go_loopg [7] k (fun kq v7 w' => ∃ (s : Int) (S1 : List Int) (n1 : Int) (F1 : List Int), v7 = .int .i64 s ∧ Aside0 (impl_sourcesOf.go D b m kq true i c s (S1, n1, F1) = some r) ∧ Aside0 (kq ≤ k) ∧ Aside0 (impl_sourcesOf.Is w0 w' g D b m S1 n1 F1) ∧ Aside0 (Below w0.heap.size w0 w'))
    case atStart => exact ⟨_, S, n, F, rfl, H, ⟨Nat.le_refl _⟩, ⟨impl_sourcesOf.Is.below HI.out (pw_below_drewN (Below.refl _ _) _)⟩, ⟨pw_below_drewN HB.out _⟩⟩
    case round =>
     clear H hc0 hc1 hc2 hD HI HB
     obtain ⟨s, S1, n1, F1, rfl, HA, HK1, HI, HB⟩ := hrel
     cases gk with
     | zero => exact absurd HA.out (by simp [impl_sourcesOf.go])
     | succ k1 =>
      have H1 := HA.out
      clear HA
      simp only [impl_sourcesOf.go] at H1
      obtain ⟨AE, cE, vs, vf, HG, hge, hC, hcD, hS, hF, hnil⟩ := HI.out
      have hc1 := (blk_cell HG 1).trans rfl
      have hc3 := (blk_cell HG 3).trans rfl
      change _ = some (Value.int .i64 b) at hc1
      change _ = some vs at hc3
      by_cases p1 : s ≤ wrap64 (2 * wrap64 (b - 1))
      case pos =>
       rw [if_pos p1] at H1
       have p1d : decide (s ≤ wrap64 (2 * wrap64 (b - 1))) = true := decide_eq_true p1
       by_cases p2 : 0 ≤ i
       case neg => rw [if_neg p2] at H1; exact absurd H1 (by simp)
       rw [if_pos p2] at H1
       by_cases p3 : i ≤ (S1.length : Int)
       case neg => rw [if_neg p3] at H1; exact absurd H1 (by simp)
       rw [if_pos p3] at H1
       by_cases p4 : i.toNat < 17592186044416
       case neg => rw [if_neg p4] at H1; exact absurd H1 (by simp)
       rw [if_pos p4, if_neg q4] at H1
       obtain ⟨⟨S3, n3, F3⟩, hu, H2⟩ := Option.bind_eq_some_iff.1 H1
       have A1 := Aside0.mk hu
       have A2 := Aside0.mk H2
       clear hu H1 H2
       obtain ⟨As, cs, rfl⟩ := Kd.R_slice hS
       have hle := (Kd.R_reads' hS).2.1
       have eOwn : (Value.slice As i.toNat cs).ownBlock = (Value.slice As S1.length cs).ownBlock := by cases As <;> rfl
       have p5 : i ≤ (cs : Int) := by omega
       have p2t := eq_true p2
       have p3t := eq_true p3
       have p5t := eq_true p5
       have p2d : decide (0 ≤ i) = true := decide_eq_true p2
       have p5d : decide (i ≤ (cs : Int)) = true := decide_eq_true p5
       have HS := Aside0.mk (Kd.R_take hS (by omega : i.toNat ≤ S1.length))
       have HL := Aside0.mk (show (S1.take i.toNat).length < 17592186044416 from by rw [List.length_take]; omega)
       have HF := Aside0.mk hF
       have HN := Aside0.mk hnil
       have HC := Aside0.mk hC
       have HCD := Aside0.mk hcD
       have HGE := Aside0.mk hge
       have HGB := Aside0.mk HG
       clear HG hge hC hcD hS hF hnil hle p1 p2 p3 p4 p5
       go_wp2_with (first
        | ((with_reducible refine gate_builtin (b := .append) (xs := #[.tmp 61, .tmp 63]) rfl ?_); at_builtin; (refine Kd.R_append (Kd.int .i64) (w0 := w0) w0.heap.size rfl (.tmp 61) (.tmp 63) 29 3 (.int .i64 0) 8 rfl Try.underlying29 info3 rfl (by decide) (by omega) (.slice As i.toNat cs) (S1.take i.toNat) s [.int .i64 s] (fun _ => True) (fun _ => False) rfl rfl ?aP (fun _ hk => hk.elim) ?aF ?aO ?aB ?aS ?aL ?_); (case aP => exact rfl); (case aB => exact HB.out); (case aF => exact (fun _ _ => trivial)); (case aO => exact HS.out); (case aS => exact HB.out.size); (case aL => have := HL.out; omega); intro v2 w2 ho2 hb2 hg2 hat2; have HO2 := Aside0.mk ho2; have HB2 := Aside0.mk hb2; have HG2 := Aside0.mk hg2; have HAT2 := Aside0.mk hat2; clear ho2 hb2 hg2 hat2; obtain ⟨A2v, c2v, e2v⟩ := Kd.R_slice HO2.out; subst e2v)
        | ((with_reducible refine gate_store (t := 29) (p := 66) rfl ?_); have HGw := blk_grown HGB.out HG2.out (Kd.R_ne HS.out HGB.out (by decide)); have hf3 := blk_frozen HGw 3; have hcw := (blk_cell HGw 3).trans rfl; refine store_event (t := 29) (p := 66) (v := ?vo_66) (w1 := (w2.setCell ⟨g, 3, none⟩ (.slice A2v (S1.take i.toNat ++ [s]).length c2v))) ?hg ?ho ?hn ?hr ?_; (case ho => rfl); (case hg => rfl); (case hn => rfl); (case hr => first | (go_simp; done) | (go_simp; rfl)); intro w4 hw; have HI4 := Aside0.mk (show impl_sourcesOf.Is w0 w4 g D b m (S1.take i.toNat ++ [s]) n1 F1 from by rw [hw]; exact impl_sourcesOf.Is.set3 HGw HGE.out HC.out HCD.out HO2.out (Kd.R_after (Kd.R_mono HF.out (fun k_ hk => ⟨hk.1, by rw [eOwn]; exact hk.2⟩)) HG2.out HAT2.out) HN.out); have HB4 := Aside0.mk (show Below w0.heap.size w0 w4 from by rw [hw]; exact below_set HB2.out HGE.out); have HG4 := blk_set HGw 3 (Value.slice A2v (S1.take i.toNat ++ [s]).length c2v); rw [← hw] at HG4; have hc1 : w4.cell? ⟨g, 1, none⟩ = some (Value.int .i64 b) := (blk_cell HG4 1).trans rfl; clear HGw hf3 hcw hw HG4)
        | (go_at_call 366; refine (IH.out k1 (by have := HK1.out; omega) _ _ 0 _ (S3, n3, F3) g w0 _ A1.out HI4.out HB4.out).mono ?_; rintro e w5 ⟨rfl, hi, hb⟩; simp only at hi; have HI5 := Aside0.mk hi; have HB5 := Aside0.mk hb; obtain ⟨_, _, _, _, hGx, _⟩ := hi; have hc1 : w5.cell? ⟨g, 1, none⟩ = some (Value.int .i64 b) := (blk_cell hGx 1).trans rfl; clear hGx hb))
       go_roundg k1
       case measure => have := HK1.out; omega
       case rel => exact ⟨_, S3, n3, F3, rfl, A2, ⟨by have := HK1.out; omega⟩, HI5, HB5⟩
      case neg =>
       rw [if_neg p1] at H1
       have p1d : decide (s ≤ wrap64 (2 * wrap64 (b - 1))) = false := decide_eq_false p1
       clear p1
       obtain rfl := Option.some.inj H1
       go_wp2
       first | go_end0 | ((try simp only [Exit.inBlock, Exit.then]); refine bodyPost_ret (results_none rfl _ _ _) rfl ?_)
       exact ⟨rfl, HI.out, HB.out⟩
set_option maxHeartbeats 8000000 in
set_option maxRecDepth 100000 in
theorem impl_sourcesOf.calls (k : Nat) (AD : Option Addr) (cD : Nat) (D : List Int) (b m : Int) (n : Int) (F : List Int) (w : World) (hr0 : Kd.C (Kd.int .i64) w AD D.length D) (hc0 : D.length ≤ cD) (h : impl_sourcesOf.f k D b m = some (n, F)) :
  Calls Try.prog 263 #[.slice AD D.length cD, .int .i64 b, .int .i64 m] w fun e w' => ∃ g S, e = .returned (.pointer (some ⟨g, 0, none⟩)) ∧ impl_sourcesOf.Is w w' g D b m S n F ∧ Below w.heap.size w w' := by
 have hu := Try.underlying102
 have HC := Aside0.mk hr0
 have HCD := Aside0.mk hc0
 clear hr0 hc0
 unfold impl_sourcesOf.f at h
 by_cases q : m > 0
 case pos =>
  rw [if_pos q] at h
  have b1 : decide (m > 0) = true := decide_eq_true q
  have b2 : decide (0 < m) = true := decide_eq_true q
  clear q
  obtain ⟨⟨S, n1, F1⟩, h1, h2⟩ := Option.bind_eq_some_iff.1 h
  obtain ⟨rfl, rfl⟩ := Prod.mk.inj (Option.some.inj h2)
  have A1 := Aside0.mk h1
  clear h h1 h2
  go_enter Try.func263, Try.ntmps263
  go_wp2_with (first
   | ((with_reducible refine gate_dst (N := 12) rfl ?_); refine box_event ?hg (N := 12) ?hd (cs := #[.slice AD D.length cD, .int .i64 b, .int .i64 m, .slice none 0 0, .int .i64 0, .slice none 0 0]) (t := 102) ?hr ?_; (case hd => rfl); (case hg => rfl); (case hr => first | (go_simp; done) | (go_simp; rfl)); intro g hg w4 hbox hb; have HB := Aside0.mk hb; have HI := Aside0.mk (show impl_sourcesOf.Is w w4 g D b m [] 0 [] from ⟨AD, cD, .slice none 0 0, .slice none 0 0, hbox, by rw [hg]; exact Nat.le_refl _, HC.out, HCD.out, Kd.R_nil _ _ _ _ _, Kd.R_nil _ _ _ _ _, fun _ => rfl⟩); clear hb hbox hg)
   | (go_at_call 366; refine (impl_sourcesOf.on_calls D b m k 0 0 0 ([], 0, []) (S, n1, F1) g w _ A1.out HI.out HB.out).mono ?_; rintro e w5 ⟨rfl, hi, hb⟩; have HI5 := Aside0.mk hi; have HB5 := Aside0.mk hb; clear hi hb))
  go_ret
  exact ⟨g, S, rfl, HI5.out, HB5.out⟩
 case neg =>
  rw [if_neg q] at h
  have b1 : decide (m > 0) = false := decide_eq_false q
  have b2 : decide (0 < m) = false := decide_eq_false q
  clear q
  obtain ⟨rfl, rfl⟩ := Prod.mk.inj (Option.some.inj h)
  go_enter Try.func263, Try.ntmps263
  go_wp2_with ((with_reducible refine gate_dst (N := 12) rfl ?_); refine box_event ?hg (N := 12) ?hd (cs := #[.slice AD D.length cD, .int .i64 b, .int .i64 m, .slice none 0 0, .int .i64 0, .slice none 0 0]) (t := 102) ?hr ?_; (case hd => rfl); (case hg => rfl); (case hr => first | (go_simp; done) | (go_simp; rfl)); intro g hg w4 hbox hb; have HB := Aside0.mk hb; have HI := Aside0.mk (show impl_sourcesOf.Is w w4 g D b m [] 0 [] from ⟨AD, cD, .slice none 0 0, .slice none 0 0, hbox, by rw [hg]; exact Nat.le_refl _, HC.out, HCD.out, Kd.R_nil _ _ _ _ _, Kd.R_nil _ _ _ _ _, fun _ => rfl⟩); clear hb hbox hg)
  go_ret
  first | exact ⟨g, [], rfl, HI.out, HB.out⟩ | exact ⟨g, rfl, ⟨[], HI.out⟩, HB.out⟩

/-! ### impl_in: function 195 -/
def impl_in.f (a0 : Int) (a1 : Int) (a2 : Int) : Option (Bool) := if a1 ≤ a0 then (some (decide (a0 ≤ a2))) else (some false)
set_option maxHeartbeats 8000000 in
set_option maxRecDepth 100000 in
theorem impl_in.calls (a0 : Int) (a1 : Int) (a2 : Int) (r : Bool) (w : World) (h : impl_in.f a0 a1 a2 = some r) :
  Calls Try.prog 195 #[.int .i64 a0, .int .i64 a1, .int .i64 a2] w fun e w' => e = .returned (.bool r) ∧ Drawn0 w w' := by
 have H : (if a1 ≤ a0 then (some (decide (a0 ≤ a2))) else (some false)) = some r := h
 clear h
 by_cases c4 : a1 ≤ a0
 ·rw [if_pos c4] at H
  have c4b0 : decide (a1 ≤ a0) = true := decide_eq_true c4
  clear c4
  obtain rfl := Option.some.inj H
  go_enter Try.func195, Try.ntmps195
  go_wp2
  go_ret
  exact ⟨by first | rfl | (simp; done) | (simp [*]; done), by repeat (first | exact Drawn0.refl _ | apply Drawn0.step)⟩
 ·rw [if_neg c4] at H
  have c4b0 : decide (a1 ≤ a0) = false := decide_eq_false c4
  clear c4
  obtain rfl := Option.some.inj H
  go_enter Try.func195, Try.ntmps195
  go_wp2
  go_ret
  exact ⟨by first | rfl | (simp; done) | (simp [*]; done), by repeat (first | exact Drawn0.refl _ | apply Drawn0.step)⟩

/-! ### impl_isBase: function 252 -/
def impl_isBase.f (a0 : Int) : Option (Bool) := (impl_in.f a0 2 16).bind fun t259 => (some t259)
set_option maxHeartbeats 8000000 in
set_option maxRecDepth 100000 in
theorem impl_isBase.calls (a0 : Int) (r : Bool) (w : World) (h : impl_isBase.f a0 = some r) :
  Calls Try.prog 252 #[.int .i64 a0] w fun e w' => e = .returned (.bool r) ∧ Drawn0 w w' := by
 have H : ((impl_in.f a0 2 16).bind fun t259 => (some t259)) = some r := h
 clear h
 replace H := Option.bind_eq_some_iff.mp H
 obtain ⟨t259, A20, H⟩ := H
 replace H : (some t259) = some r := H
 have A2 := Aside0.mk A20
 clear A20
 obtain rfl := Option.some.inj H
 go_enter Try.func252, Try.ntmps252
 go_wp2_with (first | ((with_reducible refine gate_callee (f := 195) rfl ?_); refine goesL_ (some 4) rfl rfl Try.func195 (by kernel_rfl) rfl #[.int .i64 a0, .int .i64 2, .int .i64 16] rfl (by (try simp only [List.map_toArray, List.map_cons, List.map_nil]); first | done | rfl | (simp only [List.length_drop, List.length_take]; rfl)) ?_; (with_reducible refine (impl_in.calls a0 2 16 t259 _ A2.out).mono ?_); rintro e w' ⟨rfl, ⟨nd, rfl⟩⟩; refine ⟨_, rfl, ?_⟩))
 go_ret
 exact ⟨by first | rfl | (simp; done) | (simp [*]; done), by repeat (first | exact Drawn0.refl _ | apply Drawn0.step)⟩

/-! ### impl_areIn: function 331 -/
set_option maxHeartbeats 1000000 in
theorem impl_areIn.c1 (x a1 a2 : Int) (g1 g2 : Nat) (r : Bool) (w : World) (h1 : w.cell? ⟨g1, 0, none⟩ = some (.int .i64 a1)) (h2 : w.cell? ⟨g2, 0, none⟩ = some (.int .i64 a2)) (hr : impl_in.f x a1 a2 = some r) :
  Calls Try.prog 379 #[.int .i64 x, .pointer (some ⟨g1, 0, none⟩), .pointer (some ⟨g2, 0, none⟩)] w fun e w' => e = .returned (.bool (!r)) ∧ Drawn0 w w' := by
 have hcon := fun W => impl_in.calls x a1 a2 r W hr
 change ∀ W, Calls Try.prog 195 _ _ _ at hcon
 go_enter Try.func379, Try.ntmps379
 go_wp2_with (go_at_call 195; refine (hcon _).mono ?_; rintro e w' ⟨rfl, ⟨n, rfl⟩⟩)
 go_ret
 exact ⟨rfl, ⟨_, rfl⟩⟩
def impl_areIn.ok (a1 a2 x : Int) : Bool := decide (a1 ≤ x ∧ x ≤ a2)
theorem impl_areIn.in_eq (a b c : Int) : impl_in.f a b c = some (impl_areIn.ok b c a) := by
 unfold impl_in.f impl_areIn.ok
 by_cases h : b ≤ a <;> simp [h]
set_option maxHeartbeats 2000000 in
theorem impl_areIn.idx (l : List Int) (A : Option Addr) (c : Nat) (a1 a2 : Int) (g1 g2 : Nat) (w : World) (hC : Kd.C (Kd.int .i64) w A l.length l) (h1 : w.cell? ⟨g1, 0, none⟩ = some (.int .i64 a1)) (h2 : w.cell? ⟨g2, 0, none⟩ = some (.int .i64 a2)) :
  Calls Try.prog 332 #[.slice A l.length c, .func (.func 379) #[] #[.pointer (some ⟨g1, 0, none⟩), .pointer (some ⟨g2, 0, none⟩)]] w fun e w' => ∃ i : Int, e = .returned (.int .i64 i) ∧ decide (0 ≤ i) = l.any (fun x => !impl_areIn.ok a1 a2 x) ∧ Drawn0 w w' := by
 have hlen : l.length ≤ 9223372036854775807 := hC.2.1
 have eg : ∀ args w, (callFunc 379 args).run Try.prog w = .ok (.enter 379 args) w := Go.Proofs.enters_of Try.func379 (by kernel_rfl) rfl
 go_enter Try.func332, Try.ntmps332
 go_wp2
 go_loopw [8] (fun v wr => ∃ k : Nat, k ≤ l.length ∧ v = .int .i64 k ∧ (∃ n, wr = w.drewN n) ∧ (l.take k).any (fun x => !impl_areIn.ok a1 a2 x) = false) (fun v _ => l.length - (intOf v).toNat)
 case atStart => exact ⟨0, Nat.zero_le _, rfl, ⟨0, rfl⟩, by simp⟩
 case round =>
  obtain ⟨k, hk, rfl, ⟨n, rfl⟩, hall⟩ := hrel
  by_cases hlt : k < l.length
  ·obtain ⟨ad, rfl, hx⟩ := Kd.at_int hC (k : Int) (by omega) (by omega)
   have hx' : (w.drewN n).cell? (ad.add k) = some (.int .i64 (rd l k)) := hx
   have hcon := fun W => impl_areIn.c1 (rd l k) a1 a2 g1 g2 _ (w.drewN W) h1 h2 (impl_areIn.in_eq _ _ _)
   generalize hb : impl_areIn.ok a1 a2 (rd l k) = b at hcon
   have hstep : (l.take (k + 1)).any (fun x => !impl_areIn.ok a1 a2 x) = !b := by
    rw [List.take_succ_eq_append_getElem hlt, List.any_append, hall, ← hb]
    simp [rd, hlt]
   cases b with
   | true =>
    go_wp2_with (go_at_call 379; refine (hcon _).mono ?_; rintro e w' ⟨rfl, ⟨m, rfl⟩⟩)
    refine ⟨⟨k + 1, by omega, by go_num, ⟨_, rfl⟩, by simpa using hstep⟩, by simp [intOf]; omega⟩
   | false =>
    go_wp2_with (go_at_call 379; refine (hcon _).mono ?_; rintro e w' ⟨rfl, ⟨m, rfl⟩⟩)
    go_ret
    refine ⟨_, rfl, ?_, ⟨_, rfl⟩⟩
    have h4 : l.any (fun x => !impl_areIn.ok a1 a2 x) = true := by
     rw [← List.take_append_drop (k + 1) l, List.any_append, hstep]
     rfl
    rw [h4]
    simp
  ·go_wp2
   go_ret
   refine ⟨_, rfl, ?_, ⟨n, rfl⟩⟩
   rw [List.take_of_length_le (by omega)] at hall
   rw [hall]
   rfl
theorem impl_areIn.cont (l : List Int) (A : Option Addr) (c : Nat) (a1 a2 : Int) (g1 g2 : Nat) (w : World) (hC : Kd.C (Kd.int .i64) w A l.length l) (h1 : w.cell? ⟨g1, 0, none⟩ = some (.int .i64 a1)) (h2 : w.cell? ⟨g2, 0, none⟩ = some (.int .i64 a2)) :
  Calls Try.prog 378 #[.slice A l.length c, .func (.func 379) #[] #[.pointer (some ⟨g1, 0, none⟩), .pointer (some ⟨g2, 0, none⟩)]] w fun e w' => e = .returned (.bool (l.any (fun x => !impl_areIn.ok a1 a2 x))) ∧ Drawn0 w w' := by
 have hcon := impl_areIn.idx l A c a1 a2 g1 g2 w hC h1 h2
 change Calls Try.prog 332 _ _ _ at hcon
 generalize l.any (fun x => !impl_areIn.ok a1 a2 x) = b at hcon ⊢
 go_enter Try.func378, Try.ntmps378
 go_wp2_with (go_at_call 332; refine hcon.mono ?_; rintro e w' ⟨i, rfl, hi, ⟨m, rfl⟩⟩)
 all_goals (go_ret; exact ⟨by first | rfl | (rw [← hi]; rfl) | (simp_all), ⟨m, rfl⟩⟩)
def impl_areIn.f (l0 : List Int) (a1 a2 a3 a4 : Int) : Option Bool := some (decide (a3 ≤ l0.length ∧ (l0.length : Int) ≤ a4) && l0.all (fun x => decide (a1 ≤ x ∧ x ≤ a2)))
theorem impl_areIn.any_all (l : List Int) (a1 a2 : Int) : l.all (fun x => decide (a1 ≤ x ∧ x ≤ a2)) = !(l.any (fun x => !impl_areIn.ok a1 a2 x)) := by
 induction l with
 | nil => rfl
 | cons x l ih => simp only [List.all_cons, List.any_cons, Bool.not_or, Bool.not_not, ih]; rfl
set_option maxHeartbeats 2000000 in
theorem impl_areIn.calls (A0 : Option Addr) (c0 : Nat) (l0 : List Int) (a1 a2 a3 a4 : Int) (r : Bool) (w : World) (hr0 : Kd.C (Kd.int .i64) w A0 l0.length l0) (hc0 : l0.length ≤ c0) (h : impl_areIn.f l0 a1 a2 a3 a4 = some r) :
  Calls Try.prog 331 #[.slice A0 l0.length c0, .int .i64 a1, .int .i64 a2, .int .i64 a3, .int .i64 a4] w fun e w' => e = .returned (.bool r) ∧ Below w.heap.size w w' := by
 obtain rfl := Option.some.inj h
 have hmf : ∀ (fn : Fn) (first cap : Array Value) (w : World), (Instr.makeFunc fn first cap).run Try.prog w = .ok (.func fn first cap) w := fun _ _ _ _ => rfl
 have hb2 : Below w.heap.size w ((w.alloc (.cells #[.int .i64 a1] 3)).alloc (.cells #[.int .i64 a2] 3)) := ((Below.refl _ _).alloc (Nat.le_refl _) _).alloc (by simp) _
 have hg1 : ((w.alloc (.cells #[.int .i64 a1] 3)).alloc (.cells #[.int .i64 a2] 3)).cell? ⟨w.heap.size, 0, none⟩ = some (.int .i64 a1) := by
  rw [World.cell?_alloc_past _ _ _ (by simp), World.cell?_alloc_at _ _ _ _ rfl]; rfl
 have hg2 : ((w.alloc (.cells #[.int .i64 a1] 3)).alloc (.cells #[.int .i64 a2] 3)).cell? ⟨w.heap.size + 1, 0, none⟩ = some (.int .i64 a2) := by
  rw [World.cell?_alloc_at _ _ _ _ (by simp)]; rfl
 have hC2 : Kd.C (Kd.int .i64) ((w.alloc (.cells #[.int .i64 a1] 3)).alloc (.cells #[.int .i64 a2] 3)) A0 l0.length l0 := Kd.C_below hr0 hb2
 have hin := fun W => impl_in.calls (l0.length : Int) a3 a4 _ W (impl_areIn.in_eq _ _ _)
 have hcon := fun n => impl_areIn.cont l0 A0 c0 a1 a2 w.heap.size (w.heap.size + 1) (((w.alloc (.cells #[.int .i64 a1] 3)).alloc (.cells #[.int .i64 a2] 3)).drewN n) hC2 hg1 hg2
 have hlast := impl_areIn.any_all l0 a1 a2
 rw [hlast]
 have hfirst : decide (a3 ≤ (l0.length : Int) ∧ (l0.length : Int) ≤ a4) = impl_areIn.ok a3 a4 l0.length := rfl
 rw [hfirst]
 generalize l0.any (fun x => !impl_areIn.ok a1 a2 x) = b at hcon ⊢
 generalize impl_areIn.ok a3 a4 l0.length = b1 at hin ⊢
 change ∀ n, Calls Try.prog 378 _ _ _ at hcon
 change ∀ W, Calls Try.prog 195 _ _ _ at hin
 clear hr0 hc0 hlast hfirst hC2 h
 cases b1 with
 | true =>
  go_enter Try.func331, Try.ntmps331
  go_wp2_with (first | (go_at_call 195; refine (hin _).mono ?_; rintro e w' ⟨rfl, ⟨m, rfl⟩⟩) | (go_at_call 378; refine (hcon _).mono ?_; rintro e w' ⟨rfl, ⟨q, rfl⟩⟩))
  all_goals (go_ret; exact ⟨rfl, pw_below_drewN hb2 _⟩)
 | false =>
  go_enter Try.func331, Try.ntmps331
  go_wp2_with (first | (go_at_call 195; refine (hin _).mono ?_; rintro e w' ⟨rfl, ⟨m, rfl⟩⟩) | (go_at_call 378; refine (hcon _).mono ?_; rintro e w' ⟨rfl, ⟨q, rfl⟩⟩))
  all_goals (go_ret; exact ⟨rfl, pw_below_drewN hb2 _⟩)

/-! ### impl_areDigits: function 253 -/
def impl_areDigits.f (l0 : List Int) (a1 : Int) : Option (Bool) := (impl_areIn.f l0 0 (wrap64 (a1 - 1)) 1 40).bind fun t260 => (if t260 = true then (if 0 < (l0.length : Int) then (if (rd l0 0) > 0 then (some true) else (some ((l0.length : Int) == 1))) else (none)) else (some false))
set_option maxHeartbeats 8000000 in
set_option maxRecDepth 100000 in
theorem impl_areDigits.calls (A0 : Option Addr) (c0 : Nat) (l0 : List Int) (a1 : Int) (r : Bool) (w : World) (hr0 : Kd.C (Kd.int .i64) w A0 l0.length l0) (hc0 : l0.length ≤ c0) (h : impl_areDigits.f l0 a1 = some r) :
  Calls Try.prog 253 #[.slice A0 l0.length c0, .int .i64 a1] w fun e w' => e = .returned (.bool r) ∧ Below w.heap.size w w' := by
 have HR0 := Aside0.mk hr0
 have HC0 := Aside0.mk hc0
 clear hr0 hc0
 have HB := Aside0.mk (Below.refl w.heap.size w)
 have H : ((impl_areIn.f l0 0 (wrap64 (a1 - 1)) 1 40).bind fun t260 => (if t260 = true then (if 0 < (l0.length : Int) then (if (rd l0 0) > 0 then (some true) else (some ((l0.length : Int) == 1))) else (none)) else (some false))) = some r := h
 clear h
 replace H := Option.bind_eq_some_iff.mp H
 obtain ⟨t260, A30, H⟩ := H
 replace H : (if t260 = true then (if 0 < (l0.length : Int) then (if (rd l0 0) > 0 then (some true) else (some ((l0.length : Int) == 1))) else (none)) else (some false)) = some r := H
 have A3 := Aside0.mk A30
 clear A30
 by_cases c4 : t260 = true
 ·subst c4
  have H1 : (if 0 < (l0.length : Int) then (if (rd l0 0) > 0 then (some true) else (some ((l0.length : Int) == 1))) else (none)) = some r := by rw [if_pos rfl] at H; exact H
  clear H
  have H := H1
  clear H1
  by_cases c5 : 0 < (l0.length : Int)
  ·rw [if_pos c5] at H
   have c5b0 : decide (0 < (l0.length : Int)) = true := decide_eq_true c5
   have c5b1 : decide (0 < l0.length) = true := decide_eq_true (by omega)
   clear c5
   by_cases c6 : (rd l0 0) > 0
   ·rw [if_pos c6] at H
    have c6b0 : decide (0 < (rd l0 0)) = true := decide_eq_true c6
    clear c6
    obtain rfl := Option.some.inj H
    go_enter Try.func253, Try.ntmps253
    go_wp2_with (first | ((with_reducible refine gate_callee (f := 331) rfl ?_); refine goesL_ (some 8) rfl rfl Try.func331 (by kernel_rfl) rfl #[.slice A0 l0.length c0, .int .i64 0, .int .i64 (wrap64 (a1 - 1)), .int .i64 1, .int .i64 40] rfl (by (try simp only [List.map_toArray, List.map_cons, List.map_nil]); first | done | rfl | (simp only [List.length_drop, List.length_take]; rfl)) ?_; (with_reducible refine (impl_areIn.calls _ _ l0 0 (wrap64 (a1 - 1)) 1 40 true _ ?side1 ?side2 A3.out).mono ?_); (case side1 => repeat (first | exact HR0.out | (with_reducible refine Kd.C_alloc ?_ _) | (with_reducible refine Kd.C_drewN ?_ _) | (with_reducible refine Kd.C_drew ?_))); (case side2 => exact HC0.out); rintro e w7 ⟨rfl, hb⟩; refine ⟨_, rfl, ?_⟩; have n0_ := Aside0.mk (below_step (by repeat (first | (with_reducible first | exact HB.out | apply below_alloc | apply pw_below_drewN | apply below_drew1) | exact HB.out)) hb); clear HB; have HB := n0_; clear n0_; (try clear hb); (try clear hb2); (try clear hk); (try clear hi); have p261 : 0 ≤ (0 : Int) := (by omega); have q261 : 0 < (l0.length : Int) := of_decide_eq_true (by first | (with_reducible assumption) | assumption); obtain ⟨ad261, e261, hx261_0⟩ := Kd.at_int HR0.out 0 p261 q261; cases e261; have qi261 : (0 < l0.length) = True := eq_true (by omega); (try rw [show ((0 : Int)).toNat = 0 from rfl] at hx261_0); (try rw [Addr.add_zero'] at hx261_0); replace hx261_0 := (HB.out.cell (World.block_lt_of_cell? w _ hx261_0)).trans hx261_0; replace p261 := eq_true p261; replace q261 := eq_true q261))
    go_ret
    exact ⟨by first | rfl | (simp [errW_none, errW_some] <;> rfl) | (simp [*, errW_none, errW_some] <;> rfl), by repeat (first | (with_reducible first | exact HB.out | apply below_alloc | apply pw_below_drewN | apply below_drew1) | exact HB.out)⟩
   ·rw [if_neg c6] at H
    have c6b0 : decide (0 < (rd l0 0)) = false := decide_eq_false c6
    clear c6
    obtain rfl := Option.some.inj H
    go_enter Try.func253, Try.ntmps253
    go_wp2_with (first | ((with_reducible refine gate_callee (f := 331) rfl ?_); refine goesL_ (some 8) rfl rfl Try.func331 (by kernel_rfl) rfl #[.slice A0 l0.length c0, .int .i64 0, .int .i64 (wrap64 (a1 - 1)), .int .i64 1, .int .i64 40] rfl (by (try simp only [List.map_toArray, List.map_cons, List.map_nil]); first | done | rfl | (simp only [List.length_drop, List.length_take]; rfl)) ?_; (with_reducible refine (impl_areIn.calls _ _ l0 0 (wrap64 (a1 - 1)) 1 40 true _ ?side1 ?side2 A3.out).mono ?_); (case side1 => repeat (first | exact HR0.out | (with_reducible refine Kd.C_alloc ?_ _) | (with_reducible refine Kd.C_drewN ?_ _) | (with_reducible refine Kd.C_drew ?_))); (case side2 => exact HC0.out); rintro e w8 ⟨rfl, hb⟩; refine ⟨_, rfl, ?_⟩; have n0_ := Aside0.mk (below_step (by repeat (first | (with_reducible first | exact HB.out | apply below_alloc | apply pw_below_drewN | apply below_drew1) | exact HB.out)) hb); clear HB; have HB := n0_; clear n0_; (try clear hb); (try clear hb2); (try clear hk); (try clear hi); have p261 : 0 ≤ (0 : Int) := (by omega); have q261 : 0 < (l0.length : Int) := of_decide_eq_true (by first | (with_reducible assumption) | assumption); obtain ⟨ad261, e261, hx261_0⟩ := Kd.at_int HR0.out 0 p261 q261; cases e261; have qi261 : (0 < l0.length) = True := eq_true (by omega); (try rw [show ((0 : Int)).toNat = 0 from rfl] at hx261_0); (try rw [Addr.add_zero'] at hx261_0); replace hx261_0 := (HB.out.cell (World.block_lt_of_cell? w _ hx261_0)).trans hx261_0; replace p261 := eq_true p261; replace q261 := eq_true q261))
    go_ret
    exact ⟨by first | rfl | (simp [errW_none, errW_some] <;> rfl) | (simp [*, errW_none, errW_some] <;> rfl), by repeat (first | (with_reducible first | exact HB.out | apply below_alloc | apply pw_below_drewN | apply below_drew1) | exact HB.out)⟩
  ·rw [if_neg c5] at H
   exact absurd H (by simp)
 ·replace c4 := Bool.eq_false_iff.mpr c4
  subst c4
  have H1 : (some false) = some r := by rw [if_neg (show ¬ (false = true) by decide)] at H; exact H
  clear H
  have H := H1
  clear H1
  obtain rfl := Option.some.inj H
  go_enter Try.func253, Try.ntmps253
  go_wp2_with (first | ((with_reducible refine gate_callee (f := 331) rfl ?_); refine goesL_ (some 8) rfl rfl Try.func331 (by kernel_rfl) rfl #[.slice A0 l0.length c0, .int .i64 0, .int .i64 (wrap64 (a1 - 1)), .int .i64 1, .int .i64 40] rfl (by (try simp only [List.map_toArray, List.map_cons, List.map_nil]); first | done | rfl | (simp only [List.length_drop, List.length_take]; rfl)) ?_; (with_reducible refine (impl_areIn.calls _ _ l0 0 (wrap64 (a1 - 1)) 1 40 false _ ?side1 ?side2 A3.out).mono ?_); (case side1 => repeat (first | exact HR0.out | (with_reducible refine Kd.C_alloc ?_ _) | (with_reducible refine Kd.C_drewN ?_ _) | (with_reducible refine Kd.C_drew ?_))); (case side2 => exact HC0.out); rintro e w9 ⟨rfl, hb⟩; refine ⟨_, rfl, ?_⟩; have n0_ := Aside0.mk (below_step (by repeat (first | (with_reducible first | exact HB.out | apply below_alloc | apply pw_below_drewN | apply below_drew1) | exact HB.out)) hb); clear HB; have HB := n0_; clear n0_; (try clear hb); (try clear hb2); (try clear hk); (try clear hi)))
  go_ret
  exact ⟨by first | rfl | (simp [errW_none, errW_some] <;> rfl) | (simp [*, errW_none, errW_some] <;> rfl), by repeat (first | (with_reducible first | exact HB.out | apply below_alloc | apply pw_below_drewN | apply below_drew1) | exact HB.out)⟩

/-! ### impl_isLong: function 225 -/
def impl_isLong.f (l0 : List Int) (a1 : Int) : Option (Bool) := (impl_isBase.f a1).bind fun t262 => (if t262 = true then ((impl_areDigits.f l0 a1).bind fun t263 => (if t263 = true then (some (decide ((l0.length : Int) ≤ 40))) else (some false))) else (some false))
set_option maxHeartbeats 8000000 in
set_option maxRecDepth 100000 in
theorem impl_isLong.calls (A0 : Option Addr) (c0 : Nat) (l0 : List Int) (a1 : Int) (r : Bool) (w : World) (hr0 : Kd.C (Kd.int .i64) w A0 l0.length l0) (hc0 : l0.length ≤ c0) (h : impl_isLong.f l0 a1 = some r) :
  Calls Try.prog 225 #[.slice A0 l0.length c0, .int .i64 a1] w fun e w' => e = .returned (.bool r) ∧ Below w.heap.size w w' := by
 have HR0 := Aside0.mk hr0
 have HC0 := Aside0.mk hc0
 clear hr0 hc0
 have HB := Aside0.mk (Below.refl w.heap.size w)
 have H : ((impl_isBase.f a1).bind fun t262 => (if t262 = true then ((impl_areDigits.f l0 a1).bind fun t263 => (if t263 = true then (some (decide ((l0.length : Int) ≤ 40))) else (some false))) else (some false))) = some r := h
 clear h
 replace H := Option.bind_eq_some_iff.mp H
 obtain ⟨t262, A30, H⟩ := H
 replace H : (if t262 = true then ((impl_areDigits.f l0 a1).bind fun t263 => (if t263 = true then (some (decide ((l0.length : Int) ≤ 40))) else (some false))) else (some false)) = some r := H
 have A3 := Aside0.mk A30
 clear A30
 by_cases c4 : t262 = true
 ·subst c4
  have H1 : ((impl_areDigits.f l0 a1).bind fun t263 => (if t263 = true then (some (decide ((l0.length : Int) ≤ 40))) else (some false))) = some r := by rw [if_pos rfl] at H; exact H
  clear H
  have H := H1
  clear H1
  replace H := Option.bind_eq_some_iff.mp H
  obtain ⟨t263, A50, H⟩ := H
  replace H : (if t263 = true then (some (decide ((l0.length : Int) ≤ 40))) else (some false)) = some r := H
  have A5 := Aside0.mk A50
  clear A50
  by_cases c6 : t263 = true
  ·subst c6
   have H1 : (some (decide ((l0.length : Int) ≤ 40))) = some r := by rw [if_pos rfl] at H; exact H
   clear H
   have H := H1
   clear H1
   obtain rfl := Option.some.inj H
   go_enter Try.func225, Try.ntmps225
   go_wp2_with (first | ((with_reducible refine gate_callee (f := 252) rfl ?_); refine goesL_ (some 6) rfl rfl Try.func252 (by kernel_rfl) rfl #[.int .i64 a1] rfl (by (try simp only [List.map_toArray, List.map_cons, List.map_nil]); first | done | rfl | (simp only [List.length_drop, List.length_take]; rfl)) ?_; (with_reducible refine (impl_isBase.calls a1 true _ A3.out).mono ?_); rintro e w' ⟨rfl, ⟨nd, rfl⟩⟩; refine ⟨_, rfl, ?_⟩) | (go_at_call 253; (with_reducible refine (impl_areDigits.calls _ _ l0 a1 true _ ?side1 ?side2 A5.out).mono ?_); (case side1 => repeat (first | exact HR0.out | (with_reducible refine Kd.C_alloc ?_ _) | (with_reducible refine Kd.C_drewN ?_ _) | (with_reducible refine Kd.C_drew ?_))); (case side2 => exact HC0.out); rintro e w7 ⟨rfl, hb⟩; have n0_ := Aside0.mk (below_step (by repeat (first | (with_reducible first | exact HB.out | apply below_alloc | apply pw_below_drewN | apply below_drew1) | exact HB.out)) hb); clear HB; have HB := n0_; clear n0_; (try clear hb); (try clear hb2); (try clear hk); (try clear hi)))
   go_ret
   exact ⟨by first | rfl | (simp [errW_none, errW_some] <;> rfl) | (simp [*, errW_none, errW_some] <;> rfl), by repeat (first | (with_reducible first | exact HB.out | apply below_alloc | apply pw_below_drewN | apply below_drew1) | exact HB.out)⟩
  ·replace c6 := Bool.eq_false_iff.mpr c6
   subst c6
   have H1 : (some false) = some r := by rw [if_neg (show ¬ (false = true) by decide)] at H; exact H
   clear H
   have H := H1
   clear H1
   obtain rfl := Option.some.inj H
   go_enter Try.func225, Try.ntmps225
   go_wp2_with (first | ((with_reducible refine gate_callee (f := 252) rfl ?_); refine goesL_ (some 6) rfl rfl Try.func252 (by kernel_rfl) rfl #[.int .i64 a1] rfl (by (try simp only [List.map_toArray, List.map_cons, List.map_nil]); first | done | rfl | (simp only [List.length_drop, List.length_take]; rfl)) ?_; (with_reducible refine (impl_isBase.calls a1 true _ A3.out).mono ?_); rintro e w' ⟨rfl, ⟨nd, rfl⟩⟩; refine ⟨_, rfl, ?_⟩) | (go_at_call 253; (with_reducible refine (impl_areDigits.calls _ _ l0 a1 false _ ?side1 ?side2 A5.out).mono ?_); (case side1 => repeat (first | exact HR0.out | (with_reducible refine Kd.C_alloc ?_ _) | (with_reducible refine Kd.C_drewN ?_ _) | (with_reducible refine Kd.C_drew ?_))); (case side2 => exact HC0.out); rintro e w8 ⟨rfl, hb⟩; have n0_ := Aside0.mk (below_step (by repeat (first | (with_reducible first | exact HB.out | apply below_alloc | apply pw_below_drewN | apply below_drew1) | exact HB.out)) hb); clear HB; have HB := n0_; clear n0_; (try clear hb); (try clear hb2); (try clear hk); (try clear hi)))
   go_ret
   exact ⟨by first | rfl | (simp [errW_none, errW_some] <;> rfl) | (simp [*, errW_none, errW_some] <;> rfl), by repeat (first | (with_reducible first | exact HB.out | apply below_alloc | apply pw_below_drewN | apply below_drew1) | exact HB.out)⟩
 ·replace c4 := Bool.eq_false_iff.mpr c4
  subst c4
  have H1 : (some false) = some r := by rw [if_neg (show ¬ (false = true) by decide)] at H; exact H
  clear H
  have H := H1
  clear H1
  obtain rfl := Option.some.inj H
  go_enter Try.func225, Try.ntmps225
  go_wp2_with (first | ((with_reducible refine gate_callee (f := 252) rfl ?_); refine goesL_ (some 6) rfl rfl Try.func252 (by kernel_rfl) rfl #[.int .i64 a1] rfl (by (try simp only [List.map_toArray, List.map_cons, List.map_nil]); first | done | rfl | (simp only [List.length_drop, List.length_take]; rfl)) ?_; (with_reducible refine (impl_isBase.calls a1 false _ A3.out).mono ?_); rintro e w' ⟨rfl, ⟨nd, rfl⟩⟩; refine ⟨_, rfl, ?_⟩))
  go_ret
  exact ⟨by first | rfl | (simp [errW_none, errW_some] <;> rfl) | (simp [*, errW_none, errW_some] <;> rfl), by repeat (first | (with_reducible first | exact HB.out | apply below_alloc | apply pw_below_drewN | apply below_drew1) | exact HB.out)⟩

end Go.Proofs.Ytiheocddlopfcaa.PFnSourcesOfSums
