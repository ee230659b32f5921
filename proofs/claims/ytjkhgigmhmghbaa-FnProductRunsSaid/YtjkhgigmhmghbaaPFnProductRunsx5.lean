-- out of the kit's print, turned by wip/own_print.py
import Derived.Test.YtjkhgigmhmghbaaPFnProductRunsx0
import Derived.Test.YtjkhgigmhmghbaaPFnProductRunsx1
import Derived.Test.YtjkhgigmhmghbaaPFnProductRunsx4
namespace Go.Proofs.Ytjkhgigmhmghbaa.PFnProductRuns
open Go.RowKit Go.Proofs.YtjkhgigmhmghbaaW.PrintWords Go.Proofs.YtjkhgigmhmghbaaW.PrintLast Go.Proofs.YtjkhgigmhmghbaaW.PrintMore
attribute [local go_sem] max2_int min2_int max_two min_two max_three min_three max_four min_four   -- for this text's walks alone
set_option linter.unusedVariables false
set_option linter.unusedSimpArgs false

/-! ### impl_LeastWithProduct: function 16 -/
def impl_fewest.lk : List (Int × Int) → Int → Option Int
 | [], _ => none
 | p :: M, y => if p.1 = y then some p.2 else impl_fewest.lk M y
def impl_fewest.rng (x : Int) : Prop := -9223372036854775808 ≤ x ∧ x ≤ 9223372036854775807
instance impl_fewest.dec (x : Int) : Decidable (impl_fewest.rng x) := inferInstanceAs (Decidable (_ ∧ _))
def impl_fewest.g (b : Int) : Nat → Bool → Int → Int → Int → List (Int × Int) → Option (Int × List (Int × Int))
 | 0, _, _, _, _, _ => none
 | k + 1, false, n, _, _, M =>
  if n = 1 then some (0, M) else
   if impl_fewest.rng n then
    match impl_fewest.lk M n with
    | some v => some (v, M)
    | none => impl_fewest.g b k true n 2 (-1) M
   else none
 | k + 1, true, n, d, out, M =>
  if d < b then
   if d = 0 then none else
    if Int.tmod n d = 0 then
     (impl_fewest.g b k false (wrap64 (Int.tdiv n d)) 0 0 M).bind fun p => impl_fewest.g b k true n (wrap64 (d + 1)) (if 0 ≤ p.1 ∧ (out < 0 ∨ wrap64 (p.1 + 1) < out) then wrap64 (p.1 + 1) else out) p.2
    else impl_fewest.g b k true n (wrap64 (d + 1)) out M
  else if impl_fewest.rng out then (if M.length < 1000000000000 then some (out, (n, out) :: M) else none) else none
theorem impl_fewest.g_mono (b : Int) : ∀ k o n d out M, LeO (impl_fewest.g b k o n d out M) (impl_fewest.g b (k + 1) o n d out M)
 | 0, _, _, _, _, _ => fun r h => by simp [impl_fewest.g] at h
 | k + 1, false, n, d, out, M => by
  rw [impl_fewest.g, impl_fewest.g]
  refine LeO.ite (LeO.refl _) (LeO.ite ?_ (LeO.none _))
  cases impl_fewest.lk M n with
  | some v => exact LeO.refl _
  | none => exact impl_fewest.g_mono b k _ _ _ _ _
 | k + 1, true, n, d, out, M => by
  rw [impl_fewest.g, impl_fewest.g]
  exact LeO.ite (LeO.ite (LeO.none _) (LeO.ite (LeO.bind (impl_fewest.g_mono b k _ _ _ _ _) (fun _ => impl_fewest.g_mono b k _ _ _ _ _)) (impl_fewest.g_mono b k _ _ _ _ _))) (LeO.refl _)
theorem impl_fewest.ml : Go.Maps.Keyed Try.prog 3 := Go.Maps.int_keyed Try.underlying3
theorem impl_fewest.utm : Try.prog.underlying 49 = some (.map 3 3) := by kernel_rfl
theorem impl_fewest.mz (w : World) : (zeroValue 3).run Try.prog w = .ok (.int .i64 0) w := by kernel_rfl
def impl_fewest.MD (M : List (Int × Int)) (d : DataW Unit) : Prop := Go.Maps.IsMap d ∧ (∀ y, Go.Maps.has d (.int .i64 y) = (impl_fewest.lk M y).isSome) ∧ ∀ y v, impl_fewest.lk M y = some v → d.atKey (.int .i64 y) (.lit (.int .i64 0)) = .lit (.int .i64 v)
theorem impl_fewest.MD_nil : impl_fewest.MD [] (.map []) := ⟨Go.Maps.isMap_empty, fun _ => rfl, fun _ _ h => by simp [impl_fewest.lk] at h⟩
theorem impl_fewest.MD_put {M : List (Int × Int)} {d : DataW Unit} (h : impl_fewest.MD M d) (x v : Int) : impl_fewest.MD ((x, v) :: M) (d.put (.int .i64 x) (.lit (.int .i64 v))) := by
 have hk : Go.WideAt.IsKeyLit (Lit.int .i64 x) := by trivial
 refine ⟨h.1.put _ _, ?_, ?_⟩
 ·intro y
  by_cases e : x = y
  ·subst e
   rw [Go.Maps.has_put_same h.1 hk]
   simp [impl_fewest.lk]
  ·rw [Go.Maps.has_put_other (by simpa using fun e2 => e e2.symm), h.2.1]
   simp [impl_fewest.lk, e]
 ·intro y u hy
  by_cases e : x = y
  ·subst e
   rw [Go.Maps.atKey_put_same h.1 hk]
   simp only [impl_fewest.lk, if_true, Option.some.injEq] at hy
   rw [hy]
  ·rw [Go.Maps.atKey_put_other (by simpa using fun e2 => e e2.symm)]
   simp only [impl_fewest.lk, if_neg e] at hy
   exact h.2.2 y u hy
theorem impl_fewest.wf {x : Int} (h : impl_fewest.rng x) : (Lit.int .i64 x).wf = true := by
 unfold impl_fewest.rng at h
 simp [Lit.wf, IntKind.min, IntKind.max, IntKind.signed, IntKind.bits]; omega
theorem impl_fewest.gr {w w1 w2 : World} {row : Option Nat} (h : w.grownBy w1 row) (k : w1.grownBy w2 row) : w.grownBy w2 row :=
 ⟨k.os.trans h.os, k.tape.trans h.tape, k.output.trans h.output, Nat.le_trans h.size k.size, fun i hi hr => (k.block i (Nat.lt_of_lt_of_le hi h.size) hr).trans (h.block i hi hr)⟩
theorem impl_fewest.gr0 (w : World) (row : Option Nat) : w.grownBy w row := ⟨rfl, rfl, rfl, Nat.le_refl _, fun _ _ _ => rfl⟩
def impl_fewest.Is (w : World) (bm : Nat) (M : List (Int × Int)) : Prop := ∃ d : DataW Unit, w.ownsMap Try.prog 3 (plainElem (H := Unit) Try.prog 3) bm M.length d ∧ impl_fewest.MD M d
set_option maxHeartbeats 8000000 in
set_option maxRecDepth 100000 in
theorem impl_fewest.calls_ (b : Int) : ∀ (k : Nat) (n : Int) (M M' : List (Int × Int)) (r : Int) (bm : Nat) (w : World), impl_fewest.g b k false n 0 0 M = some (r, M') → impl_fewest.Is w bm M →
  Calls Try.prog 40 #[.int .i64 n, .int .i64 b, .map (some bm)] w fun e w' => e = .returned (.int .i64 r) ∧ impl_fewest.Is w' bm M' ∧ w.grownBy w' (some bm) := by
 intro k
 induction k using Nat.strongRecOn with
 | _ k ih =>
 intro n M M' r bm w h hI
 cases k with
 | zero => exact absurd h (by simp [impl_fewest.g])
 | succ k =>
 have IH := Aside0.mk ih
 clear ih
 simp only [impl_fewest.g] at h
 by_cases q1 : n = 1
 ·rw [if_pos q1] at h
  obtain ⟨rfl, rfl⟩ := Prod.mk.inj (Option.some.inj h)
  have b1 : (n == 1) = true := beq_iff_eq.mpr q1
  clear h q1
  go_enter Try.func40, Try.ntmps40
  go_wp2
  go_ret
  exact ⟨rfl, hI, impl_fewest.gr0 _ _⟩
 ·rw [if_neg q1] at h
  have b1 : (n == 1) = false := beq_eq_false_iff_ne.mpr q1
  clear q1
  by_cases q2 : impl_fewest.rng n
  case neg => rw [if_neg q2] at h; exact absurd h (by simp)
  case pos =>
  rw [if_pos q2] at h
  have hkey : keyOf Try.prog 3 (.int .i64 n) = some (.int .i64 n) := Go.Maps.keyOf_int_mk Try.underlying3 (impl_fewest.wf q2)
  obtain ⟨d0, hmap, hmd⟩ := hI
  have hhas := hmd.2.1 n
  cases hlk : impl_fewest.lk M n with
  | some v =>
   rw [hlk] at h hhas
   obtain ⟨rfl, rfl⟩ := Prod.mk.inj (Option.some.inj h)
   have hhas : Go.Maps.has d0 (.int .i64 n) = true := hhas
   have hat0 := hmd.2.2 n v hlk
   clear h hlk
   go_enter Try.func40, Try.ntmps40
   go_wp2_with (at_lookup; refine wpList_lookup_own_ok_int _ rfl _ _ 49 rfl 3 3 .i64 impl_fewest.ml impl_fewest.utm Try.underlying3 (impl_fewest.mz _) bm M.length d0 rfl hmap _ _ rfl hkey ?_; rw [hhas]; intro cc hat hwc; rw [hat0] at hat; have hcc : v = cc := (by simpa using hat); clear hat hwc; subst hcc)
   go_ret
   exact ⟨rfl, ⟨d0, hmap, hmd⟩, impl_fewest.gr0 _ _⟩
  | none =>
   rw [hlk] at h hhas
   have hhas : Go.Maps.has d0 (.int .i64 n) = false := hhas
   have H := Aside0.mk h
   have HI := Aside0.mk (show impl_fewest.Is w bm M from ⟨d0, hmap, hmd⟩)
   have HG := Aside0.mk (impl_fewest.gr0 w (some bm))
   clear h hlk
   go_enter Try.func40, Try.ntmps40
   go_wp2_with (at_lookup; refine wpList_lookup_own_ok_int _ rfl _ _ 49 rfl 3 3 .i64 impl_fewest.ml impl_fewest.utm Try.underlying3 (impl_fewest.mz _) bm M.length d0 rfl hmap _ _ rfl hkey ?_; rw [hhas]; intro cc hat hwc; clear hat hwc)
   clear hmap hmd hhas
   go_loopg [9, 10] k (fun kq v9 v10 w' => ∃ (d out : Int) (M1 : List (Int × Int)), v9 = .int .i64 out ∧ v10 = .int .i64 d ∧ Aside0 (impl_fewest.g b kq true n d out M1 = some (r, M')) ∧ Aside0 (kq ≤ k) ∧ Aside0 (impl_fewest.Is w' bm M1) ∧ Aside0 (w.grownBy w' (some bm)))
   case atStart => exact ⟨2, -1, M, rfl, rfl, H, ⟨Nat.le_refl _⟩, HI, HG⟩
   case round =>
    clear H HI HG b1
    obtain ⟨d, out, M1, rfl, rfl, HA, HK1, HI, HG⟩ := hrel
    cases gk with
    | zero => exact absurd HA.out (by simp [impl_fewest.g])
    | succ k1 =>
     have H1 := HA.out
     clear HA
     simp only [impl_fewest.g] at H1
     by_cases p1 : d < b
     ·rw [if_pos p1] at H1
      have p1d : decide (d < b) = true := decide_eq_true p1
      clear p1
      by_cases p2 : d = 0
      ·rw [if_pos p2] at H1; exact absurd H1 (by simp)
      ·rw [if_neg p2] at H1
       by_cases p3 : Int.tmod n d = 0
       ·rw [if_pos p3] at H1
        have p3b : (Int.tmod n d == 0) = true := beq_iff_eq.mpr p3
        have p3c : (Int.tmod n d != 0) = false := by rw [bne, p3b]; rfl
        obtain ⟨⟨kk, M2⟩, hu, H2⟩ := Option.bind_eq_some_iff.1 H1
        have hc := IH.out k1 (by have := HK1.out; omega) _ _ _ _ bm wr hu HI.out
        change Calls Try.prog 40 _ _ _ at hc
        have H' := Aside0.mk H2
        clear hu H1 H2 p3
        go_wp2_with (go_at_call 40; refine hc.mono ?_; rintro e w2 ⟨rfl, hi2, hg2⟩; have HI2 := Aside0.mk hi2; have HG2 := Aside0.mk (impl_fewest.gr HG.out hg2); clear hi2 hg2 HI HG)
        all_goals (
         go_roundg k1
         case measure => have := HK1.out; omega
         case rel => exact ⟨_, _, M2, rfl, rfl, ⟨by have h := H'.out; split at h <;> first | exact h | (exfalso; omega)⟩, ⟨by have := HK1.out; omega⟩, HI2, HG2⟩)
       ·rw [if_neg p3] at H1
        have p3b : (Int.tmod n d == 0) = false := beq_eq_false_iff_ne.mpr p3
        have p3c : (Int.tmod n d != 0) = true := by rw [bne, p3b]; rfl
        have H' := Aside0.mk H1
        clear H1 p3
        go_wp2
        go_roundg k1
        case measure => have := HK1.out; omega
        case rel => exact ⟨_, _, M1, rfl, rfl, H', ⟨by have := HK1.out; omega⟩, HI, HG⟩
     ·rw [if_neg p1] at H1
      have p1d : decide (d < b) = false := decide_eq_false p1
      clear p1
      by_cases p4 : impl_fewest.rng out
      ·rw [if_pos p4] at H1
       by_cases p5 : M1.length < 1000000000000
       ·rw [if_pos p5] at H1
        obtain ⟨rfl, rfl⟩ := Prod.mk.inj (Option.some.inj H1)
        obtain ⟨d1, hmap, hmd⟩ := HI.out
        have hput := impl_fewest.MD_put hmd n out
        have hlw := impl_fewest.wf p4
        clear H1 HI
        go_wp2_with (at_mapUpdate; refine wpList_mapUpdate_own _ rfl _ _ _ 49 rfl 3 3 impl_fewest.ml impl_fewest.utm (plainElem (H := Unit) Try.prog 3) bm M1.length _ rfl hmap (by unfold maxLen; omega) _ _ _ rfl rfl hkey _ [] (plainElem_int Try.underlying3 hlw) ?_; intro w1 hown1 hgrow1)
        go_ret
        exact ⟨rfl, ⟨_, hown1, hput⟩, impl_fewest.gr HG.out hgrow1⟩
       ·rw [if_neg p5] at H1; exact absurd H1 (by simp)
      ·rw [if_neg p4] at H1; exact absurd H1 (by simp)
def impl_LeastWithProduct.l2 (b : Int) : Nat → Int → Int → Int → List (Int × Int) → Option (Int × List (Int × Int))
 | 0, _, _, _, _ => none
 | k + 1, n, d, left, M =>
  if d = 0 then none else
   if Int.tmod n d = 0 then
    (impl_fewest.g b k false (wrap64 (Int.tdiv n d)) 0 0 M).bind fun p => if p.1 = wrap64 (left - 1) then some (d, p.2) else impl_LeastWithProduct.l2 b k n (wrap64 (d + 1)) left p.2
   else impl_LeastWithProduct.l2 b k n (wrap64 (d + 1)) left M
def impl_LeastWithProduct.l1 (b : Int) : Nat → Int → List Int → Int → List (Int × Int) → Option (Int × Bool)
 | 0, _, _, _, _ => none
 | k + 1, n, ds, left, M =>
  if left > 0 then
   (impl_LeastWithProduct.l2 b k n 2 left M).bind fun p => if ds.length < 17592186044416 then (if p.1 = 0 then none else impl_LeastWithProduct.l1 b k (wrap64 (Int.tdiv n p.1)) (ds ++ [p.1]) (wrap64 (left - 1)) p.2) else none
  else (impl_value.f k ds b).bind fun v => impl_told.f v
def impl_LeastWithProduct.f (k : Nat) (a0 a1 : Int) : Option (Int × Bool) :=
 (impl_in.f a0 1 1000000000000).bind fun t => if t = true then (impl_isBase.f a1).bind fun u => if u = true then (if a0 = 1 then some (1, true) else (impl_isSmooth.f k a0 a1).bind fun s => if s = true then (impl_fewest.g a1 k false a0 0 0 []).bind fun p => impl_LeastWithProduct.l1 a1 k a0 [] p.1 p.2 else some (0, false)) else some (0, false) else some (0, false)
theorem impl_LeastWithProduct.l2_mono (b : Int) : ∀ k n d left M, LeO (impl_LeastWithProduct.l2 b k n d left M) (impl_LeastWithProduct.l2 b (k + 1) n d left M)
 | 0, _, _, _, _ => fun r h => by simp [impl_LeastWithProduct.l2] at h
 | k + 1, n, d, left, M => by
  rw [impl_LeastWithProduct.l2, impl_LeastWithProduct.l2]
  exact LeO.ite (LeO.none _) (LeO.ite (LeO.bind (impl_fewest.g_mono b k _ _ _ _ _) (fun _ => LeO.ite (LeO.refl _) (impl_LeastWithProduct.l2_mono b k _ _ _ _))) (impl_LeastWithProduct.l2_mono b k _ _ _ _))
theorem impl_LeastWithProduct.l1_mono (b : Int) : ∀ k n ds left M, LeO (impl_LeastWithProduct.l1 b k n ds left M) (impl_LeastWithProduct.l1 b (k + 1) n ds left M)
 | 0, _, _, _, _ => fun r h => by simp [impl_LeastWithProduct.l1] at h
 | k + 1, n, ds, left, M => by
  rw [impl_LeastWithProduct.l1, impl_LeastWithProduct.l1]
  exact LeO.ite (LeO.bind (impl_LeastWithProduct.l2_mono b k _ _ _ _) (fun _ => LeO.ite (LeO.ite (LeO.none _) (impl_LeastWithProduct.l1_mono b k _ _ _ _)) (LeO.none _))) (LeO.bind (impl_value.mono _ _ _) (fun _ => LeO.refl _))
theorem impl_LeastWithProduct.mono : ∀ a0 a1 k, LeO (impl_LeastWithProduct.f k a0 a1) (impl_LeastWithProduct.f (k + 1) a0 a1) := by
 intro a0 a1 k
 unfold impl_LeastWithProduct.f
 exact LeO.bind (LeO.refl _) (fun _ => LeO.ite (LeO.bind (LeO.refl _) (fun _ => LeO.ite (LeO.ite (LeO.refl _) (LeO.bind (impl_isSmooth.mono _ _ _) (fun _ => LeO.ite (LeO.bind (impl_fewest.g_mono _ _ _ _ _ _ _) (fun _ => impl_LeastWithProduct.l1_mono _ _ _ _ _ _)) (LeO.refl _)))) (LeO.refl _))) (LeO.refl _))
theorem impl_LeastWithProduct.keep {w w' : World} {bm : Nat} {M : List (Int × Int)} {row : Option Nat} (h : impl_fewest.Is w bm M) (hg : w.grownBy w' row) (hr : some bm ≠ row) : impl_fewest.Is w' bm M := by
 obtain ⟨d, h1, h2⟩ := h
 exact ⟨d, h1.kept hg hr, h2⟩
def impl_LeastWithProduct.T14 : Bool × List (List Nat × List Nat) := (true, [([], []), ([], []), ([1], [1]), ([0, 2], [0, 2]), ([], []), ([], []), ([4, 5], [4, 5]), ([3, 3, 0, 1, 2, 3], [0, 3]), ([6, 7, 0, 1, 2, 3, 4, 5, 6, 7], [4, 6])])
theorem impl_LeastWithProduct.tab14 : rtab .any (opsOf Try.f16 14) = impl_LeastWithProduct.T14 := by kernel_rfl
def impl_LeastWithProduct.B14 : List Nat := [0, 0, 2, 7, 0, 0, 48, 15, 255]
theorem impl_LeastWithProduct.bits14 : waitsOk impl_LeastWithProduct.T14.2 impl_LeastWithProduct.B14 = true := by kernel_rfl
set_option maxHeartbeats 8000000 in
set_option maxRecDepth 100000 in
theorem impl_LeastWithProduct.main (k : Nat) (a0 a1 p r1 : Int) (r2 : Bool) (M0 : List (Int × Int)) (w : World) (hin : impl_in.f a0 1 1000000000000 = some true) (hba : impl_isBase.f a1 = some true) (hne : a0 ≠ 1) (hsm : impl_isSmooth.f k a0 a1 = some true) (hfw : impl_fewest.g a1 k false a0 0 0 [] = some (p, M0)) (hl : impl_LeastWithProduct.l1 a1 k a0 [] p M0 = some (r1, r2)) :
  Calls Try.prog 16 #[.int .i64 a0, .int .i64 a1] w fun e w' => e = .returned (.tuple #[.int .i64 r1, .bool r2]) ∧ Below w.heap.size w w' := by
 have h1 := fun W => impl_in.calls a0 1 1000000000000 true W hin
 change ∀ W, Calls Try.prog 37 _ _ _ at h1
 have h2 := fun W => impl_isBase.calls a1 true W hba
 change ∀ W, Calls Try.prog 38 _ _ _ at h2
 have h3 := fun W => impl_isSmooth.calls k a0 a1 true W hsm
 change ∀ W, Calls Try.prog 39 _ _ _ at h3
 have h4 := fun W bm hI => impl_fewest.calls_ a1 k a0 [] M0 p bm W hfw hI
 change ∀ W bm hI, Calls Try.prog 40 _ _ _ at h4
 have hb1 : (a0 == 1) = false := beq_eq_false_iff_ne.mpr hne
 have hmm := @Go.RowKit.run_makeMap Try.prog
 have hmade : ∀ N, ((w.drewN N).alloc (Obj.map #[] 0)).ownsMap Try.prog 3 (plainElem (H := Unit) Try.prog 3) w.heap.size 0 (.map []) := fun N => World.ownsMap_made (w.drewN N) Try.prog 3 (plainElem (H := Unit) Try.prog 3)
 have HB0 := Aside0.mk (fun N => below_alloc (pw_below_drewN (Below.refl w.heap.size w) N) (Obj.map #[] 0))
 have H' := Aside0.mk hl
 clear hin hba hne hsm hfw hl
 go_enter Try.func16, Try.ntmps16
 go_wp2_with (first
  | (go_at_call 37; refine (h1 _).mono ?_; rintro e w' ⟨rfl, ⟨nd, rfl⟩⟩)
  | (go_at_call 38; refine (h2 _).mono ?_; rintro e w' ⟨rfl, ⟨nd2, rfl⟩⟩)
  | (go_at_call 39; refine (h3 _).mono ?_; rintro e w' ⟨rfl, ⟨nd3, rfl⟩⟩)
  | ((with_reducible refine gate_dst (N := 25) rfl ?_); refine Kd.R_lit (Kd.int .i64) _ 3 ?hg (N := 25) ?hd (xs := ([] : List Int)) (inner := []) (ok := fun _ => True) (okp := fun _ => True) ?hr ?hp (fun _ hk => hk) trivial (Below.refl _ _) (Nat.le_refl _) (by simp) ?_; (case hd => rfl); (case hg => rfl); (case hr => first | (go_simp; done) | (go_simp; rfl)); (case hp => exact (Reps.none _ _)); intro v159 w6 ho7 hb hg_ hnew_; clear hg_ hnew_; have HI := Aside0.mk (show impl_fewest.Is w6 w.heap.size [] from ⟨_, (hmade _).kept (row := none) ⟨hb.os, hb.tape, hb.output, hb.size, fun k hk _ => hb.block k hk⟩ (by simp), impl_fewest.MD_nil⟩); have HO := Aside0.mk (Kd.R_lower ho7 (show w.heap.size + 1 ≤ _ by simp)); have HB := Aside0.mk (below_step (HB0.out _) hb); have HZ := Aside0.mk (show w.heap.size + 1 ≤ w6.heap.size by have := hb.size; simp at this; exact this); clear ho7 hb)
  | (go_at_call 40; refine (h4 _ w.heap.size HI.out).mono ?_; rintro e w7 ⟨rfl, hi7, hg7⟩; have n0_ := Aside0.mk hi7; have n1_ := Aside0.mk (Kd.R_grown1 HO.out rfl hg7 (by have := Kd.R_base HO.out; intro he; have := this _ he.symm; omega)); have n2_ := Aside0.mk (HB.out.grown hg7 (below_size HB.out) (fun k hk => by cases hk; exact Nat.le_refl _)); have n3_ := Aside0.mk (Nat.le_trans HZ.out hg7.size); clear HI HO HB HZ hi7 hg7; have HI := n0_; have HO := n1_; have HB := n2_; have HZ := n3_; clear n0_ n1_ n2_ n3_))
 clear hmade HB0 h1 h2 h3 h4 hb1
 go_loopg [0, 7, 8] k (fun kq v0 v7 v8 w' => ∃ (n left : Int) (ds : List Int) (M : List (Int × Int)), v0 = .int .i64 n ∧ v8 = .int .i64 left ∧ Aside0 (impl_LeastWithProduct.l1 a1 kq n ds left M = some (r1, r2)) ∧ Aside0 (kq ≤ k) ∧ Aside0 (impl_fewest.Is w' w.heap.size M) ∧ Aside0 (Kd.R (Kd.int .i64) 3 w' (w.heap.size + 1) (fun _ => True) v7 ds) ∧ Aside0 (Below w.heap.size w w') ∧ Aside0 (w.heap.size + 1 ≤ w'.heap.size))
 case atStart => exact ⟨a0, p, [], M0, rfl, rfl, H', ⟨Nat.le_refl _⟩, HI, HO, HB, HZ⟩
 case round =>
  clear H' HI HO HB HZ
  obtain ⟨n, left, ds, M, rfl, rfl, HA, HK1, HI, HO, HB, HZ⟩ := hrel
  cases gk with
  | zero => exact absurd HA.out (by simp [impl_LeastWithProduct.l1])
  | succ k1 =>
   have H := HA.out
   clear HA
   simp only [impl_LeastWithProduct.l1] at H
   by_cases c1 : left > 0
   ·rw [if_pos c1] at H
    have c1b : decide (0 < left) = true := decide_eq_true c1
    clear c1
    obtain ⟨⟨d1, M2⟩, hd1, H⟩ := Option.bind_eq_some_iff.1 H
    by_cases c2 : ds.length < 17592186044416
    ·rw [if_pos c2] at H
     by_cases c3 : d1 = 0
     ·rw [if_pos c3] at H; exact absurd H (by simp)
     rw [if_neg c3] at H
     have HL := Aside0.mk c2
     have H1 := Aside0.mk H
     have H2 := Aside0.mk hd1
     clear c2 H hd1
     go_wp2
     go_loopg [9] k1 (fun kq v9 w' => ∃ (d : Int) (M3 : List (Int × Int)), v9 = .int .i64 d ∧ Aside0 (impl_LeastWithProduct.l2 a1 kq n d left M3 = some (d1, M2)) ∧ Aside0 (kq ≤ k1) ∧ Aside0 (impl_fewest.Is w' w.heap.size M3) ∧ Aside0 (Kd.R (Kd.int .i64) 3 w' (w.heap.size + 1) (fun _ => True) u7 ds) ∧ Aside0 (Below w.heap.size w w') ∧ Aside0 (w.heap.size + 1 ≤ w'.heap.size))
     case atStart => exact ⟨2, M, rfl, H2, ⟨Nat.le_refl _⟩, HI, HO, HB, HZ⟩
     case round =>
      clear H2 HI HO HB HZ
      obtain ⟨d, M3, rfl, HA, HK2, HI, HO, HB, HZ⟩ := hrel
      cases gk with
      | zero => exact absurd HA.out (by simp [impl_LeastWithProduct.l2])
      | succ k2 =>
       have G := HA.out
       clear HA
       simp only [impl_LeastWithProduct.l2] at G
       by_cases g1 : d = 0
       ·rw [if_pos g1] at G; exact absurd G (by simp)
       ·rw [if_neg g1] at G
        by_cases g2 : Int.tmod n d = 0
        ·rw [if_pos g2] at G
         have g2b : (Int.tmod n d == 0) = true := beq_iff_eq.mpr g2
         have g2c : (Int.tmod n d != 0) = false := by rw [bne, g2b]; rfl
         obtain ⟨⟨pp, M4⟩, hpp, G⟩ := Option.bind_eq_some_iff.1 G
         have hc := impl_fewest.calls_ a1 k2 _ _ _ _ w.heap.size wr hpp HI.out
         change Calls Try.prog 40 _ _ _ at hc
         clear hpp g2
         by_cases g3 : pp = wrap64 (left - 1)
         ·rw [if_pos g3] at G
          obtain ⟨rfl, rfl⟩ := Prod.mk.inj (Option.some.inj G)
          have g3b : (pp == wrap64 (left - 1)) = true := beq_iff_eq.mpr g3
          have g3c : (pp != wrap64 (left - 1)) = false := by rw [bne, g3b]; rfl
          clear G g3
          go_wp2_with (go_at_call 40; refine hc.mono ?_; rintro e w7 ⟨rfl, hi7, hg7⟩; have n0_ := Aside0.mk hi7; have n1_ := Aside0.mk (Kd.R_grown1 HO.out rfl hg7 (by have := Kd.R_base HO.out; intro he; have := this _ he.symm; omega)); have n2_ := Aside0.mk (HB.out.grown hg7 (below_size HB.out) (fun k hk => by cases hk; exact Nat.le_refl _)); have n3_ := Aside0.mk (Nat.le_trans HZ.out hg7.size); clear HI HO HB HZ hi7 hg7; have HI := n0_; have HO := n1_; have HB := n2_; have HZ := n3_; clear n0_ n1_ n2_ n3_)
          refine start_ (n := 9) (S := fun _ => True) (ds := []) #[false, false, false, false, false, false, false, false, false] (by kernel_rfl) rfl rfl trivial (fun hHeld => ?_); refine with_tabW impl_LeastWithProduct.tab14 impl_LeastWithProduct.bits14 (fun HT_ HW_ => ?_)
          have n0_ := Aside0.mk (impl_LeastWithProduct.keep HI.out (row := none) (show World.grownBy _ (World.drew _) none from ⟨rfl, rfl, rfl, Nat.le_refl _, fun _ _ _ => rfl⟩) (by simp))
          have n1_ := Aside0.mk (Kd.R_drew HO.out)
          have n2_ := Aside0.mk (below_drew1 HB.out)
          have n3_ := Aside0.mk (show w.heap.size + 1 ≤ (World.drew _).heap.size from HZ.out)
          clear HI HO HB HZ
          have HI := n0_
          have HO := n1_
          have HB := n2_
          have HZ := n3_
          clear n0_ n1_ n2_ n3_
          generalize World.drew _ = w8 at HI HO HB HZ ⊢
          refine pure_ (i := 0) (N := some 51) (v := ?_) (a' := ?_) #[true, false, false, false, false, false, false, false, false] rfl rfl (any_of HT_.out (by kernel_rfl)) (fun _ _ _ h => h) (Or.inl ⟨by rfl, ?_⟩) ?_ ?_
          rotate_left
          ·intro w'
           go_simp
           with_reducible rfl
          rotate_left
          ·simp only [Act.put, List.setIfInBounds_toArray, List.set_cons_zero, List.set_cons_succ, i64_w, i32_w]
           rfl
          refine pure_ (i := 1) (N := some 52) (v := ?_) (a' := ?_) #[true, true, false, false, false, false, false, false, false] rfl rfl (any_of HT_.out (by kernel_rfl)) (fun _ _ _ h => h) (Or.inl ⟨by rfl, ?_⟩) ?_ ?_
          rotate_left
          ·intro w'
           go_simp
           with_reducible rfl
          rotate_left
          ·simp only [Act.put, List.setIfInBounds_toArray, List.set_cons_zero, List.set_cons_succ, i64_w, i32_w]
           rfl
          refine pure_ (i := 4) (N := some 55) (v := ?_) (a' := ?_) #[true, true, false, false, true, false, false, false, false] rfl rfl (any_of HT_.out (by kernel_rfl)) (fun _ _ _ h => h) (Or.inl ⟨by rfl, ?_⟩) ?_ ?_
          rotate_left
          ·intro w'
           go_simp
           with_reducible rfl
          rotate_left
          ·simp only [Act.put, List.setIfInBounds_toArray, List.set_cons_zero, List.set_cons_succ, i64_w, i32_w]
           rfl
          refine pure_ (i := 5) (N := some 56) (v := ?_) (a' := ?_) #[true, true, false, false, true, true, false, false, false] rfl rfl (any_of HT_.out (by kernel_rfl)) (fun _ _ _ h => h) (Or.inl ⟨by rfl, ?_⟩) ?_ ?_
          rotate_left
          ·intro w'
           go_simp
           with_reducible rfl
          rotate_left
          ·simp only [Act.put, List.setIfInBounds_toArray, List.set_cons_zero, List.set_cons_succ, i64_w, i32_w]
           rfl
          refine pure_ (i := 6) (N := some 57) (v := ?_) (a' := ?_) #[true, true, false, false, true, true, true, false, false] rfl rfl (any_of HT_.out (by kernel_rfl)) (fun _ _ _ h => h) (Or.inl ⟨by rfl, ?_⟩) ?_ ?_
          rotate_left
          ·intro w'
           go_simp
           with_reducible rfl
          rotate_left
          ·simp only [Act.put, List.setIfInBounds_toArray, List.set_cons_zero, List.set_cons_succ, i64_w, i32_w]
           rfl
          refine one_ (i := 2) (N := some 53) #[true, true, true, false, true, true, true, false, false] rfl rfl (one_of HT_.out (by kernel_rfl)) (by decide) (fun K hK => ?_)
          refine value_ (w1 := ?_) (v := ?_) (by rfl) rfl ?_ ?_
          rotate_left 2
          ·go_simp
           constructor
           ·rfl
           ·rfl
          refine hK.out _ _ trivial (fun _ => ?_)
          clear hK K
          refine norm_ (a' := ?_) ?_ ?_
          rotate_left
          ·show Act.put _ (some 53) _ = _
           simp only [Act.put, List.setIfInBounds_toArray, List.set_cons_zero, List.set_cons_succ, i64_w, i32_w]
           rfl
          refine one_ (i := 3) (N := some 54) #[true, true, true, true, true, true, true, false, false] rfl rfl (one_of HT_.out (by kernel_rfl)) (by decide) (fun K hK => ?_)
          refine Kd.R_append_step (Kd.int .i64) (w0 := w8) (w.heap.size + 1) (by rfl) (.tmp 51) (.tmp 53) 26 3 (.int .i64 0) 8 rfl Try.underlying26 info3 rfl (by decide) (by omega) u7 ds d [.int .i64 d] (fun _ => True) (fun _ => False) rfl rfl ?aP (fun _ hk => hk.elim) ?aF ?aO ?aB ?aS ?aL ?_
          case aP => exact rfl
          case aF => exact fun _ _ => trivial
          case aO => exact HO.out
          case aB => exact Below.refl _ _
          case aS => exact HZ.out
          case aL => have := HL.out; omega
          intro v2 w9 ho hb hg hat
          have n0_ := Aside0.mk (impl_LeastWithProduct.keep HI.out hg (by intro he; have := Kd.R_base HO.out _ he.symm; omega))
          have n1_ := Aside0.mk ho
          have n2_ := Aside0.mk (HB.out.grown hg (below_size HB.out) (fun k hk => Nat.le_trans (Nat.le_succ _) (Kd.R_base HO.out _ hk)))
          have n3_ := Aside0.mk (Nat.le_trans HZ.out hg.size)
          clear HI HO HB HZ ho hb hg hat
          have HI := n0_
          have HO := n1_
          have HB := n2_
          have HZ := n3_
          clear n0_ n1_ n2_ n3_
          refine hK.out _ _ trivial (fun _ => ?_)
          clear hK K
          refine norm_ (a' := ?_) ?_ ?_
          rotate_left
          ·show Act.put _ (some 54) _ = _
           simp only [Act.put, List.setIfInBounds_toArray, List.set_cons_zero, List.set_cons_succ, i64_w, i32_w]
           rfl
          refine pure_ (i := 7) (N := some 7) (v := ?_) (a' := ?_) #[true, true, true, true, true, true, true, true, false] rfl rfl (any_of HT_.out (by kernel_rfl)) (fun _ _ _ h => h) (Or.inl ⟨by rfl, ?_⟩) ?_ ?_
          rotate_left
          ·intro w'
           go_simp
           with_reducible rfl
          rotate_left
          ·simp only [Act.put, List.setIfInBounds_toArray, List.set_cons_zero, List.set_cons_succ, i64_w, i32_w]
           rfl
          refine pure_ (i := 8) (N := some 0) (v := ?_) (a' := ?_) #[true, true, true, true, true, true, true, true, true] rfl rfl (any_of HT_.out (by kernel_rfl)) (fun _ _ _ h => h) (Or.inl ⟨by rfl, ?_⟩) ?_ ?_
          rotate_left
          ·intro w'
           go_simp
           with_reducible rfl
          rotate_left
          ·simp only [Act.put, List.setIfInBounds_toArray, List.set_cons_zero, List.set_cons_succ, i64_w, i32_w]
           rfl
          refine done_ (done_of HT_.out (by kernel_rfl)) ?_
          try go_wp2
          go_roundg k1
          case measure => have := HK1.out; have := HK2.out; omega
          case rel => exact ⟨_, _, _, _, rfl, rfl, H1, ⟨by have := HK1.out; omega⟩, HI, HO, HB, HZ⟩
         ·rw [if_neg g3] at G
          have g3b : (pp == wrap64 (left - 1)) = false := beq_eq_false_iff_ne.mpr g3
          have g3c : (pp != wrap64 (left - 1)) = true := by rw [bne, g3b]; rfl
          have G' := Aside0.mk G
          clear G g3
          go_wp2_with (go_at_call 40; refine hc.mono ?_; rintro e w7 ⟨rfl, hi7, hg7⟩; have n0_ := Aside0.mk hi7; have n1_ := Aside0.mk (Kd.R_grown1 HO.out rfl hg7 (by have := Kd.R_base HO.out; intro he; have := this _ he.symm; omega)); have n2_ := Aside0.mk (HB.out.grown hg7 (below_size HB.out) (fun k hk => by cases hk; exact Nat.le_refl _)); have n3_ := Aside0.mk (Nat.le_trans HZ.out hg7.size); clear HI HO HB HZ hi7 hg7; have HI := n0_; have HO := n1_; have HB := n2_; have HZ := n3_; clear n0_ n1_ n2_ n3_)
          go_roundg k2
          case measure => have := HK1.out; have := HK2.out; omega
          case rel => exact ⟨_, M4, rfl, G', ⟨by have := HK2.out; omega⟩, HI, HO, HB, HZ⟩
        ·rw [if_neg g2] at G
         have g2b : (Int.tmod n d == 0) = false := beq_eq_false_iff_ne.mpr g2
         have g2c : (Int.tmod n d != 0) = true := by rw [bne, g2b]; rfl
         have G' := Aside0.mk G
         clear G g2
         go_wp2
         go_roundg k2
         case measure => have := HK1.out; have := HK2.out; omega
         case rel => exact ⟨_, M3, rfl, G', ⟨by have := HK2.out; omega⟩, HI, HO, HB, HZ⟩
    ·rw [if_neg c2] at H; exact absurd H (by simp)
   ·rw [if_neg c1] at H
    have c1b : decide (0 < left) = false := decide_eq_false c1
    clear c1
    obtain ⟨v, hv, H⟩ := Option.bind_eq_some_iff.1 H
    obtain ⟨Ad, cd, ed⟩ := Kd.R_slice HO.out
    subst ed
    have hval := fun W hc => impl_value.calls k1 Ad cd ds a1 v W hc (Kd.R_reads' HO.out).2.1 hv
    change ∀ W hc, Calls Try.prog 34 _ _ _ at hval
    have htold := fun W => impl_told.calls v r1 r2 W H
    change ∀ W, Calls Try.prog 41 _ _ _ at htold
    clear hv H
    go_wp2_with (first | (go_at_call 34; refine (hval _ (Kd.R_reads' HO.out).2.2).mono ?_; rintro e w8 ⟨rfl, ⟨n1, rfl⟩⟩) | (go_at_call 41; refine (htold _).mono ?_; rintro e w9 ⟨rfl, ⟨n2, rfl⟩⟩))
    go_ret2
    exact ⟨rfl, pw_below_drewN HB.out _⟩
set_option maxHeartbeats 4000000 in
set_option maxRecDepth 100000 in
theorem impl_LeastWithProduct.calls (k : Nat) (a0 a1 : Int) (r1 : Int) (r2 : Bool) (w : World) (h : impl_LeastWithProduct.f k a0 a1 = some (r1, r2)) :
  Calls Try.prog 16 #[.int .i64 a0, .int .i64 a1] w fun e w' => e = .returned (.tuple #[.int .i64 r1, .bool r2]) ∧ Below w.heap.size w w' := by
 unfold impl_LeastWithProduct.f at h
 obtain ⟨t, ht, h⟩ := Option.bind_eq_some_iff.1 h
 have h1 := fun W => impl_in.calls a0 1 1000000000000 t W ht
 change ∀ W, Calls Try.prog 37 _ _ _ at h1
 have HB := Aside0.mk (Below.refl w.heap.size w)
 cases t with
 | false =>
  rw [if_neg (by simp)] at h
  obtain ⟨rfl, rfl⟩ := Prod.mk.inj (Option.some.inj h)
  clear ht
  go_enter Try.func16, Try.ntmps16
  go_wp2_with (go_at_call 37; refine (h1 _).mono ?_; rintro e w' ⟨rfl, ⟨nd, rfl⟩⟩)
  go_ret2
  exact ⟨rfl, pw_below_drewN HB.out _⟩
 | true =>
  rw [if_pos rfl] at h
  obtain ⟨u, hu, h⟩ := Option.bind_eq_some_iff.1 h
  have h2 := fun W => impl_isBase.calls a1 u W hu
  change ∀ W, Calls Try.prog 38 _ _ _ at h2
  cases u with
  | false =>
   rw [if_neg (by simp)] at h
   obtain ⟨rfl, rfl⟩ := Prod.mk.inj (Option.some.inj h)
   clear ht hu
   go_enter Try.func16, Try.ntmps16
   go_wp2_with (first | (go_at_call 37; refine (h1 _).mono ?_; rintro e w' ⟨rfl, ⟨nd, rfl⟩⟩) | (go_at_call 38; refine (h2 _).mono ?_; rintro e w' ⟨rfl, ⟨nd2, rfl⟩⟩))
   go_ret2
   exact ⟨rfl, pw_below_drewN HB.out _⟩
  | true =>
   rw [if_pos rfl] at h
   by_cases hne : a0 = 1
   ·rw [if_pos hne] at h
    obtain ⟨rfl, rfl⟩ := Prod.mk.inj (Option.some.inj h)
    have hb1 : (a0 == 1) = true := beq_iff_eq.mpr hne
    clear ht hu hne
    go_enter Try.func16, Try.ntmps16
    go_wp2_with (first | (go_at_call 37; refine (h1 _).mono ?_; rintro e w' ⟨rfl, ⟨nd, rfl⟩⟩) | (go_at_call 38; refine (h2 _).mono ?_; rintro e w' ⟨rfl, ⟨nd2, rfl⟩⟩))
    go_ret2
    exact ⟨rfl, pw_below_drewN HB.out _⟩
   ·rw [if_neg hne] at h
    obtain ⟨s, hs, h⟩ := Option.bind_eq_some_iff.1 h
    cases s with
    | false =>
     rw [if_neg (by simp)] at h
     obtain ⟨rfl, rfl⟩ := Prod.mk.inj (Option.some.inj h)
     have h3 := fun W => impl_isSmooth.calls k a0 a1 false W hs
     change ∀ W, Calls Try.prog 39 _ _ _ at h3
     have hb1 : (a0 == 1) = false := beq_eq_false_iff_ne.mpr hne
     clear ht hu hs hne
     go_enter Try.func16, Try.ntmps16
     go_wp2_with (first | (go_at_call 37; refine (h1 _).mono ?_; rintro e w' ⟨rfl, ⟨nd, rfl⟩⟩) | (go_at_call 38; refine (h2 _).mono ?_; rintro e w' ⟨rfl, ⟨nd2, rfl⟩⟩) | (go_at_call 39; refine (h3 _).mono ?_; rintro e w' ⟨rfl, ⟨nd3, rfl⟩⟩))
     go_ret2
     exact ⟨rfl, pw_below_drewN HB.out _⟩
    | true =>
     rw [if_pos rfl] at h
     obtain ⟨⟨p, M0⟩, hp, h⟩ := Option.bind_eq_some_iff.1 h
     exact impl_LeastWithProduct.main k a0 a1 p r1 r2 M0 w ht hu hne hs hp h

/-! ### spec_prSmooth: function 42 -/
mutual
def spec_prSmooth.l0 : Nat → Int → Int → Int → Option (Bool)
 | 0, _, _, _ => none
 | k + 1, x0, x1, x5 => if x5 < x1 then (spec_prSmooth.l1 k x0 x1 x5) else (some (x0 == 1))
def spec_prSmooth.l1 : Nat → Int → Int → Int → Option (Bool)
 | 0, _, _, _ => none
 | k + 1, x0, x1, x5 => if x0 > 0 then (if x5 = 0 then (none) else (if (Int.tmod x0 x5) = 0 then (spec_prSmooth.l1 k (wrap64 (Int.tdiv x0 x5)) x1 x5) else (spec_prSmooth.l0 k x0 x1 (wrap64 (x5 + 1))))) else (spec_prSmooth.l0 k x0 x1 (wrap64 (x5 + 1)))
end
def spec_prSmooth.f (k : Nat) (a0 : Int) (a1 : Int) : Option (Bool) := spec_prSmooth.l0 k a0 a1 2
theorem spec_prSmooth.mono_l : ∀ k, (∀ y0 y1 y2, LeO (spec_prSmooth.l0 k y0 y1 y2) (spec_prSmooth.l0 (k + 1) y0 y1 y2)) ∧ (∀ y0 y1 y2, LeO (spec_prSmooth.l1 k y0 y1 y2) (spec_prSmooth.l1 (k + 1) y0 y1 y2))
 | 0 => ⟨fun _ _ _ r h => by simp [spec_prSmooth.l0] at h, fun _ _ _ r h => by simp [spec_prSmooth.l1] at h⟩
 | k + 1 => by
  obtain ⟨ih0, ih1⟩ := spec_prSmooth.mono_l k
  refine ⟨?_, ?_⟩
  ·intro y0 y1 y2
   unfold spec_prSmooth.l0
   repeat' first
   | (with_reducible exact ih0 _ _ _)
   | (with_reducible exact ih1 _ _ _)
   | (with_reducible exact LeO.refl _)
   | (with_reducible exact LeO.none _)
   | (with_reducible refine LeO.ite ?_ ?_)
   | (with_reducible refine LeO.bind ?_ (fun _ => ?_))
   | exact ih0 _ _ _
   | exact ih1 _ _ _
   | exact LeO.none _
   | refine LeO.ite ?_ ?_
   | refine LeO.bind ?_ (fun _ => ?_)
  ·intro y0 y1 y2
   unfold spec_prSmooth.l1
   repeat' first
   | (with_reducible exact ih0 _ _ _)
   | (with_reducible exact ih1 _ _ _)
   | (with_reducible exact LeO.refl _)
   | (with_reducible exact LeO.none _)
   | (with_reducible refine LeO.ite ?_ ?_)
   | (with_reducible refine LeO.bind ?_ (fun _ => ?_))
   | exact ih0 _ _ _
   | exact ih1 _ _ _
   | exact LeO.none _
   | refine LeO.ite ?_ ?_
   | refine LeO.bind ?_ (fun _ => ?_)
theorem spec_prSmooth.mono : ∀ a0 a1 k, LeO (spec_prSmooth.f k a0 a1) (spec_prSmooth.f (k + 1) a0 a1) := by
 intro a0 a1 k
 obtain ⟨ih0, ih1⟩ := spec_prSmooth.mono_l k
 unfold spec_prSmooth.f
 repeat' first
   | (with_reducible exact ih0 _ _ _)
   | (with_reducible exact ih1 _ _ _)
   | (with_reducible exact LeO.refl _)
   | (with_reducible exact LeO.none _)
   | (with_reducible refine LeO.ite ?_ ?_)
   | (with_reducible refine LeO.bind ?_ (fun _ => ?_))
   | exact ih0 _ _ _
   | exact ih1 _ _ _
   | exact LeO.none _
   | refine LeO.ite ?_ ?_
   | refine LeO.bind ?_ (fun _ => ?_)
set_option maxHeartbeats 8000000 in
set_option maxRecDepth 100000 in
theorem spec_prSmooth.calls (k : Nat) (a0 : Int) (a1 : Int) (r : Bool) (w : World) (h : spec_prSmooth.f k a0 a1 = some r) :
  Calls Try.prog 42 #[.int .i64 a0, .int .i64 a1] w fun e w' => e = .returned (.bool r) ∧ Drawn0 w w' := by
 have H : (spec_prSmooth.l0 k a0 a1 2) = some r := h
 clear h
 have H' := Aside0.mk H
 clear H
 go_enter Try.func42, Try.ntmps42
 go_wp2
 go_loopg [0, 5] k (fun kq v0 v5 w' => ∃ (x0_1 : Int) (x5_1 : Int), v0 = .int .i64 x0_1 ∧ v5 = .int .i64 x5_1 ∧ Aside0 (spec_prSmooth.l0 kq x0_1 a1 x5_1 = some r) ∧ Aside0 (kq ≤ k) ∧ Drawn0 w w')
 case atStart => exact ⟨(a0), (2), (by first | rfl | (simp; done) | (simp [*]; done)), (by first | rfl | (simp; done) | (simp [*]; done)), H', ⟨Nat.le_refl _⟩, by repeat (first | exact Drawn0.refl _ | apply Drawn0.step)⟩
 case round =>
  clear H'
  try clear p2
  obtain ⟨x0_1, x5_1, rfl, rfl, HA, HK1, ⟨m1, rfl⟩⟩ := hrel
  cases gk with
  | zero => exact absurd HA.out (by simp [spec_prSmooth.l0])
  | succ k1 =>
   have H := HA.out
   clear HA
   simp only [spec_prSmooth.l0] at H
   by_cases c3 : x5_1 < a1
   ·rw [if_pos c3] at H
    have c3b0 : decide (x5_1 < a1) = true := decide_eq_true c3
    clear c3
    have H' := Aside0.mk H
    clear H
    go_wp2
    go_loopg [0] k1 (fun kq v0 w' => ∃ (x0_2 : Int), v0 = .int .i64 x0_2 ∧ Aside0 (spec_prSmooth.l1 kq x0_2 a1 x5_1 = some r) ∧ Aside0 (kq ≤ k1) ∧ Drawn0 w w')
    case atStart => exact ⟨(x0_1), (by first | rfl | (simp; done) | (simp [*]; done)), H', ⟨Nat.le_refl _⟩, by repeat (first | exact Drawn0.refl _ | apply Drawn0.step)⟩
    case round =>
     clear H'
     try clear p2
     try clear c3
     try clear c3b0
     try clear p2
     obtain ⟨x0_2, rfl, HA, HK2, ⟨m2, rfl⟩⟩ := hrel
     cases gk with
     | zero => exact absurd HA.out (by simp [spec_prSmooth.l1])
     | succ k2 =>
      have H := HA.out
      clear HA
      simp only [spec_prSmooth.l1] at H
      by_cases c4 : x0_2 > 0
      ·rw [if_pos c4] at H
       have c4b0 : decide (0 < x0_2) = true := decide_eq_true c4
       clear c4
       by_cases c5 : x5_1 = 0
       ·rw [if_pos c5] at H
        exact absurd H (by simp)
       ·rw [if_neg c5] at H
        have c5b0 : (x5_1 == 0) = false := beq_eq_false_iff_ne.mpr c5
        have c5b1 : (x5_1 != 0) = true := bne_iff_ne.mpr c5
        by_cases c6 : (Int.tmod x0_2 x5_1) = 0
        ·rw [if_pos c6] at H
         have c6b0 : ((Int.tmod x0_2 x5_1) == 0) = true := beq_iff_eq.mpr c6
         have c6b1 : ((Int.tmod x0_2 x5_1) != 0) = false := bne_eq_false_iff_eq.mpr c6
         clear c6
         have H' := Aside0.mk H
         clear H
         go_wp2
         go_roundg k2
         case measure => have := HK1.out; have := HK2.out; omega
         case rel => exact ⟨(wrap64 (Int.tdiv x0_2 x5_1)), (by first | rfl | (simp; done) | (simp [*]; done)), H', ⟨by have := HK1.out; have := HK2.out; omega⟩, by repeat (first | exact Drawn0.refl _ | apply Drawn0.step)⟩
        ·rw [if_neg c6] at H
         have c6b0 : ((Int.tmod x0_2 x5_1) == 0) = false := beq_eq_false_iff_ne.mpr c6
         have c6b1 : ((Int.tmod x0_2 x5_1) != 0) = true := bne_iff_ne.mpr c6
         have H' := Aside0.mk H
         clear H
         go_wp2
         go_roundg k2
         case measure => have := HK1.out; have := HK2.out; omega
         case rel => exact ⟨(x0_2), (wrap64 (x5_1 + 1)), (by first | rfl | (simp; done) | (simp [*]; done)), (by first | rfl | (simp; done) | (simp [*]; done)), H', ⟨by have := HK1.out; have := HK2.out; omega⟩, by repeat (first | exact Drawn0.refl _ | apply Drawn0.step)⟩
      ·rw [if_neg c4] at H
       have c4b0 : decide (0 < x0_2) = false := decide_eq_false c4
       clear c4
       have H' := Aside0.mk H
       clear H
       go_wp2
       go_roundg k2
       case measure => have := HK1.out; have := HK2.out; omega
       case rel => exact ⟨(x0_2), (wrap64 (x5_1 + 1)), (by first | rfl | (simp; done) | (simp [*]; done)), (by first | rfl | (simp; done) | (simp [*]; done)), H', ⟨by have := HK1.out; have := HK2.out; omega⟩, by repeat (first | exact Drawn0.refl _ | apply Drawn0.step)⟩
   ·rw [if_neg c3] at H
    have c3b0 : decide (x5_1 < a1) = false := decide_eq_false c3
    clear c3
    obtain rfl := Option.some.inj H
    go_wp2
    go_ret
    exact ⟨by first | rfl | (simp; done) | (simp [*]; done), by repeat (first | exact Drawn0.refl _ | apply Drawn0.step)⟩

/-! ### spec_pwLimited: function 64 -/
def spec_pwLimited.l0 : Nat → Int → Int → Int → Option (Int)
 | 0, _, _, _ => none
 | k + 1, x0, x1, x5 => if x1 > 0 then (if x0 = 0 then (none) else (if x5 > (wrap64 ((1000000000000000000 : Int) / x0)) then (some 1000000000000000000) else (spec_pwLimited.l0 k x0 (wrap64 (x1 - 1)) (wrap64 (x5 * x0))))) else (some x5)
def spec_pwLimited.f (k : Nat) (a0 : Int) (a1 : Int) : Option (Int) := spec_pwLimited.l0 k a0 a1 1
theorem spec_pwLimited.mono_l : ∀ k, (∀ y0 y1 y2, LeO (spec_pwLimited.l0 k y0 y1 y2) (spec_pwLimited.l0 (k + 1) y0 y1 y2))
 | 0 => fun _ _ _ r h => by simp [spec_pwLimited.l0] at h
 | k + 1 => by
  have ih0 := spec_pwLimited.mono_l k
  ·intro y0 y1 y2
   unfold spec_pwLimited.l0
   repeat' first
   | (with_reducible exact ih0 _ _ _)
   | (with_reducible exact LeO.refl _)
   | (with_reducible exact LeO.none _)
   | (with_reducible refine LeO.ite ?_ ?_)
   | (with_reducible refine LeO.bind ?_ (fun _ => ?_))
   | exact ih0 _ _ _
   | exact LeO.none _
   | refine LeO.ite ?_ ?_
   | refine LeO.bind ?_ (fun _ => ?_)
theorem spec_pwLimited.mono : ∀ a0 a1 k, LeO (spec_pwLimited.f k a0 a1) (spec_pwLimited.f (k + 1) a0 a1) := by
 intro a0 a1 k
 have ih0 := spec_pwLimited.mono_l k
 unfold spec_pwLimited.f
 repeat' first
   | (with_reducible exact ih0 _ _ _)
   | (with_reducible exact LeO.refl _)
   | (with_reducible exact LeO.none _)
   | (with_reducible refine LeO.ite ?_ ?_)
   | (with_reducible refine LeO.bind ?_ (fun _ => ?_))
   | exact ih0 _ _ _
   | exact LeO.none _
   | refine LeO.ite ?_ ?_
   | refine LeO.bind ?_ (fun _ => ?_)
set_option maxHeartbeats 8000000 in
set_option maxRecDepth 100000 in
theorem spec_pwLimited.calls (k : Nat) (a0 : Int) (a1 : Int) (r : Int) (w : World) (h : spec_pwLimited.f k a0 a1 = some r) :
  Calls Try.prog 64 #[.int .i64 a0, .int .i64 a1] w fun e w' => e = .returned (.int .i64 r) ∧ Drawn0 w w' := by
 have H : (spec_pwLimited.l0 k a0 a1 1) = some r := h
 clear h
 have H' := Aside0.mk H
 clear H
 go_enter Try.func64, Try.ntmps64
 go_wp2
 go_loopg [1, 5] k (fun kq v1 v5 w' => ∃ (x1_1 : Int) (x5_1 : Int), v1 = .int .i64 x1_1 ∧ v5 = .int .i64 x5_1 ∧ Aside0 (spec_pwLimited.l0 kq a0 x1_1 x5_1 = some r) ∧ Aside0 (kq ≤ k) ∧ Drawn0 w w')
 case atStart => exact ⟨(a1), (1), (by first | rfl | (simp; done) | (simp [*]; done)), (by first | rfl | (simp; done) | (simp [*]; done)), H', ⟨Nat.le_refl _⟩, by repeat (first | exact Drawn0.refl _ | apply Drawn0.step)⟩
 case round =>
  clear H'
  try clear p2
  obtain ⟨x1_1, x5_1, rfl, rfl, HA, HK1, ⟨m1, rfl⟩⟩ := hrel
  cases gk with
  | zero => exact absurd HA.out (by simp [spec_pwLimited.l0])
  | succ k1 =>
   have H := HA.out
   clear HA
   simp only [spec_pwLimited.l0] at H
   by_cases c3 : x1_1 > 0
   ·rw [if_pos c3] at H
    have c3b0 : decide (0 < x1_1) = true := decide_eq_true c3
    clear c3
    by_cases c4 : a0 = 0
    ·rw [if_pos c4] at H
     exact absurd H (by simp)
    ·rw [if_neg c4] at H
     have c4b0 : (a0 == 0) = false := beq_eq_false_iff_ne.mpr c4
     have c4b1 : (a0 != 0) = true := bne_iff_ne.mpr c4
     by_cases c5 : x5_1 > (wrap64 ((1000000000000000000 : Int) / a0))
     ·rw [if_pos c5] at H
      have c5b0 : decide ((wrap64 ((1000000000000000000 : Int) / a0)) < x5_1) = true := decide_eq_true c5
      have c5b0t : decide ((wrap64 (Int.tdiv 1000000000000000000 a0)) < x5_1) = true := (by rw [Int.tdiv_eq_ediv_of_nonneg (by omega)]; exact c5b0)
      clear c5
      obtain rfl := Option.some.inj H
      go_wp2
      go_ret
      exact ⟨by first | rfl | (simp; done) | (simp [*]; done), by repeat (first | exact Drawn0.refl _ | apply Drawn0.step)⟩
     ·rw [if_neg c5] at H
      have c5b0 : decide ((wrap64 ((1000000000000000000 : Int) / a0)) < x5_1) = false := decide_eq_false c5
      have c5b0t : decide ((wrap64 (Int.tdiv 1000000000000000000 a0)) < x5_1) = false := (by rw [Int.tdiv_eq_ediv_of_nonneg (by omega)]; exact c5b0)
      clear c5
      have H' := Aside0.mk H
      clear H
      go_wp2
      go_roundg k1
      case measure => have := HK1.out; omega
      case rel => exact ⟨(wrap64 (x1_1 - 1)), (wrap64 (x5_1 * a0)), (by first | rfl | (simp; done) | (simp [*]; done)), (by first | rfl | (simp; done) | (simp [*]; done)), H', ⟨by have := HK1.out; omega⟩, by repeat (first | exact Drawn0.refl _ | apply Drawn0.step)⟩
   ·rw [if_neg c3] at H
    have c3b0 : decide (0 < x1_1) = false := decide_eq_false c3
    clear c3
    obtain rfl := Option.some.inj H
    go_wp2
    go_ret
    exact ⟨by first | rfl | (simp; done) | (simp [*]; done), by repeat (first | exact Drawn0.refl _ | apply Drawn0.step)⟩

end Go.Proofs.Ytjkhgigmhmghbaa.PFnProductRuns
