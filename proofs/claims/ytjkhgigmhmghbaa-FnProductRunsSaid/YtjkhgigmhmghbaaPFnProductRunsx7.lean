-- out of the kit's print, turned by wip/own_print.py
import Derived.Test.YtjkhgigmhmghbaaPFnProductRunsx0
import Derived.Test.YtjkhgigmhmghbaaPFnProductRunsx1
import Derived.Test.YtjkhgigmhmghbaaPFnProductRunsx4
namespace Go.Proofs.Ytjkhgigmhmghbaa.PFnProductRuns
open Go.RowKit Go.Proofs.YtjkhgigmhmghbaaW.PrintWords Go.Proofs.YtjkhgigmhmghbaaW.PrintLast Go.Proofs.YtjkhgigmhmghbaaW.PrintMore
attribute [local go_sem] max2_int min2_int max_two min_two max_three min_three max_four min_four   -- for this text's walks alone
set_option linter.unusedVariables false
set_option linter.unusedSimpArgs false

/-! ### impl_CountWithProduct: function 20 -/
def impl_countWith.lk : List (Int × Int) → Int → Option Int
 | [], _ => none
 | p :: M, y => if p.1 = y then some p.2 else impl_countWith.lk M y
def impl_countWith.rng (x : Int) : Prop := -9223372036854775808 ≤ x ∧ x ≤ 9223372036854775807
instance impl_countWith.dec (x : Int) : Decidable (impl_countWith.rng x) := inferInstanceAs (Decidable (_ ∧ _))
def impl_countWith.g (b : Int) : Nat → Bool → Int → Int → Int → List (Int × Int) → Option (Int × List (Int × Int))
 | 0, _, _, _, _, _ => none
 | k + 1, false, n, _, _, M =>
  if n = 1 then some (1, M) else
   if impl_countWith.rng n then
    match impl_countWith.lk M n with
    | some v => some (v, M)
    | none => impl_countWith.g b k true n 2 0 M
   else none
 | k + 1, true, n, d, out, M =>
  if d < b then
   if d = 0 then none else
    if Int.tmod n d = 0 then
     (impl_countWith.g b k false (wrap64 (Int.tdiv n d)) 0 0 M).bind fun p => impl_countWith.g b k true n (wrap64 (d + 1)) (wrap64 (out + p.1)) p.2
    else impl_countWith.g b k true n (wrap64 (d + 1)) out M
  else if impl_countWith.rng out then (if M.length < 1000000000000 then some (out, (n, out) :: M) else none) else none
theorem impl_countWith.g_mono (b : Int) : ∀ k o n d out M, LeO (impl_countWith.g b k o n d out M) (impl_countWith.g b (k + 1) o n d out M)
 | 0, _, _, _, _, _ => fun r h => by simp [impl_countWith.g] at h
 | k + 1, false, n, d, out, M => by
  rw [impl_countWith.g, impl_countWith.g]
  refine LeO.ite (LeO.refl _) (LeO.ite ?_ (LeO.none _))
  cases impl_countWith.lk M n with
  | some v => exact LeO.refl _
  | none => exact impl_countWith.g_mono b k _ _ _ _ _
 | k + 1, true, n, d, out, M => by
  rw [impl_countWith.g, impl_countWith.g]
  exact LeO.ite (LeO.ite (LeO.none _) (LeO.ite (LeO.bind (impl_countWith.g_mono b k _ _ _ _ _) (fun _ => impl_countWith.g_mono b k _ _ _ _ _)) (impl_countWith.g_mono b k _ _ _ _ _))) (LeO.refl _)
theorem impl_countWith.ml : Go.Maps.Keyed Try.prog 3 := Go.Maps.int_keyed Try.underlying3
theorem impl_countWith.utm : Try.prog.underlying 49 = some (.map 3 3) := by kernel_rfl
theorem impl_countWith.mz (w : World) : (zeroValue 3).run Try.prog w = .ok (.int .i64 0) w := by kernel_rfl
def impl_countWith.MD (M : List (Int × Int)) (d : DataW Unit) : Prop := Go.Maps.IsMap d ∧ (∀ y, Go.Maps.has d (.int .i64 y) = (impl_countWith.lk M y).isSome) ∧ ∀ y v, impl_countWith.lk M y = some v → d.atKey (.int .i64 y) (.lit (.int .i64 0)) = .lit (.int .i64 v)
theorem impl_countWith.MD_nil : impl_countWith.MD [] (.map []) := ⟨Go.Maps.isMap_empty, fun _ => rfl, fun _ _ h => by simp [impl_countWith.lk] at h⟩
theorem impl_countWith.MD_put {M : List (Int × Int)} {d : DataW Unit} (h : impl_countWith.MD M d) (x v : Int) : impl_countWith.MD ((x, v) :: M) (d.put (.int .i64 x) (.lit (.int .i64 v))) := by
 have hk : Go.WideAt.IsKeyLit (Lit.int .i64 x) := by trivial
 refine ⟨h.1.put _ _, ?_, ?_⟩
 ·intro y
  by_cases e : x = y
  ·subst e
   rw [Go.Maps.has_put_same h.1 hk]
   simp [impl_countWith.lk]
  ·rw [Go.Maps.has_put_other (by simpa using fun e2 => e e2.symm), h.2.1]
   simp [impl_countWith.lk, e]
 ·intro y u hy
  by_cases e : x = y
  ·subst e
   rw [Go.Maps.atKey_put_same h.1 hk]
   simp only [impl_countWith.lk, if_true, Option.some.injEq] at hy
   rw [hy]
  ·rw [Go.Maps.atKey_put_other (by simpa using fun e2 => e e2.symm)]
   simp only [impl_countWith.lk, if_neg e] at hy
   exact h.2.2 y u hy
theorem impl_countWith.wf {x : Int} (h : impl_countWith.rng x) : (Lit.int .i64 x).wf = true := by
 unfold impl_countWith.rng at h
 simp [Lit.wf, IntKind.min, IntKind.max, IntKind.signed, IntKind.bits]; omega
theorem impl_countWith.gr {w w1 w2 : World} {row : Option Nat} (h : w.grownBy w1 row) (k : w1.grownBy w2 row) : w.grownBy w2 row :=
 ⟨k.os.trans h.os, k.tape.trans h.tape, k.output.trans h.output, Nat.le_trans h.size k.size, fun i hi hr => (k.block i (Nat.lt_of_lt_of_le hi h.size) hr).trans (h.block i hi hr)⟩
theorem impl_countWith.gr0 (w : World) (row : Option Nat) : w.grownBy w row := ⟨rfl, rfl, rfl, Nat.le_refl _, fun _ _ _ => rfl⟩
def impl_countWith.Is (w : World) (bm : Nat) (M : List (Int × Int)) : Prop := ∃ d : DataW Unit, w.ownsMap Try.prog 3 (plainElem (H := Unit) Try.prog 3) bm M.length d ∧ impl_countWith.MD M d
set_option maxHeartbeats 8000000 in
set_option maxRecDepth 100000 in
theorem impl_countWith.calls_ (b : Int) : ∀ (k : Nat) (n : Int) (M M' : List (Int × Int)) (r : Int) (bm : Nat) (w : World), impl_countWith.g b k false n 0 0 M = some (r, M') → impl_countWith.Is w bm M →
  Calls Try.prog 45 #[.int .i64 n, .int .i64 b, .map (some bm)] w fun e w' => e = .returned (.int .i64 r) ∧ impl_countWith.Is w' bm M' ∧ w.grownBy w' (some bm) := by
 intro k
 induction k using Nat.strongRecOn with
 | _ k ih =>
 intro n M M' r bm w h hI
 cases k with
 | zero => exact absurd h (by simp [impl_countWith.g])
 | succ k =>
 have IH := Aside0.mk ih
 clear ih
 simp only [impl_countWith.g] at h
 by_cases q1 : n = 1
 ·rw [if_pos q1] at h
  obtain ⟨rfl, rfl⟩ := Prod.mk.inj (Option.some.inj h)
  have b1 : (n == 1) = true := beq_iff_eq.mpr q1
  clear h q1
  go_enter Try.func45, Try.ntmps45
  go_wp2
  go_ret
  exact ⟨rfl, hI, impl_countWith.gr0 _ _⟩
 ·rw [if_neg q1] at h
  have b1 : (n == 1) = false := beq_eq_false_iff_ne.mpr q1
  clear q1
  by_cases q2 : impl_countWith.rng n
  case neg => rw [if_neg q2] at h; exact absurd h (by simp)
  case pos =>
  rw [if_pos q2] at h
  have hkey : keyOf Try.prog 3 (.int .i64 n) = some (.int .i64 n) := Go.Maps.keyOf_int_mk Try.underlying3 (impl_countWith.wf q2)
  obtain ⟨d0, hmap, hmd⟩ := hI
  have hhas := hmd.2.1 n
  cases hlk : impl_countWith.lk M n with
  | some v =>
   rw [hlk] at h hhas
   obtain ⟨rfl, rfl⟩ := Prod.mk.inj (Option.some.inj h)
   have hhas : Go.Maps.has d0 (.int .i64 n) = true := hhas
   have hat0 := hmd.2.2 n v hlk
   clear h hlk
   go_enter Try.func45, Try.ntmps45
   go_wp2_with (at_lookup; refine wpList_lookup_own_ok_int _ rfl _ _ 49 rfl 3 3 .i64 impl_countWith.ml impl_countWith.utm Try.underlying3 (impl_countWith.mz _) bm M.length d0 rfl hmap _ _ rfl hkey ?_; rw [hhas]; intro cc hat hwc; rw [hat0] at hat; have hcc : v = cc := (by simpa using hat); clear hat hwc; subst hcc)
   go_ret
   exact ⟨rfl, ⟨d0, hmap, hmd⟩, impl_countWith.gr0 _ _⟩
  | none =>
   rw [hlk] at h hhas
   have hhas : Go.Maps.has d0 (.int .i64 n) = false := hhas
   have H := Aside0.mk h
   have HI := Aside0.mk (show impl_countWith.Is w bm M from ⟨d0, hmap, hmd⟩)
   have HG := Aside0.mk (impl_countWith.gr0 w (some bm))
   clear h hlk
   go_enter Try.func45, Try.ntmps45
   go_wp2_with (at_lookup; refine wpList_lookup_own_ok_int _ rfl _ _ 49 rfl 3 3 .i64 impl_countWith.ml impl_countWith.utm Try.underlying3 (impl_countWith.mz _) bm M.length d0 rfl hmap _ _ rfl hkey ?_; rw [hhas]; intro cc hat hwc; clear hat hwc)
   clear hmap hmd hhas
   go_loopg [9, 10] k (fun kq v9 v10 w' => ∃ (d out : Int) (M1 : List (Int × Int)), v9 = .int .i64 out ∧ v10 = .int .i64 d ∧ Aside0 (impl_countWith.g b kq true n d out M1 = some (r, M')) ∧ Aside0 (kq ≤ k) ∧ Aside0 (impl_countWith.Is w' bm M1) ∧ Aside0 (w.grownBy w' (some bm)))
   case atStart => exact ⟨2, 0, M, rfl, rfl, H, ⟨Nat.le_refl _⟩, HI, HG⟩
   case round =>
    clear H HI HG b1
    obtain ⟨d, out, M1, rfl, rfl, HA, HK1, HI, HG⟩ := hrel
    cases gk with
    | zero => exact absurd HA.out (by simp [impl_countWith.g])
    | succ k1 =>
     have H1 := HA.out
     clear HA
     simp only [impl_countWith.g] at H1
     by_cases p1 : d < b
     ·rw [if_pos p1] at H1
      have p1d : decide (d < b) = true := decide_eq_true p1
      clear p1
      by_cases p2 : d = 0
      ·rw [if_pos p2] at H1; exact absurd H1 (by simp)
      ·rw [if_neg p2] at H1
       by_cases p3 : Int.tmod n d = 0
       ·rw [if_pos p3] at H1
        have p3b : (Int.tmod n d == 0) = true := beq_iff_eq.mpr p3
        have p3c : (Int.tmod n d != 0) = false := by rw [bne, p3b]; rfl
        obtain ⟨⟨kk, M2⟩, hu, H2⟩ := Option.bind_eq_some_iff.1 H1
        have hc := IH.out k1 (by have := HK1.out; omega) _ _ _ _ bm wr hu HI.out
        change Calls Try.prog 45 _ _ _ at hc
        have H' := Aside0.mk H2
        clear hu H1 H2 p3
        go_wp2_with (go_at_call 45; refine hc.mono ?_; rintro e w2 ⟨rfl, hi2, hg2⟩; have HI2 := Aside0.mk hi2; have HG2 := Aside0.mk (impl_countWith.gr HG.out hg2); clear hi2 hg2 HI HG)
        all_goals (
         go_roundg k1
         case measure => have := HK1.out; omega
         case rel => exact ⟨_, _, M2, rfl, rfl, H', ⟨by have := HK1.out; omega⟩, HI2, HG2⟩)
       ·rw [if_neg p3] at H1
        have p3b : (Int.tmod n d == 0) = false := beq_eq_false_iff_ne.mpr p3
        have p3c : (Int.tmod n d != 0) = true := by rw [bne, p3b]; rfl
        have H' := Aside0.mk H1
        clear H1 p3
        go_wp2
        go_roundg k1
        case measure => have := HK1.out; omega
        case rel => exact ⟨_, _, M1, rfl, rfl, H', ⟨by have := HK1.out; omega⟩, HI, HG⟩
     ·rw [if_neg p1] at H1
      have p1d : decide (d < b) = false := decide_eq_false p1
      clear p1
      by_cases p4 : impl_countWith.rng out
      ·rw [if_pos p4] at H1
       by_cases p5 : M1.length < 1000000000000
       ·rw [if_pos p5] at H1
        obtain ⟨rfl, rfl⟩ := Prod.mk.inj (Option.some.inj H1)
        obtain ⟨d1, hmap, hmd⟩ := HI.out
        have hput := impl_countWith.MD_put hmd n out
        have hlw := impl_countWith.wf p4
        clear H1 HI
        go_wp2_with (at_mapUpdate; refine wpList_mapUpdate_own _ rfl _ _ _ 49 rfl 3 3 impl_countWith.ml impl_countWith.utm (plainElem (H := Unit) Try.prog 3) bm M1.length _ rfl hmap (by unfold maxLen; omega) _ _ _ rfl rfl hkey _ [] (plainElem_int Try.underlying3 hlw) ?_; intro w1 hown1 hgrow1)
        go_ret
        exact ⟨rfl, ⟨_, hown1, hput⟩, impl_countWith.gr HG.out hgrow1⟩
       ·rw [if_neg p5] at H1; exact absurd H1 (by simp)
      ·rw [if_neg p4] at H1; exact absurd H1 (by simp)
def impl_CountWithProduct.f (k : Nat) (a0 a1 : Int) : Option (Int × Bool) :=
 (impl_in.f a0 2 1000000000000).bind fun t => if t = true then (impl_isBase.f a1).bind fun u => if u = true then (impl_isSmooth.f k a0 a1).bind fun s => if s = true then (impl_countWith.g a1 k false a0 0 0 []).bind fun p => some (p.1, true) else some (0, true) else some (0, false) else some (0, false)
theorem impl_CountWithProduct.mono : ∀ a0 a1 k, LeO (impl_CountWithProduct.f k a0 a1) (impl_CountWithProduct.f (k + 1) a0 a1) := by
 intro a0 a1 k
 unfold impl_CountWithProduct.f
 exact LeO.bind (LeO.refl _) (fun _ => LeO.ite (LeO.bind (LeO.refl _) (fun _ => LeO.ite (LeO.bind (impl_isSmooth.mono _ _ _) (fun _ => LeO.ite (LeO.bind (impl_countWith.g_mono _ _ _ _ _ _ _) (fun _ => LeO.refl _)) (LeO.refl _))) (LeO.refl _))) (LeO.refl _))
set_option maxHeartbeats 4000000 in
set_option maxRecDepth 100000 in
theorem impl_CountWithProduct.calls (k : Nat) (a0 a1 : Int) (r1 : Int) (r2 : Bool) (w : World) (h : impl_CountWithProduct.f k a0 a1 = some (r1, r2)) :
  Calls Try.prog 20 #[.int .i64 a0, .int .i64 a1] w fun e w' => e = .returned (.tuple #[.int .i64 r1, .bool r2]) ∧ Below w.heap.size w w' := by
 unfold impl_CountWithProduct.f at h
 obtain ⟨t, ht, h⟩ := Option.bind_eq_some_iff.1 h
 have h1 := fun W => impl_in.calls a0 2 1000000000000 t W ht
 change ∀ W, Calls Try.prog 37 _ _ _ at h1
 clear ht
 have HB := Aside0.mk (Below.refl w.heap.size w)
 cases t with
 | false =>
  rw [if_neg (by simp)] at h
  obtain ⟨rfl, rfl⟩ := Prod.mk.inj (Option.some.inj h)
  go_enter Try.func20, Try.ntmps20
  go_wp2_with (go_at_call 37; refine (h1 _).mono ?_; rintro e w' ⟨rfl, ⟨nd, rfl⟩⟩)
  go_ret2
  exact ⟨rfl, pw_below_drewN HB.out _⟩
 | true =>
  rw [if_pos rfl] at h
  obtain ⟨u, hu, h⟩ := Option.bind_eq_some_iff.1 h
  have h2 := fun W => impl_isBase.calls a1 u W hu
  change ∀ W, Calls Try.prog 38 _ _ _ at h2
  clear hu
  cases u with
  | false =>
   rw [if_neg (by simp)] at h
   obtain ⟨rfl, rfl⟩ := Prod.mk.inj (Option.some.inj h)
   go_enter Try.func20, Try.ntmps20
   go_wp2_with (first | (go_at_call 37; refine (h1 _).mono ?_; rintro e w' ⟨rfl, ⟨nd, rfl⟩⟩) | (go_at_call 38; refine (h2 _).mono ?_; rintro e w' ⟨rfl, ⟨nd2, rfl⟩⟩))
   go_ret2
   exact ⟨rfl, pw_below_drewN HB.out _⟩
  | true =>
   rw [if_pos rfl] at h
   obtain ⟨s, hs, h⟩ := Option.bind_eq_some_iff.1 h
   have h3 := fun W => impl_isSmooth.calls k a0 a1 s W hs
   change ∀ W, Calls Try.prog 39 _ _ _ at h3
   clear hs
   cases s with
   | false =>
    rw [if_neg (by simp)] at h
    obtain ⟨rfl, rfl⟩ := Prod.mk.inj (Option.some.inj h)
    go_enter Try.func20, Try.ntmps20
    go_wp2_with (first | (go_at_call 37; refine (h1 _).mono ?_; rintro e w' ⟨rfl, ⟨nd, rfl⟩⟩) | (go_at_call 38; refine (h2 _).mono ?_; rintro e w' ⟨rfl, ⟨nd2, rfl⟩⟩) | (go_at_call 39; refine (h3 _).mono ?_; rintro e w' ⟨rfl, ⟨nd3, rfl⟩⟩))
    go_ret2
    exact ⟨rfl, pw_below_drewN HB.out _⟩
   | true =>
    rw [if_pos rfl] at h
    obtain ⟨⟨p, M'⟩, hp, h⟩ := Option.bind_eq_some_iff.1 h
    obtain ⟨rfl, rfl⟩ := Prod.mk.inj (Option.some.inj h)
    have hmm := @Go.RowKit.run_makeMap Try.prog
    have h4 := fun W bm hI => impl_countWith.calls_ a1 k a0 [] M' p bm W hp hI
    change ∀ W bm hI, Calls Try.prog 45 _ _ _ at h4
    have hmade : ∀ N, ((w.drewN N).alloc (Obj.map #[] 0)).ownsMap Try.prog 3 (plainElem (H := Unit) Try.prog 3) w.heap.size 0 (.map []) := fun N => World.ownsMap_made (w.drewN N) Try.prog 3 (plainElem (H := Unit) Try.prog 3)
    clear hp h
    go_enter Try.func20, Try.ntmps20
    go_wp2_with (first | (go_at_call 37; refine (h1 _).mono ?_; rintro e w' ⟨rfl, ⟨nd, rfl⟩⟩) | (go_at_call 38; refine (h2 _).mono ?_; rintro e w' ⟨rfl, ⟨nd2, rfl⟩⟩) | (go_at_call 39; refine (h3 _).mono ?_; rintro e w' ⟨rfl, ⟨nd3, rfl⟩⟩) | (go_at_call 45; refine (h4 _ w.heap.size ⟨_, hmade _, impl_countWith.MD_nil⟩).mono ?_; rintro e w' ⟨rfl, _, hg⟩))
    go_ret2
    exact ⟨rfl, (below_alloc (pw_below_drewN HB.out _) (Obj.map #[] 0)).grown hg (by simp) (fun k hk => by cases hk; exact Nat.le_refl _)⟩

/-! ### spec_prCount: function 46 -/
mutual
def spec_prCount.l0 : Nat → Int → Int → Int → Int → Option (Int)
 | 0, _, _, _, _ => none
 | k + 1, x0, x1, x5, x6 => if x6 < x1 then (if x6 = 0 then (none) else (if (Int.tmod x0 x6) = 0 then ((spec_prCount.f k (wrap64 (Int.tdiv x0 x6)) x1).bind fun t305 => (spec_prCount.l0 k x0 x1 (wrap64 (x5 + t305)) (wrap64 (x6 + 1)))) else (spec_prCount.l0 k x0 x1 x5 (wrap64 (x6 + 1))))) else (some x5)
def spec_prCount.f : Nat → Int → Int → Option (Int)
 | 0, _, _ => none
 | k + 1, a0, a1 => if a0 = 1 then (some 1) else (spec_prCount.l0 k a0 a1 0 2)
end
theorem spec_prCount.mono_l : ∀ k, (∀ y0 y1, LeO (spec_prCount.f k y0 y1) (spec_prCount.f (k + 1) y0 y1)) ∧ (∀ y0 y1 y2 y3, LeO (spec_prCount.l0 k y0 y1 y2 y3) (spec_prCount.l0 (k + 1) y0 y1 y2 y3))
 | 0 => ⟨fun _ _ r h => by simp [spec_prCount.f] at h, fun _ _ _ _ r h => by simp [spec_prCount.l0] at h⟩
 | k + 1 => by
  obtain ⟨ih0, ih1⟩ := spec_prCount.mono_l k
  refine ⟨?_, ?_⟩
  ·intro y0 y1
   unfold spec_prCount.f
   repeat' first
   | (with_reducible exact ih0 _ _)
   | (with_reducible exact ih1 _ _ _ _)
   | (with_reducible exact LeO.refl _)
   | (with_reducible exact LeO.none _)
   | (with_reducible refine LeO.ite ?_ ?_)
   | (with_reducible refine LeO.bind ?_ (fun _ => ?_))
   | exact ih0 _ _
   | exact ih1 _ _ _ _
   | exact LeO.none _
   | refine LeO.ite ?_ ?_
   | refine LeO.bind ?_ (fun _ => ?_)
  ·intro y0 y1 y2 y3
   unfold spec_prCount.l0
   repeat' first
   | (with_reducible exact ih0 _ _)
   | (with_reducible exact ih1 _ _ _ _)
   | (with_reducible exact LeO.refl _)
   | (with_reducible exact LeO.none _)
   | (with_reducible refine LeO.ite ?_ ?_)
   | (with_reducible refine LeO.bind ?_ (fun _ => ?_))
   | exact ih0 _ _
   | exact ih1 _ _ _ _
   | exact LeO.none _
   | refine LeO.ite ?_ ?_
   | refine LeO.bind ?_ (fun _ => ?_)
theorem spec_prCount.mono : ∀ a0 a1 k, LeO (spec_prCount.f k a0 a1) (spec_prCount.f (k + 1) a0 a1) := by
 intro a0 a1 k
 obtain ⟨ih0, ih1⟩ := spec_prCount.mono_l k
 exact ih0 a0 a1
set_option maxHeartbeats 8000000 in
set_option maxRecDepth 100000 in
theorem spec_prCount.calls (k : Nat) : ∀ (a0 : Int) (a1 : Int) (r : Int) (w : World) (h : spec_prCount.f k a0 a1 = some r),
  Calls Try.prog 46 #[.int .i64 a0, .int .i64 a1] w fun e w' => e = .returned (.int .i64 r) ∧ Drawn0 w w' := by
 induction k using Nat.strongRecOn with
 | _ k ih =>
 intro a0 a1 r w h
 cases k with
 | zero => exact absurd h (by simp [spec_prCount.f])
 | succ k =>
 simp only [spec_prCount.f] at h
 have H : (if a0 = 1 then (some 1) else (spec_prCount.l0 k a0 a1 0 2)) = some r := h
 clear h
 by_cases c3 : a0 = 1
 ·rw [if_pos c3] at H
  have c3b0 : (a0 == 1) = true := beq_iff_eq.mpr c3
  have c3b1 : (a0 != 1) = false := bne_eq_false_iff_eq.mpr c3
  clear c3
  obtain rfl := Option.some.inj H
  go_enter Try.func46, Try.ntmps46
  go_wp2
  go_ret
  exact ⟨by first | rfl | (simp; done) | (simp [*]; done), by repeat (first | exact Drawn0.refl _ | apply Drawn0.step)⟩
 ·rw [if_neg c3] at H
  have c3b0 : (a0 == 1) = false := beq_eq_false_iff_ne.mpr c3
  have c3b1 : (a0 != 1) = true := bne_iff_ne.mpr c3
  have H' := Aside0.mk H
  clear H
  go_enter Try.func46, Try.ntmps46
  go_wp2
  go_loopg [5, 6] k (fun kq v5 v6 w' => ∃ (x5_1 : Int) (x6_1 : Int), v5 = .int .i64 x5_1 ∧ v6 = .int .i64 x6_1 ∧ Aside0 (spec_prCount.l0 kq a0 a1 x5_1 x6_1 = some r) ∧ Aside0 (kq ≤ k) ∧ Drawn0 w w')
  case atStart => exact ⟨(0), (2), (by first | rfl | (simp; done) | (simp [*]; done)), (by first | rfl | (simp; done) | (simp [*]; done)), H', ⟨Nat.le_refl _⟩, by repeat (first | exact Drawn0.refl _ | apply Drawn0.step)⟩
  case round =>
   clear H'
   try clear p2
   try clear c3
   try clear c3b0
   try clear c3b1
   obtain ⟨x5_1, x6_1, rfl, rfl, HA, HK1, ⟨m1, rfl⟩⟩ := hrel
   cases gk with
   | zero => exact absurd HA.out (by simp [spec_prCount.l0])
   | succ k1 =>
    have H := HA.out
    clear HA
    simp only [spec_prCount.l0] at H
    by_cases c4 : x6_1 < a1
    ·rw [if_pos c4] at H
     have c4b0 : decide (x6_1 < a1) = true := decide_eq_true c4
     clear c4
     by_cases c5 : x6_1 = 0
     ·rw [if_pos c5] at H
      exact absurd H (by simp)
     ·rw [if_neg c5] at H
      have c5b0 : (x6_1 == 0) = false := beq_eq_false_iff_ne.mpr c5
      have c5b1 : (x6_1 != 0) = true := bne_iff_ne.mpr c5
      by_cases c6 : (Int.tmod a0 x6_1) = 0
      ·rw [if_pos c6] at H
       have c6b0 : ((Int.tmod a0 x6_1) == 0) = true := beq_iff_eq.mpr c6
       have c6b1 : ((Int.tmod a0 x6_1) != 0) = false := bne_eq_false_iff_eq.mpr c6
       clear c6
       replace H := Option.bind_eq_some_iff.mp H
       obtain ⟨t305, A70, H⟩ := H
       replace H : (spec_prCount.l0 k1 a0 a1 (wrap64 (x5_1 + t305)) (wrap64 (x6_1 + 1))) = some r := H
       have A7 := Aside0.mk A70
       clear A70
       have H' := Aside0.mk H
       clear H
       go_wp2_with (first | ((with_reducible refine gate_callee (f := 46) rfl ?_); refine goesL_ (some 23) rfl rfl Try.func46 (by kernel_rfl) rfl #[.int .i64 (wrap64 (Int.tdiv a0 x6_1)), .int .i64 a1] rfl (by (try simp only [List.map_toArray, List.map_cons, List.map_nil]); first | done | rfl | (simp only [List.length_drop, List.length_take]; rfl)) ?_; (with_reducible refine (ih k1 (by have := HK1.out; omega) (wrap64 (Int.tdiv a0 x6_1)) a1 t305 _ A7.out).mono ?_); rintro e w' ⟨rfl, ⟨nd, rfl⟩⟩; refine ⟨_, rfl, ?_⟩))
       go_roundg k1
       case measure => have := HK1.out; omega
       case rel => exact ⟨(wrap64 (x5_1 + t305)), (wrap64 (x6_1 + 1)), (by first | rfl | (simp; done) | (simp [*]; done)), (by first | rfl | (simp; done) | (simp [*]; done)), H', ⟨by have := HK1.out; omega⟩, by repeat (first | exact Drawn0.refl _ | apply Drawn0.step)⟩
      ·rw [if_neg c6] at H
       have c6b0 : ((Int.tmod a0 x6_1) == 0) = false := beq_eq_false_iff_ne.mpr c6
       have c6b1 : ((Int.tmod a0 x6_1) != 0) = true := bne_iff_ne.mpr c6
       have H' := Aside0.mk H
       clear H
       go_wp2
       go_roundg k1
       case measure => have := HK1.out; omega
       case rel => exact ⟨(x5_1), (wrap64 (x6_1 + 1)), (by first | rfl | (simp; done) | (simp [*]; done)), (by first | rfl | (simp; done) | (simp [*]; done)), H', ⟨by have := HK1.out; omega⟩, by repeat (first | exact Drawn0.refl _ | apply Drawn0.step)⟩
    ·rw [if_neg c4] at H
     have c4b0 : decide (x6_1 < a1) = false := decide_eq_false c4
     clear c4
     obtain rfl := Option.some.inj H
     go_wp2
     go_ret
     exact ⟨by first | rfl | (simp; done) | (simp [*]; done), by repeat (first | exact Drawn0.refl _ | apply Drawn0.step)⟩

/-! ### spec_l1Own: function 65 -/
def spec_l1Own.f (l0 : List Int) : Option (List Int) := (some (([] : List Int) : List Int)).bind fun y306 => (if y306.length + l0.length < 17592186044416 then (some (y306 ++ l0)) else (none))
set_option maxHeartbeats 8000000 in
set_option maxRecDepth 100000 in
theorem spec_l1Own.calls (A0 : Option Addr) (c0 : Nat) (l0 : List Int) (r : List Int) (w : World) (hr0 : Kd.C (Kd.int .i64) w A0 l0.length l0) (hc0 : l0.length ≤ c0) (h : spec_l1Own.f l0 = some r) :
  Calls Try.prog 65 #[.slice A0 l0.length c0] w fun e w' => ∃ v0_ : Value, e = .returned (v0_) ∧ Kd.R (Kd.int .i64) 3 w' w.heap.size (fun _ => True) v0_ r ∧ Below w.heap.size w w' := by
 have HR0 := Aside0.mk hr0
 have HC0 := Aside0.mk hc0
 clear hr0 hc0
 have HB := Aside0.mk (Below.refl w.heap.size w)
 have H : ((some (([] : List Int) : List Int)).bind fun y306 => (if y306.length + l0.length < 17592186044416 then (some (y306 ++ l0)) else (none))) = some r := h
 clear h
 obtain ⟨y306, hy306⟩ : ∃ y_ : List Int, y_ = (([] : List Int)) := ⟨_, rfl⟩
 replace H : (if y306.length + l0.length < 17592186044416 then (some (y306 ++ l0)) else (none)) = some r := by first | (rw [hy306]; with_reducible exact H) | (have H2_ := (Option.bind_some _ _).symm.trans H; rw [hy306]; with_reducible exact H2_) | (have H2_ := (Option.bind_some _ _).symm.trans H; with_reducible exact H2_) | with_reducible exact H | (rw [hy306]; exact H) | exact H
 have Ny306 := Aside0.mk hy306
 clear hy306
 by_cases c2 : y306.length + l0.length < 17592186044416
 ·rw [if_pos c2] at H
  have LMc2 := Aside0.mk c2
  clear c2
  obtain ⟨y309, hy309⟩ : ∃ y_ : List Int, y_ = (y306 ++ l0) := ⟨_, rfl⟩
  replace H : (some y309) = some r := by first | (rw [hy309]; with_reducible exact H) | (have H2_ := (Option.bind_some _ _).symm.trans H; rw [hy309]; with_reducible exact H2_) | (have H2_ := (Option.bind_some _ _).symm.trans H; with_reducible exact H2_) | with_reducible exact H | (rw [hy309]; exact H) | exact H
  have Ny309 := Aside0.mk hy309
  clear hy309
  obtain rfl := Option.some.inj H
  go_enter Try.func65, Try.ntmps65
  go_wp2_with (first | ((with_reducible refine gate_dst (N := 3) rfl ?_); refine Kd.R_lit (Kd.int .i64) _ 3 ?hg (N := 3) ?hd (xs := ([] : List Int)) (inner := []) (ok := fun _ => True) (okp := fun _ => True) ?hr ?hp (fun _ hk => hk) trivial (Below.refl _ _) (Nat.le_refl _) (by simp) ?_; (case hd => rfl); (case hg => rfl); (case hr => first | (go_simp; done) | (go_simp; rfl)); (case hp => exact (Reps.none _ _)); intro v307 w3 ho4 hb hg_ hnew_; clear hg_ hnew_; (first | rw [← Ny306.out] at ho4 | (simp only [Int.reduceToNat] at ho4; rw [← Ny306.out] at ho4)); have n0_ := Aside0.mk (Kd.R_lower ho4 (below_size (by repeat (first | (with_reducible first | exact HB.out | apply below_alloc | apply pw_below_drewN | apply below_drew1) | exact HB.out)))); have n1_ := Aside0.mk (below_step (by repeat (first | (with_reducible first | exact HB.out | apply below_alloc | apply pw_below_drewN | apply below_drew1) | exact HB.out)) hb); clear HB; have HO308 := n0_; have HB := n1_; clear n0_ n1_; clear hb ho4) | ((with_reducible refine gate_builtin (b := .append) (xs := #[.tmp 3, .tmp 4]) rfl ?_); at_builtin; refine Kd.R_append_rows (Kd.int .i64) (w0 := w) w.heap.size rfl (.tmp 3) (.tmp 4) 26 3 (.int .i64 0) 8 rfl Try.underlying26 info3 rfl (by decide) (by omega) v307 y306 l0 _ _ _ (fun _ => True) (fun _ => False) rfl rfl ?aO ?aR (fun _ _ h => h) (fun _ h => h.elim) ?aF ?aB ?aS ?aL ?_; (case aR => repeat (first | exact (Kd.C_below HR0.out HB.out) | (with_reducible refine Kd.C_alloc ?_ _) | (with_reducible refine Kd.C_drewN ?_ _) | (with_reducible refine Kd.C_drew ?_))); (case aB => exact (by repeat (first | (with_reducible first | exact HB.out | apply below_alloc | apply pw_below_drewN | apply below_drew1) | exact HB.out))); (case aF => exact (fun _ _ => trivial)); (case aO => exact (by (with_reducible repeat (first | apply Kd.R_alloc | apply Kd.R_drewN | apply Kd.R_drew)); exact HO308.out)); (case aS => exact (below_size (by repeat (first | (with_reducible first | exact HB.out | apply below_alloc | apply pw_below_drewN | apply below_drew1) | exact HB.out)))); (case aL => have := LMc2.out; omega); intro v310 w5 ho hb hg hat; rw [← Ny309.out] at ho; have n0_ := Aside0.mk (hb); have n1_ := Aside0.mk (ho); clear HB; clear HO308; have HB := n0_; have HO311 := n1_; clear n0_ n1_; clear ho hb hg hat))
  go_ret
  exact ⟨_, by first | rfl | (simp [errW_none, errW_some] <;> rfl) | (simp [*, errW_none, errW_some] <;> rfl), by (with_reducible repeat (first | apply Kd.R_alloc | apply Kd.R_drewN | apply Kd.R_drew)); exact HO311.out, by repeat (first | (with_reducible first | exact HB.out | apply below_alloc | apply pw_below_drewN | apply below_drew1) | exact HB.out)⟩
 ·rw [if_neg c2] at H
  exact absurd H (by simp)

/-! ### slices_nextPowerOfTwo: function 84 -/
def slices_nextPowerOfTwo.f (l : List Int) (p x : Int) : Option (List Int) := if (0 ≤ p ∧ p ≤ l.length) ∧ l.length < 1000000000000 then some (l.take p.toNat ++ x :: l.drop p.toNat) else none
theorem slices_nextPowerOfTwo.parts {l r : List Int} {p x : Int} (h : slices_nextPowerOfTwo.f l p x = some r) : 0 ≤ p ∧ p ≤ l.length ∧ l.length < 1000000000000 ∧ r = l.take p.toNat ++ [x] ++ l.drop p.toNat ∧ spec_l1Own.f (l.take p.toNat) = some (l.take p.toNat) := by
 unfold slices_nextPowerOfTwo.f at h
 by_cases c : (0 ≤ p ∧ p ≤ l.length) ∧ l.length < 1000000000000
 ·rw [if_pos c] at h
  refine ⟨c.1.1, c.1.2, c.2, by rw [← Option.some.inj h]; simp, ?_⟩
  unfold spec_l1Own.f
  simp only [Option.bind_some, List.nil_append]
  exact if_pos (by simp only [List.length_take, List.length_nil]; omega)
 ·rw [if_neg c] at h
  exact absurd h (by simp)
theorem slices_nextPowerOfTwo.app (W : World) (base : Nat) (l m : List Int) (A : Option Addr) (c : Nat) (a : Addr) (cm : Nat) (hu : Kd.R (Kd.int .i64) 3 W base (fun _ => True) (.slice A l.length c) l) (hm : ∀ (j : Nat) (x : Int), m[j]? = some x → W.cell? (a.add j) = some (.int .i64 x)) (hbase : base ≤ W.heap.size) (hl : l.length + m.length < 1000000000002) :
  ∃ v' w', (Builtin.append_ #[26, 26] 26 #[.slice A l.length c, .slice (some a) m.length cm]).run Try.prog W = .ok v' w' ∧ Kd.R (Kd.int .i64) 3 w' base (fun _ => True) v' (l ++ m) ∧ Below base W w' := by
 obtain ⟨i, hi, hz⟩ := Option.map_eq_some_iff.1 info3
 obtain ⟨hz1, hz2, hz3⟩ : i.zero = some (.int .i64 0) ∧ i.size = 1 ∧ i.bytes = 8 := by simpa [Prod.mk.injEq] using hz
 have hown := Kd.own_of_R hu
 have hnews : ∀ j x, (encs (Value.int .i64) m)[j]? = some x → W.cell? (a.add j) = some x := by
  intro j x hj
  unfold encs at hj
  rw [List.getElem?_map] at hj
  obtain ⟨y, hy, rfl⟩ := Option.map_eq_some_iff.1 hj
  exact hm j y hy
 obtain ⟨v', w', hrun, r1, r2, _⟩ := run_append_own (P := Try.prog) W base 26 26 3 i (.int .i64 0) 1 8 Try.underlying26 hi hz1 hz2 hz3 rfl (by decide) _ _ _ hown a m.length cm (encs (Value.int .i64) m) (by simp [encs]) hnews (by intro u hu; unfold encs at hu; obtain ⟨y, _, rfl⟩ := List.mem_map.1 hu; rfl) (by simp only [maxLen]; omega) (by omega) hbase
 refine ⟨v', w', hrun, Kd.R_of_own (enc := Value.int .i64) (h1 := fun _ => rfl) ?_ (fun _ _ => trivial), (Below.refl base W).grown r2 hbase (fun k hk => Kd.R_base hu k hk)⟩
 rw [List.length_append]
 have e : encs (Value.int .i64) (l ++ m) = encs (Value.int .i64) l ++ encs (Value.int .i64) m := by simp [encs]
 rw [e]
 exact r1
theorem slices_nextPowerOfTwo.app_run {P : Program} {ev : Operand → Value} {o : Oper} (s x : Operand) (t : TypeId) {v1 v2 v' : Value} {W w' : World} (hop : o.op = .call { callee := .builtin .append, args := #[s, x], argTypes := #[t, t] }) (hs : ev s = v1) (hx : ev x = v2)
  (hrun : (Builtin.append_ #[t, t] o.type #[v1, v2]).run P W = .ok v' w') : (execOp ev o).run P W = .ok (.value v') w' := by
 simp [execOp, hop, resolve, invoke, builtin, hs, hx, hrun, Result.andThen]
/-- What is read behind a cut. -/
theorem slices_nextPowerOfTwo.tail {W : World} {a : Addr} {l : List Int} {p c : Nat} (h : Kd.C (Kd.int .i64) W (some a) l.length l) (hp : p ≤ l.length) (hc : l.length ≤ c) :
  ∃ a2 : Addr, (if c = p then some a else (some a).map (·.add (p * 1))) = some a2 ∧ ∀ (j : Nat) (x : Int), (l.drop p)[j]? = some x → W.cell? (a2.add j) = some (.int .i64 x) := by
 have h2 := Kd.C_drop h hp hc
 refine ⟨if c = p then a else a.add (p * 1), by by_cases q : c = p <;> simp [q], fun j x hj => ?_⟩
 have hj2 : j < (l.drop p).length := (List.getElem?_eq_some_iff.1 hj).1
 obtain ⟨ad, e, hx⟩ := Kd.at_int h2 (j : Int) (by omega) (by omega)
 have e2 : (if c = p then a else a.add (p * 1)) = ad := by
  by_cases q : c = p
  ·rw [if_pos q] at e ⊢
   exact Option.some.inj e
  ·rw [if_neg q] at e ⊢
   exact Option.some.inj e
 rw [e2]
 have e3 : rd (l.drop p) (j : Int) = x := by
  unfold rd
  rw [Int.toNat_natCast, List.getD_eq_getElem?_getD, hj]
  rfl
 rw [← e3]
 simpa using hx

end Go.Proofs.Ytjkhgigmhmghbaa.PFnProductRuns
