-- out of the kit's print, turned by wip/own_print.py
import Derived.Test.YtiedpgebceeplaaPFnSelfTellingListsx0
import Derived.Test.YtiedpgebceeplaaPFnSelfTellingListsx1
namespace Go.Proofs.Ytiedpgebceeplaa.PFnSelfTellingLists
open Go.RowKit Go.Proofs.YtiedpgebceeplaaW.PrintWords Go.Proofs.YtiedpgebceeplaaW.PrintLast Go.Proofs.YtiedpgebceeplaaW.PrintMore
attribute [local go_sem] max2_int min2_int max_two min_two max_three min_three max_four min_four   -- for this text's walks alone
set_option linter.unusedVariables false
set_option linter.unusedSimpArgs false

/-! ### impl_SelfTelling: function 6 -/
def impl_SelfTelling.on (n : Int) : Nat → Bool → List Int → Int → Int → List (List Int) → Option (List (List Int))
  | 0, _, _, _, _, _ => none
  | k + 1, false, l, left, _, L =>
    if (l.length : Int) = n then
      if left = 0 then
        (impl_tellCounts.f k l).bind fun t => (slices_Equal_int_int.f k t l).bind fun e =>
          if e = true then (if L.length < 1000000000000 then (slices_Clone_int_int.f l).bind fun c => some (L ++ [c]) else none) else some L
      else some L
    else impl_SelfTelling.on n k true l left 0 L
  | k + 1, true, l, left, d, L =>
    if d ≤ left then
      if l.length < 1000000000000 then
        (impl_SelfTelling.on n k false (l ++ [d]) (wrap64 (left - d)) 0 L).bind fun L1 => impl_SelfTelling.on n k true l left (wrap64 (d + 1)) L1
      else none
    else some L
def impl_SelfTelling.f (k : Nat) (a0 : Int) : Option (List (List Int) × Bool) :=
  if 1 ≤ a0 then (if a0 ≤ 10 then (impl_SelfTelling.on a0 k false [] a0 0 []).bind fun L => some (L, true) else some ([], false)) else some ([], false)
theorem impl_SelfTelling.on_mono (n : Int) : ∀ k o l left d L, LeO (impl_SelfTelling.on n k o l left d L) (impl_SelfTelling.on n (k + 1) o l left d L)
  | 0, _, _, _, _, _ => fun r h => by simp [impl_SelfTelling.on] at h
  | k + 1, false, l, left, d, L => by
    rw [impl_SelfTelling.on, impl_SelfTelling.on]
    exact LeO.ite (LeO.ite (LeO.bind (impl_tellCounts.mono _ _) (fun _ => LeO.bind (slices_Equal_int_int.mono _ _ _) (fun _ => LeO.refl _))) (LeO.refl _)) (impl_SelfTelling.on_mono n k _ _ _ _ _)
  | k + 1, true, l, left, d, L => by
    rw [impl_SelfTelling.on, impl_SelfTelling.on]
    exact LeO.ite (LeO.ite (LeO.bind (impl_SelfTelling.on_mono n k _ _ _ _ _) (fun _ => impl_SelfTelling.on_mono n k _ _ _ _ _)) (LeO.none _)) (LeO.refl _)
theorem impl_SelfTelling.mono : ∀ a0 k, LeO (impl_SelfTelling.f k a0) (impl_SelfTelling.f (k + 1) a0) := by
  intro a0 k
  unfold impl_SelfTelling.f
  exact LeO.ite (LeO.ite (LeO.bind (impl_SelfTelling.on_mono _ _ _ _ _ _ _) (fun _ => LeO.refl _)) (LeO.refl _)) (LeO.refl _)
def impl_SelfTelling.Is (w0 W : World) (n : Int) (gn go gf : Nat) (v : Value) (L : List (List Int)) : Prop :=
  W.heap[gn]? = some (.cells #[.int .i64 n] 3 (0, 0)) ∧ W.heap[go]? = some (.cells #[v] 22 (0, 0)) ∧ W.heap[gf]? = some (.cells #[.func (.func 24) #[] #[.pointer (some ⟨gn, 0, none⟩), .pointer (some ⟨go, 0, none⟩), .pointer (some ⟨gf, 0, none⟩)]] 41 (0, 0)) ∧ w0.heap.size ≤ go ∧
    Kd.S (Kd.slice 3 (Kd.int .i64)) 31 W w0.heap.size (fun _ => True) v L
def impl_SelfTelling.Kp (w w' : World) : Prop := w.heap.size ≤ w'.heap.size ∧ ∀ (i : Nat) (cs : Array Value), w.heap[i]? = some (Obj.cells cs 3 (0, 0)) → w'.heap[i]? = some (Obj.cells cs 3 (0, 0))
theorem impl_SelfTelling.Kp.refl (w : World) : impl_SelfTelling.Kp w w := ⟨Nat.le_refl _, fun _ _ h => h⟩
theorem impl_SelfTelling.Kp.trans {w w1 w2 : World} (h : impl_SelfTelling.Kp w w1) (k : impl_SelfTelling.Kp w1 w2) : impl_SelfTelling.Kp w w2 := ⟨Nat.le_trans h.1 k.1, fun i cs hi => k.2 i cs (h.2 i cs hi)⟩
theorem impl_SelfTelling.Kp.below {w w1 : World} (h : Below w.heap.size w w1) : impl_SelfTelling.Kp w w1 := ⟨h.size, fun i cs hi => (h.block i (blk_lt hi)).trans hi⟩
theorem impl_SelfTelling.Kp.grown {w w1 : World} {row : Option Nat} (h : w.grownBy w1 row) (hr : ∀ k, row = some k → ∃ cells, w.heap[k]? = some (.cells cells 31 (0, 0))) : impl_SelfTelling.Kp w w1 := by
  refine ⟨h.size, fun i cs hi => (h.block i (blk_lt hi) ?_).trans hi⟩
  intro he
  obtain ⟨cells, hc⟩ := hr i he.symm
  rw [hi] at hc
  simp at hc
theorem impl_SelfTelling.Kp.set {w : World} {g : Nat} {cells : Array Value} (h : w.heap[g]? = some (.cells cells 22 (0, 0))) (u : Value) : impl_SelfTelling.Kp w (w.setCell ⟨g, 0, none⟩ u) := by
  refine ⟨by simp, fun i cs hi => ?_⟩
  have hne : i ≠ g := by
    rintro rfl
    rw [hi] at h
    simp at h
  exact (Below.heap_setCell w ⟨g, 0, none⟩ u i hne).trans hi
theorem impl_SelfTelling.Kp.row {w w1 : World} {base : Nat} {u : Value} {l : List Int} (h : impl_SelfTelling.Kp w w1) (hu : Kd.R (Kd.int .i64) 3 w base (fun _ => True) u l) : Kd.R (Kd.int .i64) 3 w1 base (fun _ => True) u l := by
  refine Kd.R_mono (Kd.R_move (Kd.R_bound hu) ?_) (fun _ _ => trivial)
  rintro k ⟨_, _, _, q, hq, cells, hc⟩
  have : q = 3 := by simpa [Kd.int, Kd.scalar] using hq
  subst this
  rw [h.2 k cells hc, hc]
theorem impl_SelfTelling.Is.below {w0 W W1 : World} {n : Int} {gn go gf : Nat} {v : Value} {L : List (List Int)} (h : impl_SelfTelling.Is w0 W n gn go gf v L) (hw : Below W.heap.size W W1) : impl_SelfTelling.Is w0 W1 n gn go gf v L := by
  obtain ⟨h1, h2, h3, h4, h5⟩ := h
  exact ⟨(hw.block _ (blk_lt h1)).trans h1, (hw.block _ (blk_lt h2)).trans h2, (hw.block _ (blk_lt h3)).trans h3, h4, Kd.S_below h5 hw⟩
theorem impl_SelfTelling.grows (W : World) (base : Nat) (l : List Int) (d : Int) (A : Option Addr) (c : Nat) (hu : Kd.R (Kd.int .i64) 3 W base (fun _ => True) (.slice A l.length c) l) (hl : l.length < 1000000000000) :
    ∃ v' w', (Builtin.append_ #[31, 31] 31 #[.slice A l.length l.length, .slice (some ⟨W.heap.size, 0, none⟩) 1 1]).run Try.prog (W.alloc (.cells #[.int .i64 d] 3)) = .ok v' w' ∧ Kd.R (Kd.int .i64) 3 w' W.heap.size (fun _ => True) v' (l ++ [d]) ∧ Below W.heap.size W w' := by
  have hC := (Kd.R_reads' hu).2.2
  have hinfo := info3
  obtain ⟨i, hi, hz⟩ := Option.map_eq_some_iff.1 hinfo
  obtain ⟨hz1, hz2, hz3⟩ : i.zero = some (.int .i64 0) ∧ i.size = 1 ∧ i.bytes = 8 := by simpa [Prod.mk.injEq] using hz
  have hb0 : Below W.heap.size W (W.alloc (.cells #[.int .i64 d] 3)) := below_alloc (Below.refl _ _) _
  have hnews : ∀ j x, ([Value.int .i64 d] : List Value)[j]? = some x → (W.alloc (.cells #[.int .i64 d] 3)).cell? ((⟨W.heap.size, 0, none⟩ : Addr).add j) = some x := by
    intro j x hj
    have h0 : j = 0 := by
      have := (List.getElem?_eq_some_iff.1 hj).1
      simpa using this
    subst h0
    rw [add_plain, World.cell?_alloc_at _ _ _ _ rfl]
    simpa using hj
  have hfin : ∀ v' w', w'.ownsRow W.heap.size 3 1 v' (l.length + 1) (nums .i64 l ++ [.int .i64 d]) → (W.alloc (.cells #[.int .i64 d] 3)).grownBy w' none → Kd.R (Kd.int .i64) 3 w' W.heap.size (fun _ => True) v' (l ++ [d]) ∧ Below W.heap.size W w' := by
    intro v' w' ho hg
    refine ⟨Kd.R_of_own (enc := Value.int .i64) (h1 := fun _ => rfl) ?_ (fun _ _ => trivial), pw_below_grown hb0 none (by simp) hg (by simp)⟩
    rw [List.length_append, List.length_singleton]
    have e : encs (Value.int .i64) (l ++ [d]) = nums .i64 l ++ [.int .i64 d] := by simp [encs, nums]
    rw [e]
    exact ho
  cases A with
  | none =>
    have h0 : l = [] := by
      cases l with
      | nil => rfl
      | cons x l =>
        obtain ⟨ad, he, _⟩ := Kd.at_int hC 0 (by omega) (by simp)
        cases he
    subst h0
    obtain ⟨v', w', hrun, r1, r2, _⟩ := run_append_own (P := Try.prog) (W.alloc (.cells #[.int .i64 d] 3)) W.heap.size 31 31 3 i (.int .i64 0) 1 8 Try.underlying31 hi hz1 hz2 hz3 rfl (by decide) (.slice none 0 0) 0 [] (World.ownsRow_nil _ _ _ _) ⟨W.heap.size, 0, none⟩ 1 1 [.int .i64 d] rfl hnews (by intro u hu; simp at hu; subst hu; rfl) (by simp [maxLen]) (by omega) (by simp)
    obtain ⟨q1, q2⟩ := hfin v' w' r1 r2
    exact ⟨v', w', hrun, q1, q2⟩
  | some b =>
    have holds : ∀ j x, (nums .i64 l)[j]? = some x → (W.alloc (.cells #[.int .i64 d] 3)).cell? (b.add j) = some x := by
      intro j x hj
      have hjl : j < l.length := by have := (List.getElem?_eq_some_iff.1 hj).1; simpa [nums] using this
      obtain ⟨ad, he, hc⟩ := Kd.at_int hC (j : Int) (by omega) (by omega)
      injection he with he
      subst he
      rw [Int.toNat_natCast] at hc
      rw [pw_cell_below hb0 hc]
      simp only [nums, List.getElem?_map] at hj
      rw [← hj, List.getElem?_eq_getElem hjl]
      simp [rd, List.getD_eq_getElem?_getD, List.getElem?_eq_getElem hjl]
    obtain ⟨v', w', hrun, r1, r2⟩ := run_append_arg_grows (P := Try.prog) (W.alloc (.cells #[.int .i64 d] 3)) 31 31 3 i (.int .i64 0) 1 8 Try.underlying31 hi hz1 hz2 hz3 rfl (by decide) b l.length l.length (nums .i64 l) (by simp [nums]) holds ⟨W.heap.size, 0, none⟩ 1 1 [.int .i64 d] rfl hnews (by omega) (by simp only [maxLen]; omega) (by omega)
    have r1' : w'.ownsRow W.heap.size 3 1 v' (l.length + 1) (nums .i64 l ++ [.int .i64 d]) := own_weaken r1 (by simp)
    obtain ⟨q1, q2⟩ := hfin v' w' r1' r2
    exact ⟨v', w', hrun, q1, q2⟩
theorem impl_SelfTelling.app_run {P : Program} {ev : Operand → Value} {o : Oper} (s x : Operand) (t : TypeId) {v1 v2 v' : Value} {W w' : World} (hop : o.op = .call { callee := .builtin .append, args := #[s, x], argTypes := #[t, t] }) (hs : ev s = v1) (hx : ev x = v2)
    (hrun : (Builtin.append_ #[t, t] o.type #[v1, v2]).run P W = .ok v' w') : (execOp ev o).run P W = .ok (.value v') w' := by
  simp [execOp, hop, resolve, invoke, builtin, hs, hx, hrun, Result.andThen]
def impl_SelfTelling.T6 : Bool × List (List Nat × List Nat) := (true, [([], []), ([], []), ([], []), ([2], [2]), ([], []), ([4], [4]), ([1, 3, 5], [1, 3, 5]), ([], []), ([7], [7]), ([6, 8], [6, 8]), ([], []), ([], []), ([10, 11], [10, 11]), ([0, 9, 12, 9], [0, 9, 12])])
def impl_SelfTelling.B6 : List Nat := [0, 0, 0, 4, 0, 16, 62, 0, 128, 510, 0, 0, 3072, 8191]
theorem impl_SelfTelling.tab6 : rtab .any (opsOf Try.f24 6) = impl_SelfTelling.T6 := by kernel_rfl
theorem impl_SelfTelling.bits6 : waitsOk impl_SelfTelling.T6.2 impl_SelfTelling.B6 = true := by kernel_rfl
def impl_SelfTelling.T2 : Bool × List (List Nat × List Nat) := (true, [([], []), ([], []), ([1], [1]), ([2], [2]), ([0, 3, 2], [0, 3]), ([4, 4, 0, 1, 2, 3, 4], [4])])
def impl_SelfTelling.B2 : List Nat := [0, 0, 2, 6, 15, 31]
theorem impl_SelfTelling.tab2 : rtab .any (opsOf Try.f24 2) = impl_SelfTelling.T2 := by kernel_rfl
theorem impl_SelfTelling.bits2 : waitsOk impl_SelfTelling.T2.2 impl_SelfTelling.B2 = true := by kernel_rfl
set_option maxHeartbeats 8000000 in
set_option maxRecDepth 100000 in
theorem impl_SelfTelling.on_calls (n : Int) : ∀ (k : Nat) (l : List Int) (left d0 : Int) (L r : List (List Int)) (gn go gf : Nat) (u v : Value) (w0 w : World), impl_SelfTelling.on n k false l left d0 L = some r → impl_SelfTelling.Is w0 w n gn go gf v L → Kd.R (Kd.int .i64) 3 w w0.heap.size (fun _ => True) u l → Below w0.heap.size w0 w →
    Calls Try.prog 24 #[u, .int .i64 left, .pointer (some ⟨gn, 0, none⟩), .pointer (some ⟨go, 0, none⟩), .pointer (some ⟨gf, 0, none⟩)] w fun e w' => e = .returned (.tuple #[]) ∧ ∃ v', impl_SelfTelling.Is w0 w' n gn go gf v' r ∧ Below w0.heap.size w0 w' ∧ impl_SelfTelling.Kp w w' := by
  intro k
  induction k using Nat.strongRecOn with
  | _ k ih =>
  intro l left d0 L r gn go gf u v w0 w h hI hU hB
  cases k with
  | zero => exact absurd h (by simp [impl_SelfTelling.on])
  | succ k =>
  have IH := Aside0.mk ih
  clear ih
  obtain ⟨A, c, rfl⟩ := Kd.R_slice hU
  have cn : w.cell? ⟨gn, 0, none⟩ = some (.int .i64 n) := (blk_cell hI.1 0).trans rfl
  have CO := Aside0.mk (show w.cell? ⟨go, 0, none⟩ = some v from (blk_cell hI.2.1 0).trans rfl)
  have HI := Aside0.mk hI
  have HU := Aside0.mk hU
  have HB := Aside0.mk hB
  have HK := Aside0.mk (impl_SelfTelling.Kp.refl w)
  have CN := Aside0.mk cn
  have CF := Aside0.mk cn
  clear hI hU hB
  simp only [impl_SelfTelling.on] at h
  by_cases q1 : (l.length : Int) = n
  case pos =>
    rw [if_pos q1] at h
    have b1 : ((l.length : Int) == n) = true := beq_iff_eq.mpr q1
    clear q1
    by_cases q2 : left = 0
    case pos =>
      rw [if_pos q2] at h
      have b2 : (left == 0) = true := beq_iff_eq.mpr q2
      clear q2
      obtain ⟨t, ht, h2⟩ := Option.bind_eq_some_iff.1 h
      obtain ⟨ee, he, h3⟩ := Option.bind_eq_some_iff.1 h2
      have A1 := Aside0.mk ht
      have A2 := Aside0.mk he
      clear ht he h h2
      cases ee with
      | false =>
        rw [if_neg (by simp)] at h3
        obtain rfl := Option.some.inj h3
        go_enter Try.func24, Try.ntmps24
        go_wp2_with (first
            | (go_at_call 26; (refine (impl_tellCounts.calls k _ _ l t _ ?tC1 ?tc1 A1.out).mono ?_); (case tC1 => (repeat (first | exact (Kd.R_reads' HU.out).2.2 | (with_reducible refine Kd.C_alloc ?_ _) | (with_reducible refine Kd.C_drewN ?_ _) | (with_reducible refine Kd.C_drew ?_)))); (case tc1 => exact (Kd.R_reads' HU.out).2.1); rintro e w3 ⟨vt, rfl, ht3, hb3⟩; obtain ⟨At, ct, rfl⟩ := Kd.R_slice ht3; have HT3 := Aside0.mk ht3; have n0_ := Aside0.mk (impl_SelfTelling.Is.below HI.out hb3); have n1_ := Aside0.mk (below_step HB.out hb3); have n2_ := Aside0.mk (Kd.R_below HU.out hb3); have n3_ := Aside0.mk (impl_SelfTelling.Kp.trans HK.out (impl_SelfTelling.Kp.below hb3)); clear HI HB HU HK CO CN CF hb3 ht3; have HI := n0_; have HB := n1_; have HU := n2_; have HK := n3_; clear n0_ n1_ n2_ n3_)
            | (go_at_call 25; (refine (slices_Equal_int_int.calls k _ _ t _ _ l false _ ?tE1 ?te1 ?tF1 ?tf1 A2.out).mono ?_); (case tE1 => (repeat (first | exact (Kd.R_reads' HT3.out).2.2 | (with_reducible refine Kd.C_alloc ?_ _) | (with_reducible refine Kd.C_drewN ?_ _) | (with_reducible refine Kd.C_drew ?_)))); (case te1 => exact (Kd.R_reads' HT3.out).2.1); (case tF1 => (repeat (first | exact (Kd.R_reads' HU.out).2.2 | (with_reducible refine Kd.C_alloc ?_ _) | (with_reducible refine Kd.C_drewN ?_ _) | (with_reducible refine Kd.C_drew ?_)))); (case tf1 => exact (Kd.R_reads' HU.out).2.1); rintro e w4 ⟨rfl, hd4⟩; have n0_ := Aside0.mk (impl_SelfTelling.Is.below HI.out hd4.below); have n1_ := Aside0.mk (below_step HB.out hd4.below); have n2_ := Aside0.mk (Kd.R_below HU.out hd4.below); have n3_ := Aside0.mk (impl_SelfTelling.Kp.trans HK.out (impl_SelfTelling.Kp.below hd4.below)); clear HI HB HU HK HT3 hd4; have HI := n0_; have HB := n1_; have HU := n2_; have HK := n3_; clear n0_ n1_ n2_ n3_; have CO := Aside0.mk (show w4.cell? ⟨go, 0, none⟩ = some v from (blk_cell HI.out.2.1 0).trans rfl)))
        first | go_end0 | ((try simp only [Exit.inBlock, Exit.then]); refine bodyPost_ret (results_none rfl _ _ _) rfl ?_)
        first | exact ⟨rfl, v, HI.out, HB.out, HK.out⟩ | exact ⟨rfl, ⟨v, HI.out⟩, HB.out, HK.out⟩
      | true =>
        rw [if_pos rfl] at h3
        by_cases q3 : L.length < 1000000000000
        case neg => rw [if_neg q3] at h3; exact absurd h3 (by simp)
        case pos =>
          rw [if_pos q3] at h3
          have HL := Aside0.mk q3
          clear q3
          obtain ⟨cl, hc, h4⟩ := Option.bind_eq_some_iff.1 h3
          have ecl : l = cl := by
            unfold slices_Clone_int_int.f at hc
            by_cases q4 : l.length < 17592186044416
            · rw [if_pos q4] at hc
              exact Option.some.inj hc
            · rw [if_neg q4] at hc
              exact absurd hc (by simp)
          subst ecl
          have A3 := Aside0.mk hc
          clear hc h3
          obtain rfl := Option.some.inj h4
          go_enter Try.func24, Try.ntmps24
          go_wp2_with (first
            | (go_at_call 26; (refine (impl_tellCounts.calls k _ _ l t _ ?tC2 ?tc2 A1.out).mono ?_); (case tC2 => (repeat (first | exact (Kd.R_reads' HU.out).2.2 | (with_reducible refine Kd.C_alloc ?_ _) | (with_reducible refine Kd.C_drewN ?_ _) | (with_reducible refine Kd.C_drew ?_)))); (case tc2 => exact (Kd.R_reads' HU.out).2.1); rintro e w3 ⟨vt, rfl, ht3, hb3⟩; obtain ⟨At, ct, rfl⟩ := Kd.R_slice ht3; have HT3 := Aside0.mk ht3; have n0_ := Aside0.mk (impl_SelfTelling.Is.below HI.out hb3); have n1_ := Aside0.mk (below_step HB.out hb3); have n2_ := Aside0.mk (Kd.R_below HU.out hb3); have n3_ := Aside0.mk (impl_SelfTelling.Kp.trans HK.out (impl_SelfTelling.Kp.below hb3)); clear HI HB HU HK CO CN CF hb3 ht3; have HI := n0_; have HB := n1_; have HU := n2_; have HK := n3_; clear n0_ n1_ n2_ n3_)
            | (go_at_call 25; (refine (slices_Equal_int_int.calls k _ _ t _ _ l true _ ?tE2 ?te2 ?tF2 ?tf2 A2.out).mono ?_); (case tE2 => (repeat (first | exact (Kd.R_reads' HT3.out).2.2 | (with_reducible refine Kd.C_alloc ?_ _) | (with_reducible refine Kd.C_drewN ?_ _) | (with_reducible refine Kd.C_drew ?_)))); (case te2 => exact (Kd.R_reads' HT3.out).2.1); (case tF2 => (repeat (first | exact (Kd.R_reads' HU.out).2.2 | (with_reducible refine Kd.C_alloc ?_ _) | (with_reducible refine Kd.C_drewN ?_ _) | (with_reducible refine Kd.C_drew ?_)))); (case tf2 => exact (Kd.R_reads' HU.out).2.1); rintro e w4 ⟨rfl, hd4⟩; have n0_ := Aside0.mk (impl_SelfTelling.Is.below HI.out hd4.below); have n1_ := Aside0.mk (below_step HB.out hd4.below); have n2_ := Aside0.mk (Kd.R_below HU.out hd4.below); have n3_ := Aside0.mk (impl_SelfTelling.Kp.trans HK.out (impl_SelfTelling.Kp.below hd4.below)); clear HI HB HU HK HT3 hd4; have HI := n0_; have HB := n1_; have HU := n2_; have HK := n3_; clear n0_ n1_ n2_ n3_; have CO := Aside0.mk (show w4.cell? ⟨go, 0, none⟩ = some v from (blk_cell HI.out.2.1 0).trans rfl)))
          refine start_ (n := 6) (S := fun w' => w'.cell? ⟨go, 0, none⟩ = some v) (ds := [5]) #[false, false, false, false, false, false] (by kernel_rfl) rfl rfl (pw_cell_below (below_drew1 (Below.refl _ _)) CO.out) (fun hHeld => ?_); refine with_tabW impl_SelfTelling.tab2 impl_SelfTelling.bits2 (fun HT_ HW_ => ?_)
          have n0_ := Aside0.mk (impl_SelfTelling.Is.below HI.out (below_drew1 (Below.refl _ _)))
          have n1_ := Aside0.mk (below_drew1 HB.out)
          have n2_ := Aside0.mk (Kd.R_drew HU.out)
          have n3_ := Aside0.mk (impl_SelfTelling.Kp.trans HK.out (impl_SelfTelling.Kp.below (below_drew1 (Below.refl _ _))))
          clear HI HB HU HK CO
          have HI := n0_
          have HB := n1_
          have HU := n2_
          have HK := n3_
          clear n0_ n1_ n2_ n3_
          generalize World.drew _ = w4 at HI HB HU HK hHeld ⊢
          refine pure_ (i := 1) (N := some 21) (v := ?_) (a' := ?_) #[false, true, false, false, false, false] rfl rfl (any_of HT_.out (by kernel_rfl)) (fun _ _ _ h => h) (Or.inl ⟨by rfl, ?_⟩) ?_ ?_
          rotate_left
          · intro w'
            go_simp
            with_reducible rfl
          rotate_left
          · simp only [Act.put, List.setIfInBounds_toArray, List.set_cons_zero, List.set_cons_succ, i64_w, i32_w]
            rfl
          refine take_ (i := 0) (N := some 20) (v := ?_) (a' := ?_) #[true, true, false, false, false, false] rfl rfl (take_ofW HT_.out HW_.out (by kernel_rfl)) (fun _ _ _ h => h) (Or.inl ⟨by rfl, ?_⟩) hHeld ?_ ?_
          rotate_left
          · intro w' s0
            go_simp
            with_reducible rfl
          rotate_left
          · simp only [Act.put, List.setIfInBounds_toArray, List.set_cons_zero, List.set_cons_succ, i64_w, i32_w]
            rfl
          refine one_ (i := 2) (N := some 22) #[true, true, true, false, false, false] rfl rfl (one_of HT_.out (by kernel_rfl)) (by decide) (fun K hK => ?_)
          refine goes_ Try.func27 (by kernel_rfl) rfl #[.slice A l.length c] (by rfl) rfl rfl (by (try simp only [List.map_toArray, List.map_cons, List.map_nil]); first | done | rfl) ?_
          refine (slices_Clone_int_int.calls A c l l _ (Kd.R_reads' HU.out).2.2 (Kd.R_reads' HU.out).2.1 A3.out).mono ?_
          rintro e w5 ⟨vc, rfl, hoc, hbc⟩
          refine ⟨_, rfl, ?_⟩
          obtain ⟨Ac, cc, rfl⟩ := Kd.R_slice hoc
          have hHeld := pw_cell_below hbc hHeld
          have HS := Aside0.mk (Kd.S_elder' HI.out.2.2.2.2 (Kd.R_base hoc) hbc)
          have HC := Aside0.mk (Kd.R_lower hoc HB.out.size)
          have n0_ := Aside0.mk (impl_SelfTelling.Is.below HI.out hbc)
          have n1_ := Aside0.mk (below_step HB.out hbc)
          have n3_ := Aside0.mk (impl_SelfTelling.Kp.trans HK.out (impl_SelfTelling.Kp.below hbc))
          clear HI HB HK HU hoc hbc
          have HI := n0_
          have HB := n1_
          have HK := n3_
          clear n0_ n1_ n3_
          refine hK.out _ _ hHeld (fun hHeld => ?_)
          clear hK K
          refine norm_ (a' := ?_) ?_ ?_
          rotate_left
          · show Act.put _ (some 22) _ = _
            simp only [Act.put, List.setIfInBounds_toArray, List.set_cons_zero, List.set_cons_succ, i64_w, i32_w]
            rfl
          refine one_ (i := 3) (N := some 23) #[true, true, true, true, false, false] rfl rfl (one_of HT_.out (by kernel_rfl)) (by decide) (fun K hK => ?_)
          refine value_ (w1 := ?_) (v := ?_) (by rfl) rfl ?_ ?_
          rotate_left 2
          · go_simp
            constructor
            · rfl
            · rfl
          refine hK.out _ _ (pw_cell_below (below_alloc (Below.refl _ _) _) hHeld) (fun hHeld2 => ?_)
          clear hK K
          refine norm_ (a' := ?_) ?_ ?_
          rotate_left
          · show Act.put _ (some 23) _ = _
            simp only [Act.put, List.setIfInBounds_toArray, List.set_cons_zero, List.set_cons_succ, i64_w, i32_w]
            rfl
          refine one_ (i := 4) (N := some 24) #[true, true, true, true, true, false] rfl rfl (one_of HT_.out (by kernel_rfl)) (by decide) (fun K hK => ?_)
          refine Kd.S_append_step (Kd.slice 3 (Kd.int .i64)) (w0 := w0) w0.heap.size (by rfl) (.tmp 20) (.tmp 23) 22 31 (.slice none 0 0) 24 rfl Try.underlying22 info31 rfl (by decide) (by omega) v L l [.slice Ac l.length cc] (fun _ => True) (fun k_ => some k_ = (.slice Ac l.length cc : Value).ownBlock) rfl rfl ?aP ?aK ?aF ?aO ?aB ?aS ?aL ?_
          case aP => exact Kd.M_row (Kd.R_tight rfl HC.out)
          case aK => exact fun k_ hk_ => ⟨trivial, (Kd.R_apart' HC.out (Kd.S_typed HI.out.2.2.2.2) (by decide)).1 k_ hk_.symm |>.2⟩
          case aF => exact fun _ _ => trivial
          case aO => exact HS.out
          case aB => exact HB.out
          case aS => exact HB.out.size
          case aL => have := HL.out; omega
          intro v1 w6 ho hb hg hat
          obtain ⟨Av1, cv1, ev1⟩ := Kd.S_slice ho
          obtain ⟨m1, em1⟩ : ∃ m1, (L ++ [l]).length = m1 := ⟨_, rfl⟩
          rw [em1] at ev1
          subst ev1
          clear em1
          obtain ⟨i1, i2, i3, i4, i5⟩ := HI.out
          have hne : ∀ (g0 t : Nat) (cs : Array Value), t ≠ 31 → w5.heap[g0]? = some (Obj.cells cs t (0, 0)) → w6.heap[g0]? = some (Obj.cells cs t (0, 0)) := fun g0 t cs ht h0 => blk_grown h0 hg (fun e_ => Kd.S_ne i5 h0 (Ne.symm ht) e_)
          have j1 := hne _ _ _ (by decide) i1
          have j2 := hne _ _ _ (by decide) i2
          have j3 := hne _ _ _ (by decide) i3
          have KG := Aside0.mk (impl_SelfTelling.Kp.grown hg (Kd.S_typed i5))
          have HO := Aside0.mk ho
          have HB6 := Aside0.mk hb
          have J1 := Aside0.mk j1
          have J2 := Aside0.mk j2
          have J3 := Aside0.mk j3
          have I4 := Aside0.mk i4
          have hHeld3 : w6.cell? ⟨go, 0, none⟩ = some v := (blk_cell j2 0).trans rfl
          have hf6 := blk_frozen j2 0
          clear ho hb hg hat i1 i2 i3 i4 i5 hne j1 j2 j3 hHeld hHeld2 HS HC
          refine hK.out _ _ hHeld3 (fun _ => ?_)
          clear hK K
          refine norm_ (a' := ?_) ?_ ?_
          rotate_left
          · show Act.put _ (some 24) _ = _
            simp only [Act.put, List.setIfInBounds_toArray, List.set_cons_zero, List.set_cons_succ, i64_w, i32_w]
            rfl
          refine last_ (i := 5) (N := none) #[true, true, true, true, true, true] rfl rfl (one_of HT_.out (by kernel_rfl)) (by decide) (fun K hK => ?_)
          refine skip_ (w1 := ?_) (by rfl) rfl ?_ ?_
          rotate_left
          · go_simp
            rfl
          refine hK.out _ _ ?_
          clear hK K
          refine done_ (done_of HT_.out (by kernel_rfl)) ?_
          try go_wp2
          first | go_end0 | ((try simp only [Exit.inBlock, Exit.then]); refine bodyPost_ret (results_none rfl _ _ _) rfl ?_)
          first | exact ⟨rfl, (.slice Av1 m1 cv1), ⟨(Below.heap_setCell _ ⟨go, 0, none⟩ (.slice Av1 m1 cv1) gn (by rintro rfl; have := J1.out; rw [J2.out] at this; simp at this)).trans J1.out, by simpa using blk_set J2.out 0 (.slice Av1 m1 cv1), (Below.heap_setCell _ ⟨go, 0, none⟩ (.slice Av1 m1 cv1) gf (by rintro rfl; have := J3.out; rw [J2.out] at this; simp at this)).trans J3.out, I4.out, Kd.S_set HO.out J2.out (by decide) 0 (.slice Av1 m1 cv1)⟩, below_set HB6.out I4.out, impl_SelfTelling.Kp.trans (impl_SelfTelling.Kp.trans HK.out KG.out) (impl_SelfTelling.Kp.set J2.out (.slice Av1 m1 cv1))⟩ | exact ⟨rfl, ⟨(.slice Av1 m1 cv1), ⟨(Below.heap_setCell _ ⟨go, 0, none⟩ (.slice Av1 m1 cv1) gn (by rintro rfl; have := J1.out; rw [J2.out] at this; simp at this)).trans J1.out, by simpa using blk_set J2.out 0 (.slice Av1 m1 cv1), (Below.heap_setCell _ ⟨go, 0, none⟩ (.slice Av1 m1 cv1) gf (by rintro rfl; have := J3.out; rw [J2.out] at this; simp at this)).trans J3.out, I4.out, Kd.S_set HO.out J2.out (by decide) 0 (.slice Av1 m1 cv1)⟩⟩, below_set HB6.out I4.out, impl_SelfTelling.Kp.trans (impl_SelfTelling.Kp.trans HK.out KG.out) (impl_SelfTelling.Kp.set J2.out (.slice Av1 m1 cv1))⟩
    case neg =>
      rw [if_neg q2] at h
      have b2 : (left == 0) = false := beq_eq_false_iff_ne.mpr q2
      clear q2
      obtain rfl := Option.some.inj h
      go_enter Try.func24, Try.ntmps24
      go_wp2
      first | go_end0 | ((try simp only [Exit.inBlock, Exit.then]); refine bodyPost_ret (results_none rfl _ _ _) rfl ?_)
      first | exact ⟨rfl, v, HI.out, HB.out, HK.out⟩ | exact ⟨rfl, ⟨v, HI.out⟩, HB.out, HK.out⟩
  case neg =>
    rw [if_neg q1] at h
    have b1 : ((l.length : Int) == n) = false := beq_eq_false_iff_ne.mpr q1
    clear q1
    have H := Aside0.mk h
    clear h
    go_enter Try.func24, Try.ntmps24
    go_wp2
    go_loopg [7] k (fun kq v7 w' => ∃ (d : Int) (L1 : List (List Int)) (v1 : Value), v7 = .int .i64 d ∧ Aside0 (impl_SelfTelling.on n kq true l left d L1 = some r) ∧ Aside0 (kq ≤ k) ∧ Aside0 (impl_SelfTelling.Is w0 w' n gn go gf v1 L1) ∧ Aside0 (Kd.R (Kd.int .i64) 3 w' w0.heap.size (fun _ => True) (.slice A l.length c) l) ∧ Aside0 (Below w0.heap.size w0 w') ∧ Aside0 (impl_SelfTelling.Kp w w'))
    case atStart => exact ⟨0, L, v, rfl, H, ⟨Nat.le_refl _⟩, HI, HU, HB, HK⟩
    case round =>
      clear H HI HU HB HK cn CO CN CF b1
      obtain ⟨d, L1, v1, rfl, HA, HK1, HI, HU, HB, HK⟩ := hrel
      cases gk with
      | zero => exact absurd HA.out (by simp [impl_SelfTelling.on])
      | succ k1 =>
        have H1 := HA.out
        clear HA
        simp only [impl_SelfTelling.on] at H1
        by_cases p1 : d ≤ left
        case pos =>
          rw [if_pos p1] at H1
          have p1d : decide (d ≤ left) = true := decide_eq_true p1
          by_cases p2 : l.length < 1000000000000
          case neg => rw [if_neg p2] at H1; exact absurd H1 (by simp)
          case pos =>
              rw [if_pos p2] at H1
              have LM := Aside0.mk p2
              obtain ⟨L2, hu, H2⟩ := Option.bind_eq_some_iff.1 H1
              have A1 := Aside0.mk hu
              have A2 := Aside0.mk H2
              have hlc : l.length ≤ c := (Kd.R_reads' HU.out).2.1
              have lct := eq_true hlc
              have lcd : decide (l.length ≤ c) = true := decide_eq_true hlc
              clear hu H1 H2 p1 p2 hlc
              go_wp2
              have CF := Aside0.mk (show wr.cell? ⟨gf, 0, none⟩ = some (.func (.func 24) #[] #[.pointer (some ⟨gn, 0, none⟩), .pointer (some ⟨go, 0, none⟩), .pointer (some ⟨gf, 0, none⟩)]) from (blk_cell HI.out.2.2.1 0).trans rfl)
              refine start_ (n := 14) (S := fun w' => w'.cell? ⟨gf, 0, none⟩ = some (.func (.func 24) #[] #[.pointer (some ⟨gn, 0, none⟩), .pointer (some ⟨go, 0, none⟩), .pointer (some ⟨gf, 0, none⟩)])) (ds := [13]) #[false, false, false, false, false, false, false, false, false, false, false, false, false, false] (by kernel_rfl) rfl rfl (pw_cell_below (below_drew1 (Below.refl _ _)) CF.out) (fun hHeld => ?_); refine with_tabW impl_SelfTelling.tab6 impl_SelfTelling.bits6 (fun HT_ HW_ => ?_)
              have n0_ := Aside0.mk (impl_SelfTelling.Is.below HI.out (below_drew1 (Below.refl _ _)))
              have n1_ := Aside0.mk (below_drew1 HB.out)
              have n2_ := Aside0.mk (Kd.R_drew HU.out)
              have n3_ := Aside0.mk (impl_SelfTelling.Kp.trans HK.out (impl_SelfTelling.Kp.below (below_drew1 (Below.refl _ _))))
              clear HI HB HU HK CF
              have HI := n0_
              have HB := n1_
              have HU := n2_
              have HK := n3_
              clear n0_ n1_ n2_ n3_
              generalize World.drew _ = w4 at HI HB HU HK hHeld ⊢
              refine pure_ (i := 1) (N := some 31) (v := ?_) (a' := ?_) #[false, true, false, false, false, false, false, false, false, false, false, false, false, false] rfl rfl (any_of HT_.out (by kernel_rfl)) (fun _ _ _ h => h) (Or.inl ⟨by rfl, ?_⟩) ?_ ?_
              rotate_left
              · intro w'
                go_simp
                with_reducible rfl
              rotate_left
              · simp only [Act.put, List.setIfInBounds_toArray, List.set_cons_zero, List.set_cons_succ, i64_w, i32_w]
                rfl
              refine pure_ (i := 2) (N := some 32) (v := ?_) (a' := ?_) #[false, true, true, false, false, false, false, false, false, false, false, false, false, false] rfl rfl (any_of HT_.out (by kernel_rfl)) (fun _ _ _ h => h) (Or.inl ⟨by rfl, ?_⟩) ?_ ?_
              rotate_left
              · intro w'
                go_simp
                with_reducible rfl
              rotate_left
              · simp only [Act.put, List.setIfInBounds_toArray, List.set_cons_zero, List.set_cons_succ, i64_w, i32_w]
                rfl
              refine pure_ (i := 3) (N := some 33) (v := ?_) (a' := ?_) #[false, true, true, true, false, false, false, false, false, false, false, false, false, false] rfl rfl (any_of HT_.out (by kernel_rfl)) (fun _ _ _ h => h) (Or.inl ⟨by rfl, ?_⟩) ?_ ?_
              rotate_left
              · intro w'
                go_simp
                with_reducible rfl
              rotate_left
              · simp only [Act.put, List.setIfInBounds_toArray, List.set_cons_zero, List.set_cons_succ, i64_w, i32_w]
                rfl
              refine pure_ (i := 4) (N := some 34) (v := ?_) (a' := ?_) #[false, true, true, true, true, false, false, false, false, false, false, false, false, false] rfl rfl (any_of HT_.out (by kernel_rfl)) (fun _ _ _ h => h) (Or.inl ⟨by rfl, ?_⟩) ?_ ?_
              rotate_left
              · intro w'
                go_simp
                with_reducible rfl
              rotate_left
              · simp only [Act.put, List.setIfInBounds_toArray, List.set_cons_zero, List.set_cons_succ, i64_w, i32_w]
                rfl
              refine pure_ (i := 5) (N := some 35) (v := ?_) (a' := ?_) #[false, true, true, true, true, true, false, false, false, false, false, false, false, false] rfl rfl (any_of HT_.out (by kernel_rfl)) (fun _ _ _ h => h) (Or.inl ⟨by rfl, ?_⟩) ?_ ?_
              rotate_left
              · intro w'
                go_simp
                with_reducible rfl
              rotate_left
              · simp only [Act.put, List.setIfInBounds_toArray, List.set_cons_zero, List.set_cons_succ, i64_w, i32_w]
                rfl
              refine pure_ (i := 7) (N := some 37) (v := ?_) (a' := ?_) #[false, true, true, true, true, true, false, true, false, false, false, false, false, false] rfl rfl (any_of HT_.out (by kernel_rfl)) (fun _ _ _ h => h) (Or.inl ⟨by rfl, ?_⟩) ?_ ?_
              rotate_left
              · intro w'
                go_simp
                with_reducible rfl
              rotate_left
              · simp only [Act.put, List.setIfInBounds_toArray, List.set_cons_zero, List.set_cons_succ, i64_w, i32_w]
                rfl
              refine pure_ (i := 10) (N := some 40) (v := ?_) (a' := ?_) #[false, true, true, true, true, true, false, true, false, false, true, false, false, false] rfl rfl (any_of HT_.out (by kernel_rfl)) (fun _ _ _ h => h) (Or.inl ⟨by rfl, ?_⟩) ?_ ?_
              rotate_left
              · intro w'
                go_simp
                with_reducible rfl
              rotate_left
              · simp only [Act.put, List.setIfInBounds_toArray, List.set_cons_zero, List.set_cons_succ, i64_w, i32_w]
                rfl
              refine pure_ (i := 11) (N := some 41) (v := ?_) (a' := ?_) #[false, true, true, true, true, true, false, true, false, false, true, true, false, false] rfl rfl (any_of HT_.out (by kernel_rfl)) (fun _ _ _ h => h) (Or.inl ⟨by rfl, ?_⟩) ?_ ?_
              rotate_left
              · intro w'
                go_simp
                with_reducible rfl
              rotate_left
              · simp only [Act.put, List.setIfInBounds_toArray, List.set_cons_zero, List.set_cons_succ, i64_w, i32_w]
                rfl
              refine pure_ (i := 12) (N := some 42) (v := ?_) (a' := ?_) #[false, true, true, true, true, true, false, true, false, false, true, true, true, false] rfl rfl (any_of HT_.out (by kernel_rfl)) (fun _ _ _ h => h) (Or.inl ⟨by rfl, ?_⟩) ?_ ?_
              rotate_left
              · intro w'
                go_simp
                with_reducible rfl
              rotate_left
              · simp only [Act.put, List.setIfInBounds_toArray, List.set_cons_zero, List.set_cons_succ, i64_w, i32_w]
                rfl
              refine pure_ (i := 6) (N := some 36) (v := ?_) (a' := ?_) #[false, true, true, true, true, true, true, true, false, false, true, true, true, false] rfl rfl (any_of HT_.out (by kernel_rfl)) (fun _ _ _ h => h) (Or.inl ⟨by rfl, ?_⟩) ?_ ?_
              rotate_left
              · intro w'
                go_simp
                with_reducible rfl
              rotate_left
              · simp only [Act.put, List.setIfInBounds_toArray, List.set_cons_zero, List.set_cons_succ, i64_w, i32_w]
                rfl
              refine take_ (i := 0) (N := some 30) (v := ?_) (a' := ?_) #[true, true, true, true, true, true, true, true, false, false, true, true, true, false] rfl rfl (take_ofW HT_.out HW_.out (by kernel_rfl)) (fun _ _ _ h => h) (Or.inl ⟨by rfl, ?_⟩) hHeld ?_ ?_
              rotate_left
              · intro w' s0
                go_simp
                with_reducible rfl
              rotate_left
              · simp only [Act.put, List.setIfInBounds_toArray, List.set_cons_zero, List.set_cons_succ, i64_w, i32_w]
                rfl
              refine one_ (i := 8) (N := some 38) #[true, true, true, true, true, true, true, true, true, false, true, true, true, false] rfl rfl (one_of HT_.out (by kernel_rfl)) (by decide) (fun K hK => ?_)
              refine value_ (w1 := ?_) (v := ?_) (by rfl) rfl ?_ ?_
              rotate_left 2
              · go_simp
                constructor
                · rfl
                · rfl
              refine hK.out _ _ (pw_cell_below (below_alloc (Below.refl _ _) _) hHeld) (fun hHeld2 => ?_)
              clear hK K
              refine norm_ (a' := ?_) ?_ ?_
              rotate_left
              · show Act.put _ (some 38) _ = _
                simp only [Act.put, List.setIfInBounds_toArray, List.set_cons_zero, List.set_cons_succ, i64_w, i32_w]
                rfl
              obtain ⟨v2, w5, hrun, ho2, hb2⟩ := impl_SelfTelling.grows w4 w0.heap.size l d A c HU.out LM.out
              refine one_ (i := 9) (N := some 39) #[true, true, true, true, true, true, true, true, true, true, true, true, true, false] rfl rfl (one_of HT_.out (by kernel_rfl)) (by decide) (fun K hK => ?_)
              refine value_ (w1 := w5) (v := v2) (by rfl) rfl ?_ ?_
              · exact impl_SelfTelling.app_run (.tmp 36) (.tmp 38) 31 (by rfl) (by rfl) (by rfl) hrun
              have hHeld3 := pw_cell_below hb2 hHeld
              have n0_ := Aside0.mk (impl_SelfTelling.Is.below HI.out hb2)
              have n1_ := Aside0.mk (below_step HB.out hb2)
              have n3_ := Aside0.mk (impl_SelfTelling.Kp.trans HK.out (impl_SelfTelling.Kp.below hb2))
              have n2_ := Aside0.mk (Kd.R_below HU.out hb2)
              have HV := Aside0.mk (Kd.R_lower ho2 HB.out.size)
              clear HI HB HK HU hrun ho2 hb2 hHeld hHeld2
              have HI := n0_
              have HB := n1_
              have HK := n3_
              have HU := n2_
              clear n0_ n1_ n2_ n3_
              refine hK.out _ _ hHeld3 (fun _ => ?_)
              clear hK K
              refine norm_ (a' := ?_) ?_ ?_
              rotate_left
              · show Act.put _ (some 39) _ = _
                simp only [Act.put, List.setIfInBounds_toArray, List.set_cons_zero, List.set_cons_succ, i64_w, i32_w]
                rfl
              refine last_ (i := 13) (N := some 43) #[true, true, true, true, true, true, true, true, true, true, true, true, true, true] rfl rfl (one_of HT_.out (by kernel_rfl)) (by decide) (fun K hK => ?_)
              refine call_ 24 #[v2, .int .i64 (wrap64 (left - d)), .pointer (some ⟨gn, 0, none⟩), .pointer (some ⟨go, 0, none⟩), .pointer (some ⟨gf, 0, none⟩)] (by rfl) rfl ?_ ?_
              · go_simp
                first | done | rfl
              refine (IH.out k1 (by have := HK1.out; omega) (l ++ [d]) _ 0 L1 L2 gn go gf v2 v1 w0 _ A1.out HI.out HV.out HB.out).mono ?_
              rintro e w6 ⟨rfl, v3, hi6, hb6, hk6⟩
              refine ⟨_, rfl, ?_⟩
              refine hK.out _ _ ?_
              clear hK K
              refine norm_ (a' := ?_) ?_ ?_
              rotate_left
              · show Act.put _ (some 43) _ = _
                simp only [Act.put, List.setIfInBounds_toArray, List.set_cons_zero, List.set_cons_succ, i64_w, i32_w]
                rfl
              have n0_ := Aside0.mk hi6
              have n1_ := Aside0.mk hb6
              have n3_ := Aside0.mk (impl_SelfTelling.Kp.trans HK.out hk6)
              have n2_ := Aside0.mk (impl_SelfTelling.Kp.row hk6 HU.out)
              clear HI HB HK HU HV hi6 hb6 hk6
              have HI := n0_
              have HB := n1_
              have HK := n3_
              have HU := n2_
              clear n0_ n1_ n2_ n3_
              refine done_ (done_of HT_.out (by kernel_rfl)) ?_
              try go_wp2
              go_roundg k1
              case measure => have := HK1.out; omega
              case rel => exact ⟨_, L2, v3, rfl, A2, ⟨by have := HK1.out; omega⟩, HI, HU, HB, HK⟩
        case neg =>
          rw [if_neg p1] at H1
          have p1d : decide (d ≤ left) = false := decide_eq_false p1
          clear p1
          obtain rfl := Option.some.inj H1
          go_wp2
          first | go_end0 | ((try simp only [Exit.inBlock, Exit.then]); refine bodyPost_ret (results_none rfl _ _ _) rfl ?_)
          first | exact ⟨rfl, v1, HI.out, HB.out, HK.out⟩ | exact ⟨rfl, ⟨v1, HI.out⟩, HB.out, HK.out⟩
theorem impl_SelfTelling.alloc_old (W : World) (o : Obj) (g : Nat) (hg : g < W.heap.size) : (W.alloc o).heap[g]? = W.heap[g]? := (below_alloc (Below.refl _ _) o : Below W.heap.size W (W.alloc o)).block g hg
theorem impl_SelfTelling.alloc_at (W : World) (o : Obj) (g : Nat) (hg : g = W.heap.size) : (W.alloc o).heap[g]? = some o := by subst hg; exact heap_alloc_new W o
theorem impl_SelfTelling.S_empty (W : World) (base : Nat) (hb : base ≤ W.heap.size) : Kd.S (Kd.slice 3 (Kd.int .i64)) 31 (W.alloc (.cells #[] 31)) base (fun _ => True) (.slice (some ⟨W.heap.size, 0, none⟩) 0 0) [] :=
  Kd.S_bare ⟨fun _ _ => trivial, [], own_lit W base 31 .i64 [] hb (by simp), Reps.none _ _⟩
set_option maxHeartbeats 8000000 in
set_option maxRecDepth 100000 in
theorem impl_SelfTelling.calls (k : Nat) (a0 : Int) (r1 : List (List Int)) (r2 : Bool) (w : World) (h : impl_SelfTelling.f k a0 = some (r1, r2)) :
    Calls Try.prog 6 #[.int .i64 a0] w fun e w' => ∃ v0_ : Value, e = .returned (.tuple #[v0_, .bool r2]) ∧ Kd.S (Kd.slice 3 (Kd.int .i64)) 31 w' w.heap.size (fun _ => True) v0_ r1 ∧ Below w.heap.size w w' := by
  unfold impl_SelfTelling.f at h
  have hmf : ∀ (fn : Fn) (first cap : Array Value) (w : World), (Instr.makeFunc fn first cap).run Try.prog w = .ok (.func fn first cap) w := fun _ _ _ _ => rfl
  have hsf : ∀ (b : Addr) (fn : Fn) (first cap : Array Value) (md : Mode) (W : World), (store b (.func fn first cap) md).run Try.prog W = stored Try.prog W b (.func fn first cap) md := fun b _ _ _ md W => run_store Try.prog W b _ md rfl
  by_cases q : 1 ≤ a0 ∧ a0 ≤ 10
  case pos =>
    rw [if_pos q.1, if_pos q.2] at h
    have hin : impl_in.f a0 1 10 = some true := by unfold impl_in.f; rw [if_pos q.1, decide_eq_true q.2]
    obtain ⟨L, hL, h2⟩ := Option.bind_eq_some_iff.1 h
    obtain ⟨rfl, rfl⟩ := Prod.mk.inj (Option.some.inj h2)
    have A1 := Aside0.mk hin
    have A2 := Aside0.mk hL
    clear hin hL h h2 q
    go_enter Try.func6, Try.ntmps6
    go_wp2_with (first
      | (go_at_call 23; refine (impl_in.calls a0 1 10 true _ A1.out).mono ?_; rintro e w2 ⟨rfl, hb2⟩; have hn2 : w2.heap[w.heap.size]? = some (.cells #[.int .i64 a0] 3 (0, 0)) := (hb2.below.block _ (by simp)).trans (heap_alloc_new w _); have hlt2 : w.heap.size < w2.heap.size := blk_lt hn2; have HBW := Aside0.mk (below_step (below_alloc (Below.refl _ _) (.cells #[.int .i64 a0] 3) : Below w.heap.size w _) hb2.below); have hb3 : Below w2.heap.size w2 (((w2.alloc (.cells #[] 31)).alloc (.cells #[.slice (some ⟨w2.heap.size, 0, none⟩) 0 0] 22)).alloc (.cells #[(.func (.func 24) #[] #[.pointer (some ⟨w.heap.size, 0, none⟩), .pointer (some ⟨w2.heap.size + 1, 0, none⟩), .pointer (some ⟨w2.heap.size + 1 + 1, 0, none⟩)])] 41)) := below_alloc (below_alloc (below_alloc (Below.refl _ _) _) _) _; have hn3 : (((w2.alloc (.cells #[] 31)).alloc (.cells #[.slice (some ⟨w2.heap.size, 0, none⟩) 0 0] 22)).alloc (.cells #[(.func (.func 24) #[] #[.pointer (some ⟨w.heap.size, 0, none⟩), .pointer (some ⟨w2.heap.size + 1, 0, none⟩), .pointer (some ⟨w2.heap.size + 1 + 1, 0, none⟩)])] 41)).heap[w.heap.size]? = some (.cells #[.int .i64 a0] 3 (0, 0)) := (hb3.block _ hlt2).trans hn2; have hcn := (blk_cell hn3 0).trans rfl; change _ = some (Value.int .i64 a0) at hcn; have HN2 := Aside0.mk hn2; have HB3 := Aside0.mk hb3; clear hn2 hn3 hb2 hlt2 hb3)
      | (go_at_call 24; refine (impl_SelfTelling.on_calls a0 k [] a0 0 [] L w.heap.size (w2.heap.size + 1) (w2.heap.size + 1 + 1) (.slice none 0 0) (.slice (some ⟨w2.heap.size, 0, none⟩) 0 0) w _ A2.out ?hI (Kd.R_nil _ _ _ _ _) ?hB).mono ?_; (case hB => exact below_step HBW.out HB3.out); (case hI => exact ⟨(HB3.out.block _ (blk_lt HN2.out)).trans HN2.out, (impl_SelfTelling.alloc_old _ _ _ (by simp)).trans (impl_SelfTelling.alloc_at _ _ _ (by simp)), impl_SelfTelling.alloc_at _ _ _ (by simp), by have := HBW.out.size; omega, Kd.S_below (impl_SelfTelling.S_empty w2 w.heap.size HBW.out.size) (below_alloc (below_alloc (Below.refl _ _) _) _)⟩); rintro e w5 ⟨rfl, v5, hi5, hb5, hk5⟩; have HI5 := Aside0.mk hi5; have HB5 := Aside0.mk hb5; have hco5 : w5.cell? ⟨w2.heap.size + 1, 0, none⟩ = some v5 := (blk_cell hi5.2.1 0).trans rfl; clear hi5 hb5 hk5 hcn))
    go_ret2
    exact ⟨v5, rfl, HI5.out.2.2.2.2, HB5.out⟩
  case neg =>
    have hin : impl_in.f a0 1 10 = some false := by
      unfold impl_in.f
      by_cases q1 : 1 ≤ a0
      · rw [if_pos q1, decide_eq_false (fun q2 => q ⟨q1, q2⟩)]
      · rw [if_neg q1]
    have h3 : ([], false) = (r1, r2) := by
      by_cases q1 : 1 ≤ a0
      · rw [if_pos q1, if_neg (fun q2 => q ⟨q1, q2⟩)] at h
        exact Option.some.inj h
      · rw [if_neg q1] at h
        exact Option.some.inj h
    obtain ⟨rfl, rfl⟩ := Prod.mk.inj h3
    have A1 := Aside0.mk hin
    clear hin h h3 q
    go_enter Try.func6, Try.ntmps6
    go_wp2_with (first
      | (go_at_call 23; refine (impl_in.calls a0 1 10 false _ A1.out).mono ?_; rintro e w2 ⟨rfl, hb2⟩; have HBW := Aside0.mk (below_step (below_alloc (Below.refl _ _) (.cells #[.int .i64 a0] 3) : Below w.heap.size w _) hb2.below); clear hb2))
    go_ret2
    exact ⟨_, rfl, Kd.S_nil _ _ _ _ _, HBW.out⟩

/-! ### spec_l1In: function 21 -/
def spec_l1In.f (a0 : Int) (a1 : Int) (a2 : Int) : Option (Bool) := if a0 ≥ a1 then (some (decide (a0 ≤ a2))) else (some false)
set_option maxHeartbeats 8000000 in
set_option maxRecDepth 100000 in
theorem spec_l1In.calls (a0 : Int) (a1 : Int) (a2 : Int) (r : Bool) (w : World) (h : spec_l1In.f a0 a1 a2 = some r) :
    Calls Try.prog 21 #[.int .i64 a0, .int .i64 a1, .int .i64 a2] w fun e w' => e = .returned (.bool r) ∧ Drawn0 w w' := by
  have H : (if a0 ≥ a1 then (some (decide (a0 ≤ a2))) else (some false)) = some r := h
  clear h
  by_cases c4 : a0 ≥ a1
  · rw [if_pos c4] at H
    have c4b0 : decide (a1 ≤ a0) = true := decide_eq_true c4
    clear c4
    obtain rfl := Option.some.inj H
    go_enter Try.func21, Try.ntmps21
    go_wp2
    go_ret
    exact ⟨by first | rfl | (simp; done) | (simp [*]; done), by repeat (first | exact Drawn0.refl _ | apply Drawn0.step)⟩
  · rw [if_neg c4] at H
    have c4b0 : decide (a1 ≤ a0) = false := decide_eq_false c4
    clear c4
    obtain rfl := Option.some.inj H
    go_enter Try.func21, Try.ntmps21
    go_wp2
    go_ret
    exact ⟨by first | rfl | (simp; done) | (simp [*]; done), by repeat (first | exact Drawn0.refl _ | apply Drawn0.step)⟩

/-! ### spec_dgSum: function 36 -/
def spec_dgSum.l0 : Nat → Int → List Int → Int → Int → Option (Int)
  | 0, _, _, _, _ => none
  | k + 1, x3, x6, x7, x8 => if x8 < x7 then (if 0 ≤ x8 then (if x8 < (x6.length : Int) then (spec_dgSum.l0 k (wrap64 (x3 + (rd x6 x8))) x6 x7 (wrap64 (x8 + 1))) else (none)) else (none)) else (some x3)
def spec_dgSum.f (k : Nat) (l0 : List Int) : Option (Int) := spec_dgSum.l0 k 0 l0 (l0.length : Int) 0
theorem spec_dgSum.mono_l : ∀ k, (∀ y0 y1 y2 y3, LeO (spec_dgSum.l0 k y0 y1 y2 y3) (spec_dgSum.l0 (k + 1) y0 y1 y2 y3))
  | 0 => fun _ _ _ _ r h => by simp [spec_dgSum.l0] at h
  | k + 1 => by
    have ih0 := spec_dgSum.mono_l k
    · intro y0 y1 y2 y3
      unfold spec_dgSum.l0
      repeat' first
      | (with_reducible exact ih0 _ _ _ _)
      | (with_reducible exact LeO.refl _)
      | (with_reducible exact LeO.none _)
      | (with_reducible refine LeO.ite ?_ ?_)
      | (with_reducible refine LeO.bind ?_ (fun _ => ?_))
      | exact ih0 _ _ _ _
      | exact LeO.none _
      | refine LeO.ite ?_ ?_
      | refine LeO.bind ?_ (fun _ => ?_)
theorem spec_dgSum.mono : ∀ a0 k, LeO (spec_dgSum.f k a0) (spec_dgSum.f (k + 1) a0) := by
  intro a0 k
  have ih0 := spec_dgSum.mono_l k
  unfold spec_dgSum.f
  repeat' first
      | (with_reducible exact ih0 _ _ _ _)
      | (with_reducible exact LeO.refl _)
      | (with_reducible exact LeO.none _)
      | (with_reducible refine LeO.ite ?_ ?_)
      | (with_reducible refine LeO.bind ?_ (fun _ => ?_))
      | exact ih0 _ _ _ _
      | exact LeO.none _
      | refine LeO.ite ?_ ?_
      | refine LeO.bind ?_ (fun _ => ?_)
set_option maxHeartbeats 8000000 in
set_option maxRecDepth 100000 in
theorem spec_dgSum.calls (k : Nat) (A0 : Option Addr) (c0 : Nat) (l0 : List Int) (r : Int) (w : World) (hr0 : Kd.C (Kd.int .i64) w A0 l0.length l0) (hc0 : l0.length ≤ c0) (h : spec_dgSum.f k l0 = some r) :
    Calls Try.prog 36 #[.slice A0 l0.length c0] w fun e w' => e = .returned (.int .i64 r) ∧ Drawn0 w w' := by
  have HR0 := Aside0.mk hr0
  have HC0 := Aside0.mk hc0
  clear hr0 hc0
  have H : (spec_dgSum.l0 k 0 l0 (l0.length : Int) 0) = some r := h
  clear h
  have H' := Aside0.mk H
  clear H
  go_enter Try.func36, Try.ntmps36
  go_wp2
  go_loopg [3, 8] k (fun kq v3 v8 w' => ∃ (x3_1 : Int) (x8_1 : Int), v3 = .int .i64 x3_1 ∧ v8 = .int .i64 x8_1 ∧ Aside0 (spec_dgSum.l0 kq x3_1 l0 (l0.length : Int) x8_1 = some r) ∧ Aside0 (kq ≤ k) ∧ Drawn0 w w')
  case atStart => exact ⟨(0), (0), (by first | rfl | (simp; done) | (simp [*]; done)), (by first | rfl | (simp; done) | (simp [*]; done)), H', ⟨Nat.le_refl _⟩, by repeat (first | exact Drawn0.refl _ | apply Drawn0.step)⟩
  case round =>
    clear H'
    obtain ⟨x3_1, x8_1, rfl, rfl, HA, HK1, ⟨m1, rfl⟩⟩ := hrel
    cases gk with
    | zero => exact absurd HA.out (by simp [spec_dgSum.l0])
    | succ k1 =>
      have H := HA.out
      clear HA
      simp only [spec_dgSum.l0] at H
      by_cases c2 : x8_1 < (l0.length : Int)
      · rw [if_pos c2] at H
        have c2b0 : decide (x8_1 < (l0.length : Int)) = true := decide_eq_true c2
        clear c2
        by_cases c3 : 0 ≤ x8_1
        · rw [if_pos c3] at H
          have c3b0 : decide (0 ≤ x8_1) = true := decide_eq_true c3
          clear c3
          by_cases c4 : x8_1 < (l0.length : Int)
          · rw [if_pos c4] at H
            have c4b0 : decide (x8_1 < (l0.length : Int)) = true := decide_eq_true c4
            clear c4
            have H' := Aside0.mk H
            clear H
            have p137 : 0 ≤ (x8_1 : Int) := of_decide_eq_true (by first | (with_reducible assumption) | assumption)
            have q137 : x8_1 < (l0.length : Int) := of_decide_eq_true (by first | (with_reducible assumption) | assumption)
            obtain ⟨ad137, e137, hx137_0⟩ := Kd.at_int HR0.out x8_1 p137 q137
            cases e137
            replace p137 := eq_true p137
            replace q137 := eq_true q137
            go_wp2
            go_roundg k1
            case measure => have := HK1.out; omega
            case rel => exact ⟨(wrap64 (x3_1 + (rd l0 x8_1))), (wrap64 (x8_1 + 1)), (by first | rfl | (simp; done) | (simp [*]; done)), (by first | rfl | (simp; done) | (simp [*]; done)), H', ⟨by have := HK1.out; omega⟩, by repeat (first | exact Drawn0.refl _ | apply Drawn0.step)⟩
          · rw [if_neg c4] at H
            exact absurd H (by simp)
        · rw [if_neg c3] at H
          exact absurd H (by simp)
      · rw [if_neg c2] at H
        have c2b0 : decide (x8_1 < (l0.length : Int)) = false := decide_eq_false c2
        clear c2
        obtain rfl := Option.some.inj H
        go_wp2
        go_ret
        exact ⟨by first | rfl | (simp; done) | (simp [*]; done), by repeat (first | exact Drawn0.refl _ | apply Drawn0.step)⟩

/-! ### spec_teCounts: function 35 -/
def spec_teCounts.l0 : Nat → List Int → List Int → List Int → Int → Int → Option (List Int)
  | 0, _, _, _, _, _ => none
  | k + 1, x0, x3, x9, x10, x11 => if x11 < x10 then (if 0 ≤ x11 then (if x11 < (x9.length : Int) then ((spec_l1In.f (rd x9 x11) 0 (wrap64 ((x0.length : Int) - 1))).bind fun t142 => (if t142 = true then (if 0 ≤ (rd x9 x11) then (if (rd x9 x11) < (x3.length : Int) then (spec_teCounts.l0 k x0 (x3.set ((rd x9 x11) : Int).toNat (wrap64 ((rd x3 (rd x9 x11)) + 1))) x9 x10 (wrap64 (x11 + 1))) else (none)) else (none)) else (spec_teCounts.l0 k x0 x3 x9 x10 (wrap64 (x11 + 1))))) else (none)) else (none)) else (some x3)
def spec_teCounts.f (k : Nat) (l0 : List Int) : Option (List Int) := if 0 ≤ (l0.length : Int) then (if ((l0.length : Int) : Int).toNat ≤ 35184372088832 then (spec_teCounts.l0 k l0 (List.replicate ((l0.length : Int) : Int).toNat 0) l0 (l0.length : Int) 0) else (none)) else (none)
theorem spec_teCounts.mono_l : ∀ k, (∀ y0 y1 y2 y3 y4, LeO (spec_teCounts.l0 k y0 y1 y2 y3 y4) (spec_teCounts.l0 (k + 1) y0 y1 y2 y3 y4))
  | 0 => fun _ _ _ _ _ r h => by simp [spec_teCounts.l0] at h
  | k + 1 => by
    have ih0 := spec_teCounts.mono_l k
    · intro y0 y1 y2 y3 y4
      unfold spec_teCounts.l0
      repeat' first
      | (with_reducible exact ih0 _ _ _ _ _)
      | (with_reducible exact LeO.refl _)
      | (with_reducible exact LeO.none _)
      | (with_reducible refine LeO.ite ?_ ?_)
      | (with_reducible refine LeO.bind ?_ (fun _ => ?_))
      | exact ih0 _ _ _ _ _
      | exact LeO.none _
      | refine LeO.ite ?_ ?_
      | refine LeO.bind ?_ (fun _ => ?_)
theorem spec_teCounts.mono : ∀ a0 k, LeO (spec_teCounts.f k a0) (spec_teCounts.f (k + 1) a0) := by
  intro a0 k
  have ih0 := spec_teCounts.mono_l k
  unfold spec_teCounts.f
  repeat' first
      | (with_reducible exact ih0 _ _ _ _ _)
      | (with_reducible exact LeO.refl _)
      | (with_reducible exact LeO.none _)
      | (with_reducible refine LeO.ite ?_ ?_)
      | (with_reducible refine LeO.bind ?_ (fun _ => ?_))
      | exact ih0 _ _ _ _ _
      | exact LeO.none _
      | refine LeO.ite ?_ ?_
      | refine LeO.bind ?_ (fun _ => ?_)
set_option maxHeartbeats 8000000 in
set_option maxRecDepth 100000 in
theorem spec_teCounts.calls (k : Nat) (A0 : Option Addr) (c0 : Nat) (l0 : List Int) (r : List Int) (w : World) (hr0 : Kd.C (Kd.int .i64) w A0 l0.length l0) (hc0 : l0.length ≤ c0) (h : spec_teCounts.f k l0 = some r) :
    Calls Try.prog 35 #[.slice A0 l0.length c0] w fun e w' => ∃ v0_ : Value, e = .returned (v0_) ∧ Kd.R (Kd.int .i64) 3 w' w.heap.size (fun _ => True) v0_ r ∧ Below w.heap.size w w' := by
  have HR0 := Aside0.mk hr0
  have HC0 := Aside0.mk hc0
  clear hr0 hc0
  have HB := Aside0.mk (Below.refl w.heap.size w)
  have H : (if 0 ≤ (l0.length : Int) then (if ((l0.length : Int) : Int).toNat ≤ 35184372088832 then (spec_teCounts.l0 k l0 (List.replicate ((l0.length : Int) : Int).toNat 0) l0 (l0.length : Int) 0) else (none)) else (none)) = some r := h
  clear h
  by_cases c2 : 0 ≤ (l0.length : Int)
  · rw [if_pos c2] at H
    have c2b0 := eq_true c2
    have c2b1 : decide (0 ≤ (l0.length : Int)) = true := decide_eq_true c2
    clear c2
    by_cases c3 : ((l0.length : Int) : Int).toNat ≤ 35184372088832
    · rw [if_pos c3] at H
      have c3b0 := eq_true c3
      have c3b1 : decide (((l0.length : Int) : Int).toNat ≤ 35184372088832) = true := decide_eq_true c3
      clear c3
      obtain ⟨y138, hy138⟩ : ∃ y_ : List Int, y_ = (List.replicate ((l0.length : Int) : Int).toNat 0) := ⟨_, rfl⟩
      replace H : (spec_teCounts.l0 k l0 y138 l0 (l0.length : Int) 0) = some r := by first | (rw [hy138]; with_reducible exact H) | (have H2_ := (Option.bind_some _ _).symm.trans H; rw [hy138]; with_reducible exact H2_) | (have H2_ := (Option.bind_some _ _).symm.trans H; with_reducible exact H2_) | with_reducible exact H | (rw [hy138]; exact H) | exact H
      have Ny138 := Aside0.mk hy138
      clear hy138
      have H' := Aside0.mk H
      clear H
      go_enter Try.func35, Try.ntmps35
      go_wp2_with (first | ((with_reducible refine gate_dst (N := 8) rfl ?_); refine Kd.R_make (Kd.int .i64) _ 3 rfl (N := 8) rfl 31 _ _ rfl (l0.length : Int) rfl rfl Try.underlying31 (.int .i64 0) 8 info3 rfl (by decide) (by omega) 0 (ok := fun _ => True) (okp := fun _ => True) rfl (fun _ hk => hk) trivial (of_decide_eq_true (by first | (with_reducible assumption) | assumption)) (Nat.le_trans (Nat.mul_le_mul_right _ (of_decide_eq_true (by first | (with_reducible assumption) | assumption) : (l0.length : Int).toNat ≤ 35184372088832)) (by omega)) (Below.refl _ _) (Nat.le_refl _) ?_; intro v139 w4 ho5 hb hg_ hnew_; clear hg_ hnew_; (first | rw [← Ny138.out] at ho5 | (simp only [Int.reduceToNat] at ho5; rw [← Ny138.out] at ho5)); have n0_ := Aside0.mk (Kd.R_lower ho5 (below_size (by repeat (first | (with_reducible first | exact HB.out | apply below_alloc | apply pw_below_drewN | apply below_drew1) | exact HB.out)))); have n1_ := Aside0.mk (below_step (by repeat (first | (with_reducible first | exact HB.out | apply below_alloc | apply pw_below_drewN | apply below_drew1) | exact HB.out)) hb); clear HB; have HO140 := n0_; have HB := n1_; clear n0_ n1_; clear hb ho5))
      go_loopg [11] k (fun kq v11 w' => ∃ (x3_1 : List Int) (x11_1 : Int), v11 = .int .i64 x11_1 ∧ Aside0 (spec_teCounts.l0 kq l0 x3_1 l0 (l0.length : Int) x11_1 = some r) ∧ Aside0 (kq ≤ k) ∧ Aside0 (Kd.R (Kd.int .i64) 3 w' w.heap.size (fun _ => True) v139 x3_1) ∧ Aside0 (Below w.heap.size w w'))
      case atStart => exact ⟨(y138), (0), (by first | rfl | (simp; done) | (simp [*]; done)), H', ⟨Nat.le_refl _⟩, ⟨by (with_reducible repeat (first | apply Kd.R_alloc | apply Kd.R_drewN | apply Kd.R_drew)); exact HO140.out⟩, ⟨by repeat (first | (with_reducible first | exact HB.out | apply below_alloc | apply pw_below_drewN | apply below_drew1) | exact HB.out)⟩⟩
      case round =>
        clear H'
        try clear c2
        try clear c2b0
        try clear c2b1
        try clear p2
        try clear c3
        try clear c3b0
        try clear c3b1
        obtain ⟨x3_1, x11_1, rfl, HA, HK1, HO_3, HB⟩ := hrel
        cases gk with
        | zero => exact absurd HA.out (by simp [spec_teCounts.l0])
        | succ k1 =>
          have H := HA.out
          clear HA
          simp only [spec_teCounts.l0] at H
          by_cases c6 : x11_1 < (l0.length : Int)
          · rw [if_pos c6] at H
            have c6b0 : decide (x11_1 < (l0.length : Int)) = true := decide_eq_true c6
            clear c6
            by_cases c7 : 0 ≤ x11_1
            · rw [if_pos c7] at H
              have c7b0 : decide (0 ≤ x11_1) = true := decide_eq_true c7
              clear c7
              by_cases c8 : x11_1 < (l0.length : Int)
              · rw [if_pos c8] at H
                have c8b0 : decide (x11_1 < (l0.length : Int)) = true := decide_eq_true c8
                clear c8
                replace H := Option.bind_eq_some_iff.mp H
                obtain ⟨t142, A90, H⟩ := H
                replace H : (if t142 = true then (if 0 ≤ (rd l0 x11_1) then (if (rd l0 x11_1) < (x3_1.length : Int) then (spec_teCounts.l0 k1 l0 (x3_1.set ((rd l0 x11_1) : Int).toNat (wrap64 ((rd x3_1 (rd l0 x11_1)) + 1))) l0 (l0.length : Int) (wrap64 (x11_1 + 1))) else (none)) else (none)) else (spec_teCounts.l0 k1 l0 x3_1 l0 (l0.length : Int) (wrap64 (x11_1 + 1)))) = some r := H
                have A9 := Aside0.mk A90
                clear A90
                by_cases c10 : t142 = true
                · subst c10
                  have H1 : (if 0 ≤ (rd l0 x11_1) then (if (rd l0 x11_1) < (x3_1.length : Int) then (spec_teCounts.l0 k1 l0 (x3_1.set ((rd l0 x11_1) : Int).toNat (wrap64 ((rd x3_1 (rd l0 x11_1)) + 1))) l0 (l0.length : Int) (wrap64 (x11_1 + 1))) else (none)) else (none)) = some r := by rw [if_pos rfl] at H; exact H
                  clear H
                  have H := H1
                  clear H1
                  by_cases c11 : 0 ≤ (rd l0 x11_1)
                  · rw [if_pos c11] at H
                    have c11b0 : decide (0 ≤ (rd l0 x11_1)) = true := decide_eq_true c11
                    clear c11
                    by_cases c12 : (rd l0 x11_1) < (x3_1.length : Int)
                    · rw [if_pos c12] at H
                      have c12b0 : decide ((rd l0 x11_1) < (x3_1.length : Int)) = true := decide_eq_true c12
                      clear c12
                      obtain ⟨y144, hy144⟩ : ∃ y_ : List Int, y_ = (x3_1.set ((rd l0 x11_1) : Int).toNat (wrap64 ((rd x3_1 (rd l0 x11_1)) + 1))) := ⟨_, rfl⟩
                      replace H : (spec_teCounts.l0 k1 l0 y144 l0 (l0.length : Int) (wrap64 (x11_1 + 1))) = some r := by first | (rw [hy144]; with_reducible exact H) | (have H2_ := (Option.bind_some _ _).symm.trans H; rw [hy144]; with_reducible exact H2_) | (have H2_ := (Option.bind_some _ _).symm.trans H; with_reducible exact H2_) | with_reducible exact H | (rw [hy144]; exact H) | exact H
                      have Ny144 := Aside0.mk hy144
                      clear hy144
                      have H' := Aside0.mk H
                      clear H
                      have p141 : 0 ≤ (x11_1 : Int) := of_decide_eq_true (by first | (with_reducible assumption) | assumption)
                      have q141 : x11_1 < (l0.length : Int) := of_decide_eq_true (by first | (with_reducible assumption) | assumption)
                      obtain ⟨ad141, e141, hx141_0⟩ := Kd.at_int HR0.out x11_1 p141 q141
                      cases e141
                      replace hx141_0 := (HB.out.cell (World.block_lt_of_cell? w _ hx141_0)).trans hx141_0
                      replace p141 := eq_true p141
                      replace q141 := eq_true q141
                      go_wp2_with (first | ((with_reducible refine gate_callee (f := 21) rfl ?_); refine goesL_ (some 19) rfl rfl Try.func21 (by kernel_rfl) rfl #[.int .i64 (rd l0 x11_1), .int .i64 0, .int .i64 (wrap64 ((l0.length : Int) - 1))] rfl (by (try simp only [List.map_toArray, List.map_cons, List.map_nil]); first | done | rfl | (simp only [List.length_drop, List.length_take]; rfl)) ?_; (with_reducible refine (spec_l1In.calls (rd l0 x11_1) 0 (wrap64 ((l0.length : Int) - 1)) true _ A9.out).mono ?_); rintro e w' ⟨rfl, ⟨nd, rfl⟩⟩; refine ⟨_, rfl, ?_⟩; (try (rw [drewN_self wr]; generalize hq_ : World.drewN wr _ = wr; have n0_ : Aside0 (Kd.R (Kd.int .i64) 3 wr w.heap.size (fun _ => True) v139 x3_1) := ⟨by rw [← hq_]; exact (by (with_reducible repeat (first | apply Kd.R_alloc | apply Kd.R_drewN | apply Kd.R_drew)); exact HO_3.out)⟩; have n1_ : Aside0 (Below w.heap.size w wr) := ⟨by rw [← hq_]; exact (by repeat (first | (with_reducible first | exact HB.out | apply below_alloc | apply pw_below_drewN | apply below_drew1) | exact HB.out))⟩; clear HO_3 HB hq_; have HO_3 := n0_; have HB := n1_; clear n0_ n1_)); obtain ⟨Ao14, co14, eo14⟩ := Kd.R_slice HO_3.out; subst eo14; have p143 : 0 ≤ ((rd l0 x11_1) : Int) := of_decide_eq_true (by first | (with_reducible assumption) | assumption); have q143 : (rd l0 x11_1) < (x3_1.length : Int) := of_decide_eq_true (by first | (with_reducible assumption) | assumption); obtain ⟨ad143, e143, hx143_0⟩ := Kd.at_int (Kd.R_reads' HO_3.out).2.2 (rd l0 x11_1) p143 q143; cases e143; replace p143 := eq_true p143; replace q143 := eq_true q143; have p13 : 0 ≤ ((rd l0 x11_1) : Int) := of_decide_eq_true (by first | (with_reducible assumption) | assumption); have q13 : ((rd l0 x11_1) : Int) < ((x3_1.length : Int) : Int) := of_decide_eq_true (by first | (with_reducible assumption) | assumption); obtain ⟨go13, co13, eo13, gb13, gl13, cl13, HG13⟩ := Kd.R_form HO_3.out (by omega); (first | cases eo13 | (injection eo13 with ea_ en_ ec_; (first | subst ea_ | (injection ea_ with ea_; subst ea_)); subst ec_; clear en_)); have GB13 := Aside0.mk gb13; have GG13 := Aside0.mk HG13; clear gb13 gl13 HG13; (first | simp only [add_plain] at hx143_0 | skip); obtain ⟨hx13_0, hf13_0⟩ := Kd.R_celln 0 HO_3.out ((rd l0 x11_1) : Int) p13 q13; replace p13 := eq_true p13; replace q13 := eq_true q13; obtain ⟨hy15_, hz15_⟩ := Kd.R_celln 0 HO_3.out ((rd l0 x11_1) : Int) (of_decide_eq_true (by first | (with_reducible assumption) | assumption)) (of_decide_eq_true (by first | (with_reducible assumption) | assumption)); have HP15 := Kd.R_putg HO_3.out ((rd l0 x11_1) : Int) (wrap64 ((rd x3_1 (rd l0 x11_1)) + 1))) | ((with_reducible refine gate_store (t := 3) (p := 25) rfl ?_); refine store_event (t := 3) (p := 25) (v := ?vo_w16) (w1 := (wr.setCell ⟨go13, ((rd l0 x11_1) : Int).toNat, none⟩ (.int .i64 (wrap64 ((rd x3_1 (rd l0 x11_1)) + 1))))) ?hg ?ho ?hn ?hr ?_; (case ho => rfl); (case hg => rfl); (case hn => rfl); (case hr => first | (go_simp; done) | (go_simp; rfl)); intro w16 hw; have hg : wr.grownBy w16 (some go13) := (by rw [hw]; exact HP15.2); have hp_ : Kd.R (Kd.int .i64) 3 w16 w.heap.size (fun _ => True) (.slice (some ⟨go13, 0, none⟩) x3_1.length co14) y144 := (by rw [hw, Ny144.out]; exact HP15.1); clear HP15; have n0_ := Aside0.mk (hp_); have n1_ := Aside0.mk ((by rw [hw]; exact below_set (HB.out) GB13.out : Below w.heap.size w w16)); clear HO_3; clear HB; have HO_3 := n0_; have HB := n1_; clear n0_ n1_; clear hg hw hp_))
                      go_roundg k1
                      case measure => have := HK1.out; omega
                      case rel => exact ⟨(y144), (wrap64 (x11_1 + 1)), (by first | rfl | (simp; done) | (simp [*]; done)), H', ⟨by have := HK1.out; omega⟩, ⟨by (with_reducible repeat (first | apply Kd.R_alloc | apply Kd.R_drewN | apply Kd.R_drew)); exact HO_3.out⟩, ⟨by repeat (first | (with_reducible first | exact HB.out | apply below_alloc | apply pw_below_drewN | apply below_drew1) | exact HB.out)⟩⟩
                    · rw [if_neg c12] at H
                      exact absurd H (by simp)
                  · rw [if_neg c11] at H
                    exact absurd H (by simp)
                · replace c10 := Bool.eq_false_iff.mpr c10
                  subst c10
                  have H1 : (spec_teCounts.l0 k1 l0 x3_1 l0 (l0.length : Int) (wrap64 (x11_1 + 1))) = some r := by rw [if_neg (show ¬ (false = true) by decide)] at H; exact H
                  clear H
                  have H := H1
                  clear H1
                  have H' := Aside0.mk H
                  clear H
                  have p141 : 0 ≤ (x11_1 : Int) := of_decide_eq_true (by first | (with_reducible assumption) | assumption)
                  have q141 : x11_1 < (l0.length : Int) := of_decide_eq_true (by first | (with_reducible assumption) | assumption)
                  obtain ⟨ad141, e141, hx141_0⟩ := Kd.at_int HR0.out x11_1 p141 q141
                  cases e141
                  replace hx141_0 := (HB.out.cell (World.block_lt_of_cell? w _ hx141_0)).trans hx141_0
                  replace p141 := eq_true p141
                  replace q141 := eq_true q141
                  go_wp2_with (first | ((with_reducible refine gate_callee (f := 21) rfl ?_); refine goesL_ (some 19) rfl rfl Try.func21 (by kernel_rfl) rfl #[.int .i64 (rd l0 x11_1), .int .i64 0, .int .i64 (wrap64 ((l0.length : Int) - 1))] rfl (by (try simp only [List.map_toArray, List.map_cons, List.map_nil]); first | done | rfl | (simp only [List.length_drop, List.length_take]; rfl)) ?_; (with_reducible refine (spec_l1In.calls (rd l0 x11_1) 0 (wrap64 ((l0.length : Int) - 1)) false _ A9.out).mono ?_); rintro e w' ⟨rfl, ⟨nd, rfl⟩⟩; refine ⟨_, rfl, ?_⟩))
                  go_roundg k1
                  case measure => have := HK1.out; omega
                  case rel => exact ⟨(x3_1), (wrap64 (x11_1 + 1)), (by first | rfl | (simp; done) | (simp [*]; done)), H', ⟨by have := HK1.out; omega⟩, ⟨by (with_reducible repeat (first | apply Kd.R_alloc | apply Kd.R_drewN | apply Kd.R_drew)); exact HO_3.out⟩, ⟨by repeat (first | (with_reducible first | exact HB.out | apply below_alloc | apply pw_below_drewN | apply below_drew1) | exact HB.out)⟩⟩
              · rw [if_neg c8] at H
                exact absurd H (by simp)
            · rw [if_neg c7] at H
              exact absurd H (by simp)
          · rw [if_neg c6] at H
            have c6b0 : decide (x11_1 < (l0.length : Int)) = false := decide_eq_false c6
            clear c6
            obtain rfl := Option.some.inj H
            go_wp2
            go_ret
            exact ⟨_, by first | rfl | (simp [errW_none, errW_some] <;> rfl) | (simp [*, errW_none, errW_some] <;> rfl), by (with_reducible repeat (first | apply Kd.R_alloc | apply Kd.R_drewN | apply Kd.R_drew)); exact HO_3.out, by repeat (first | (with_reducible first | exact HB.out | apply below_alloc | apply pw_below_drewN | apply below_drew1) | exact HB.out)⟩
    · rw [if_neg c3] at H
      exact absurd H (by simp)
  · rw [if_neg c2] at H
    exact absurd H (by simp)

end Go.Proofs.Ytiedpgebceeplaa.PFnSelfTellingLists
