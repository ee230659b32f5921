-- out of the kit's print, turned by wip/own_print.py
import Derived.Test.YtclnhbppcmcalaaPFnOtherCyclesx0
import Derived.Test.YtclnhbppcmcalaaPFnOtherCyclesx1
namespace Go.Proofs.Ytclnhbppcmcalaa.PFnOtherCycles
open Go.RowKit Go.Proofs.YtclnhbppcmcalaaW.PrintWords Go.Proofs.YtclnhbppcmcalaaW.PrintLast Go.Proofs.YtclnhbppcmcalaaW.PrintMore
attribute [local go_sem] max2_int min2_int max_two min_two max_three min_three max_four min_four   -- for this text's walks alone
set_option linter.unusedVariables false
set_option linter.unusedSimpArgs false

/-! ### slices_Concat_int_int: function 106 -/
theorem slices_Concat_int_int.row {w : World} {A0 : Option Addr} {n : Nat} {ls : List (List Int)} (h : Kd.C (Kd.slice 3 (Kd.int .i64)) w A0 n ls) (k : Nat) (hk : k < ls.length) (hn : n = ls.length) :
  ∃ ad A c, A0 = some ad ∧ w.cell? (ad.add k) = some (.slice A (ls.getD k []).length c) ∧ (ls.getD k []).length ≤ c ∧ Kd.C (Kd.int .i64) w A (ls.getD k []).length (ls.getD k []) := by
 subst hn
 obtain ⟨ad, c, h1, h2, h3, h4⟩ := Kd.C_get h [] (k : Int) (by omega) (by omega)
 rw [Int.toNat_natCast] at h3 h4
 obtain ⟨A, cc, rfl, h5, h6⟩ := h3
 refine ⟨ad, A, cc, h1, ?_, h5, h6⟩
 have := h4 0 _ rfl
 rwa [show k * (Kd.slice 3 (Kd.int .i64)).sz + 0 = k from by show k * 1 + 0 = k; omega] at this
set_option maxHeartbeats 2000000 in
set_option maxRecDepth 100000 in
theorem slices_Concat_int_int.grow (m : Nat) (hm : m < 17592186044416) (w : World) :
  Calls Try.prog 123 #[.slice none 0 0, .int .i64 (m : Int)] w fun e w' => ∃ v0_ : Value, e = .returned (v0_) ∧ Kd.R (Kd.int .i64) 3 w' w.heap.size (fun _ => True) v0_ [] ∧ Below w.heap.size w w' := by
 have hd0 : decide ((m : Int) < 0) = false := decide_eq_false (by omega)
 have HB := Aside0.mk (Below.refl w.heap.size w)
 by_cases h0 : 0 < m
 ·have hd1 : decide ((m : Int) > 0) = true := decide_eq_true (by omega)
  have hcut : ∀ W : World, (Instr.slice 25 (.slice none 0 0) none (some (.int .i64 0)) none).run Try.prog W = .ok (.slice none 0 0) W := by
   obtain ⟨i0, hi0, _⟩ := Option.map_eq_some_iff.1 info3
   exact cut_to 25 3 .i64 Try.underlying25 hi0 none 0 0 0 (by omega) (by omega) (by omega)
  have hw1 : wrap64 ((m : Int) - 0) = (m : Int) := by unfold wrap64; omega
  go_enter Try.func123, Try.ntmps123
  go_wp2_with ((with_reducible refine gate_builtin (b := .append) (xs := #[.tmp 20, .tmp 21]) rfl ?_); at_builtin; (refine Kd.R_append_zeros (Kd.int .i64) (w0 := w) w.heap.size rfl (.tmp 20) (.tmp 21) 25 3 3 (.int .i64 0) 8 rfl Try.underlying25 Try.underlying3 info3 rfl (by decide) (by omega) (.slice none 0 0) [] 0 (m : Int) (fun _ => True) rfl rfl rfl (fun _ _ => trivial) (Kd.R_nil _ _ _ _ _) (by omega) (Below.refl _ _) (Nat.le_refl _) (by simp; omega) ?_); intro v1 w1 ho hb hg hat; clear hg hat; rw [Int.toNat_natCast] at ho; have HO := Aside0.mk ho; have HB2 := Aside0.mk hb; clear ho hb; obtain ⟨A1, c1, e1⟩ := Kd.R_slice HO.out; subst e1; have hcut2 : ∀ W : World, (Instr.slice 25 (.slice A1 ([] ++ List.replicate m (0 : Int)).length c1) none (some (.int .i64 0)) none).run Try.prog W = .ok (.slice A1 0 c1) W := (by obtain ⟨i0, hi0, _⟩ := Option.map_eq_some_iff.1 info3; exact cut_to 25 3 .i64 Try.underlying25 hi0 A1 _ c1 0 (by omega) (by omega) (Kd.R_reads' HO.out).2.1))
  go_ret
  exact ⟨_, rfl, by simpa using Kd.R_take HO.out (Nat.zero_le _), HB2.out⟩
 ·obtain rfl : m = 0 := by omega
  go_enter Try.func123, Try.ntmps123
  go_wp2
  go_ret
  exact ⟨_, rfl, Kd.R_nil _ _ _ _ _, HB.out⟩
def slices_Concat_int_int.f (l0 : List (List Int)) : Option (List Int) := if l0.flatten.length < 17592186044416 then some l0.flatten else none
theorem slices_Concat_int_int.take (ls : List (List Int)) (k : Nat) (h : k < ls.length) : (ls.take (k + 1)).flatten = (ls.take k).flatten ++ ls.getD k [] := by
 rw [List.take_succ_eq_append_getElem h, List.flatten_append]
 simp [h]
theorem slices_Concat_int_int.take_le (ls : List (List Int)) (k : Nat) : (ls.take k).flatten.length ≤ ls.flatten.length := by
 have : ls.flatten = (ls.take k).flatten ++ (ls.drop k).flatten := by rw [← List.flatten_append, List.take_append_drop]
 rw [this, List.length_append]
 omega
/-- How long the first so many are together. -/
def slices_Concat_int_int.sum (ls : List (List Int)) (k : Nat) : Nat := (ls.take k).flatten.length
theorem slices_Concat_int_int.sum_step (ls : List (List Int)) (k : Nat) (h : k < ls.length) : slices_Concat_int_int.sum ls (k + 1) = slices_Concat_int_int.sum ls k + (ls.getD k []).length := by
 unfold slices_Concat_int_int.sum
 rw [slices_Concat_int_int.take ls k h, List.length_append]
set_option maxHeartbeats 4000000 in
set_option maxRecDepth 100000 in
theorem slices_Concat_int_int.calls (A0 : Option Addr) (c0 : Nat) (l0 : List (List Int)) (r : List Int) (w : World) (hr0 : Kd.C (Kd.slice 3 (Kd.int .i64)) w A0 l0.length l0) (hc0 : l0.length ≤ c0) (h : slices_Concat_int_int.f l0 = some r) :
  Calls Try.prog 106 #[.slice A0 l0.length c0] w fun e w' => ∃ v0_ : Value, e = .returned (v0_) ∧ Kd.R (Kd.int .i64) 3 w' w.heap.size (fun _ => True) v0_ r ∧ Below w.heap.size w w' := by
 unfold slices_Concat_int_int.f at h
 by_cases hs : l0.flatten.length < 17592186044416
 ·rw [if_pos hs] at h
  obtain rfl := Option.some.inj h
  clear h hc0
  have hlen : l0.length ≤ 9223372036854775807 := hr0.2.1
  have HR := Aside0.mk hr0
  clear hr0
  have HB := Aside0.mk (Below.refl w.heap.size w)
  have hs2 : slices_Concat_int_int.sum l0 l0.length < 17592186044416 := by unfold slices_Concat_int_int.sum; rw [List.take_length]; exact hs
  have hgr := slices_Concat_int_int.grow (slices_Concat_int_int.sum l0 l0.length) hs2 w
  have HG := Aside0.mk hgr
  clear hgr
  have HS := Aside0.mk hs
  clear hs hs2
  have hcase : ∀ k, k ≤ l0.length → slices_Concat_int_int.sum l0 k < 17592186044416 := fun k _ => Nat.lt_of_le_of_lt (slices_Concat_int_int.take_le l0 k) HS.out
  have HT := Aside0.mk hcase
  clear hcase
  go_enter Try.func106, Try.ntmps106
  go_wp2
  go_loopw [3, 11] (fun s v wr => ∃ k : Nat, k ≤ l0.length ∧ v = .int .i64 k ∧ s = .int .i64 (slices_Concat_int_int.sum l0 k : Int) ∧ w = wr) (fun _ v _ => l0.length - (intOf v).toNat)
  case atStart => exact ⟨0, Nat.zero_le _, rfl, rfl, rfl⟩
  case round =>
   obtain ⟨k, hk, rfl, rfl, rfl⟩ := hrel
   by_cases hlt : k < l0.length
   ·obtain ⟨ad, A, c, rfl, hx, hc, _⟩ := slices_Concat_int_int.row HR.out k hlt rfl
    have ht := slices_Concat_int_int.sum_step l0 k hlt
    have h1 := HT.out (k + 1) (by omega)
    rw [ht] at h1
    have HT1 := Aside0.mk ht
    clear ht
    generalize hq : slices_Concat_int_int.sum l0 k = q at h1 ⊢
    generalize hp : (l0.getD k []).length = p at h1 hx hc ⊢
    have hd2 : decide ((q : Int) + (p : Int) < 0) = false := decide_eq_false (by omega)
    have HQ := Aside0.mk hq
    have HP := Aside0.mk hp
    clear hq hp
    go_wp2
    refine ⟨⟨k + 1, by omega, by go_num, ?_, trivial⟩, by simp [intOf]; omega⟩
    rw [HT1.out, HQ.out, HP.out]
    go_num
   ·obtain rfl : k = l0.length := by omega
    go_wp2_with (go_at_call 123; refine HG.out.mono ?_; rintro e w1 ⟨v1, rfl, ho, hb⟩; have HO := Aside0.mk ho; have HB1 := Aside0.mk hb; clear ho hb)
    go_loopw [6, 27] (fun s v wr => ∃ k : Nat, k ≤ l0.length ∧ v = .int .i64 k ∧ Aside0 (Kd.R (Kd.int .i64) 3 wr w.heap.size (fun _ => True) s (l0.take k).flatten) ∧ Aside0 (Below w.heap.size w wr)) (fun _ v _ => l0.length - (intOf v).toNat)
    case atStart => exact ⟨0, Nat.zero_le _, rfl, HO, HB1⟩
    case round =>
     obtain ⟨k, hk, rfl, HO2, HB2⟩ := hrel
     by_cases hlt2 : k < l0.length
     ·obtain ⟨ad, A, c, rfl, hx, hc, hC⟩ := slices_Concat_int_int.row (Kd.C_below HR.out HB2.out) k hlt2 rfl
      have ht := slices_Concat_int_int.take l0 k hlt2
      have h1 := HT.out (k + 1) (by omega)
      rw [slices_Concat_int_int.sum_step l0 k hlt2] at h1
      unfold slices_Concat_int_int.sum at h1
      generalize l0.getD k [] = row at hx hc hC ht h1
      have HT1 := Aside0.mk ht
      have HL1 := Aside0.mk h1
      have HC := Aside0.mk hC
      clear ht h1 hC
      go_wp2_with ((with_reducible refine gate_builtin (b := .append) (xs := #[.tmp 31, .tmp 32]) rfl ?_); at_builtin; (refine Kd.R_append_row (Value.int .i64) (0 : Int) (h1 := fun _ => rfl) (w0 := w) w.heap.size rfl (.tmp 31) (.tmp 32) 25 3 (.int .i64 0) 8 rfl Try.underlying25 info3 rfl (by omega) _ (l0.take k).flatten row A _ c (fun _ => True) rfl rfl (fun _ _ => trivial) HO2.out HC.out HB2.out HB2.out.size (by have := HL1.out; omega) ?_); intro v2 w2 ho hb hg hat; clear hg hat; have HO3 := Aside0.mk ho; have HB3 := Aside0.mk hb; clear ho hb)
      refine ⟨⟨k + 1, by omega, by go_num, ⟨by rw [HT1.out]; exact HO3.out⟩, HB3⟩, by simp [intOf]; omega⟩
     ·obtain rfl : k = l0.length := by omega
      go_wp2
      go_ret
      refine ⟨_, rfl, ?_, HB2.out⟩
      have := HO2.out
      rwa [List.take_length] at this
 ·rw [if_neg hs] at h
  exact absurd h (by simp)

/-! ### impl_leastFirst: function 86 -/
def impl_leastFirst.f (k : Nat) (l0 : List Int) : Option (List Int) := (slices_Min_int_int.f l0).bind fun t132 => ((slices_Index_int_int.f k l0 t132).bind fun t133 => (if 0 ≤ t133 then (if t133 ≤ (l0.length : Int) then ((slices_Concat_int_int.f (([(l0.drop (t133 : Int).toNat), (l0.take (t133 : Int).toNat)] : List (List Int)))).bind fun t147 => (some t147)) else (none)) else (none)))
theorem impl_leastFirst.mono : ∀ a0 k, LeO (impl_leastFirst.f k a0) (impl_leastFirst.f (k + 1) a0) := by
 intro a0 k
 unfold impl_leastFirst.f
 repeat' first
   | (with_reducible exact slices_Index_int_int.mono _ _ _)
   | (with_reducible exact LeO.refl _)
   | (with_reducible exact LeO.none _)
   | (with_reducible refine LeO.ite ?_ ?_)
   | (with_reducible refine LeO.bind ?_ (fun _ => ?_))
   | exact slices_Index_int_int.mono _ _ _
   | exact LeO.none _
   | refine LeO.ite ?_ ?_
   | refine LeO.bind ?_ (fun _ => ?_)
def impl_leastFirst.T2 : Bool × List (List Nat × List Nat) := (true, [([], []), ([], []), ([0, 1], [0, 1]), ([], []), ([], []), ([3, 4], [3, 4]), ([2, 5], [2, 5]), ([6], [6]), ([7, 7, 0, 1, 2, 3, 4, 5, 6, 7], [7])])
def impl_leastFirst.B2 : List Nat := [0, 0, 3, 0, 0, 24, 63, 127, 255]
theorem impl_leastFirst.tab2 : rtab .any (opsOf Try.f86 2) = impl_leastFirst.T2 := by kernel_rfl
theorem impl_leastFirst.bits2 : waitsOk impl_leastFirst.T2.2 impl_leastFirst.B2 = true := by kernel_rfl
set_option maxHeartbeats 8000000 in
set_option maxRecDepth 100000 in
theorem impl_leastFirst.callsV (k : Nat) (P0_ : Nat → Prop) (A0 : Option Addr) (c0 : Nat) (l0 : List Int) (r : List Int) (w : World) (hs0 : Kd.V (Kd.int .i64) 3 w w.heap.size (fun k_ => P0_ k_) (.slice A0 l0.length c0) l0) (h : impl_leastFirst.f k l0 = some r) :
  Calls Try.prog 86 #[.slice A0 l0.length c0] w fun e w' => ∃ v0_ : Value, e = .returned (v0_) ∧ Kd.R (Kd.int .i64) 3 w' w.heap.size (fun k_ => (w.heap.size ≤ k_)) v0_ r ∧ Below w.heap.size w w' := by
 have HO0 := Aside0.mk (show Kd.V (Kd.int .i64) 3 w w.heap.size (fun k_ => (P0_ k_ ∨ w.heap.size ≤ k_)) (.slice A0 l0.length c0) l0 from Kd.V_mono hs0 (fun k_ hk => .inl hk))
 have HB := Aside0.mk (Below.refl w.heap.size w)
 have H : ((slices_Min_int_int.f l0).bind fun t132 => ((slices_Index_int_int.f k l0 t132).bind fun t133 => (if 0 ≤ t133 then (if t133 ≤ (l0.length : Int) then ((slices_Concat_int_int.f (([(l0.drop (t133 : Int).toNat), (l0.take (t133 : Int).toNat)] : List (List Int)))).bind fun t147 => (some t147)) else (none)) else (none)))) = some r := h
 clear h
 replace H := Option.bind_eq_some_iff.mp H
 obtain ⟨t132, A20, H⟩ := H
 replace H : ((slices_Index_int_int.f k l0 t132).bind fun t133 => (if 0 ≤ t133 then (if t133 ≤ (l0.length : Int) then ((slices_Concat_int_int.f (([(l0.drop (t133 : Int).toNat), (l0.take (t133 : Int).toNat)] : List (List Int)))).bind fun t147 => (some t147)) else (none)) else (none))) = some r := H
 have A2 := Aside0.mk A20
 clear A20
 replace H := Option.bind_eq_some_iff.mp H
 obtain ⟨t133, A30, H⟩ := H
 replace H : (if 0 ≤ t133 then (if t133 ≤ (l0.length : Int) then ((slices_Concat_int_int.f (([(l0.drop (t133 : Int).toNat), (l0.take (t133 : Int).toNat)] : List (List Int)))).bind fun t147 => (some t147)) else (none)) else (none)) = some r := H
 have A3 := Aside0.mk A30
 clear A30
 by_cases c4 : 0 ≤ t133
 ·rw [if_pos c4] at H
  have c4b0 := eq_true c4
  have c4b1 : decide (0 ≤ t133) = true := decide_eq_true c4
  clear c4
  by_cases c5 : t133 ≤ (l0.length : Int)
  ·rw [if_pos c5] at H
   have c5b0 := eq_true c5
   have c5b1 : decide (t133 ≤ (l0.length : Int)) = true := decide_eq_true c5
   clear c5
   obtain ⟨y134, hy134⟩ : ∃ y_ : List Int, y_ = (l0.drop (t133 : Int).toNat) := ⟨_, rfl⟩
   replace H : ((slices_Concat_int_int.f (([y134, (l0.take (t133 : Int).toNat)] : List (List Int)))).bind fun t147 => (some t147)) = some r := by first | (rw [hy134]; with_reducible exact H) | (have H2_ := (Option.bind_some _ _).symm.trans H; rw [hy134]; with_reducible exact H2_) | (have H2_ := (Option.bind_some _ _).symm.trans H; with_reducible exact H2_) | with_reducible exact H | (rw [hy134]; exact H) | exact H
   have Ny134 := Aside0.mk hy134
   clear hy134
   have c6b0 := eq_true (of_decide_eq_true (by first | (with_reducible assumption) | assumption) : 0 ≤ t133)
   have c7b0 := eq_true (of_decide_eq_true (by first | (with_reducible assumption) | assumption) : t133 ≤ (l0.length : Int))
   obtain ⟨y139, hy139⟩ : ∃ y_ : List Int, y_ = (l0.take (t133 : Int).toNat) := ⟨_, rfl⟩
   replace H : ((slices_Concat_int_int.f (([y134, y139] : List (List Int)))).bind fun t147 => (some t147)) = some r := by first | (rw [hy139]; with_reducible exact H) | (have H2_ := (Option.bind_some _ _).symm.trans H; rw [hy139]; with_reducible exact H2_) | (have H2_ := (Option.bind_some _ _).symm.trans H; with_reducible exact H2_) | with_reducible exact H | (rw [hy139]; exact H) | exact H
   have Ny139 := Aside0.mk hy139
   clear hy139
   obtain ⟨y144, hy144⟩ : ∃ y_ : List (List Int), y_ = (([y134, y139] : List (List Int))) := ⟨_, rfl⟩
   replace H : ((slices_Concat_int_int.f y144).bind fun t147 => (some t147)) = some r := by first | (rw [hy144]; with_reducible exact H) | (have H2_ := (Option.bind_some _ _).symm.trans H; rw [hy144]; with_reducible exact H2_) | (have H2_ := (Option.bind_some _ _).symm.trans H; with_reducible exact H2_) | with_reducible exact H | (rw [hy144]; exact H) | exact H
   have Ny144 := Aside0.mk hy144
   clear hy144
   replace H := Option.bind_eq_some_iff.mp H
   obtain ⟨t147, A80, H⟩ := H
   replace H : (some t147) = some r := H
   have A8 := Aside0.mk A80
   clear A80
   obtain rfl := Option.some.inj H
   go_enter Try.func86, Try.ntmps86
   try go_wp2_with (first | ((with_reducible refine gate_callee (f := 105) rfl ?_); refine goesL_ (some 6) rfl rfl Try.func105 (by kernel_rfl) rfl #[.slice A0 l0.length c0] rfl (by (try simp only [List.map_toArray, List.map_cons, List.map_nil]); first | done | rfl | (simp only [List.length_drop, List.length_take]; rfl)) ?_; (with_reducible refine (slices_Min_int_int.calls _ _ l0 t132 _ ?side1 ?side2 A2.out).mono ?_); (case side1 => repeat (first | exact (Kd.V_reads' HO0.out).2.2 | (with_reducible refine Kd.C_alloc ?_ _) | (with_reducible refine Kd.C_drewN ?_ _) | (with_reducible refine Kd.C_drew ?_))); (case side2 => exact (Kd.V_reads' HO0.out).2.1); rintro e w' ⟨rfl, ⟨nd1_, rfl⟩⟩; refine ⟨_, rfl, ?_⟩) | ((with_reducible refine gate_callee (f := 104) rfl ?_); refine goesL_ (some 7) rfl rfl Try.func104 (by kernel_rfl) rfl #[.slice A0 l0.length c0, .int .i64 t132] rfl (by (try simp only [List.map_toArray, List.map_cons, List.map_nil]); first | done | rfl | (simp only [List.length_drop, List.length_take]; rfl)) ?_; (with_reducible refine (slices_Index_int_int.calls k _ _ l0 t132 t133 _ ?side1 ?side2 A3.out).mono ?_); (case side1 => repeat (first | exact (Kd.V_reads' HO0.out).2.2 | (with_reducible refine Kd.C_alloc ?_ _) | (with_reducible refine Kd.C_drewN ?_ _) | (with_reducible refine Kd.C_drew ?_))); (case side2 => exact (Kd.V_reads' HO0.out).2.1); rintro e w' ⟨rfl, ⟨nd2_, rfl⟩⟩; refine ⟨_, rfl, ?_⟩))
   have n0_ := Aside0.mk (Kd.V_drew (Kd.V_drewN HO0.out (nd1_ + nd2_)))
   have n1_ := Aside0.mk (below_drew1 (pw_below_drewN HB.out (nd1_ + nd2_)))
   clear HO0
   clear HB
   have HO0 := n0_
   have HB := n1_
   clear n0_ n1_
   have q10 : (t133 : Int) ≤ ((l0.length : Int) : Int) := of_decide_eq_true (by first | (with_reducible assumption) | assumption)
   obtain ⟨i010, hi010, _, hsz10, _⟩ := info_parts info3
   have hroom10 : l0.length ≤ c0 := (Kd.V_reads' HO0.out).2.1
   have hC10 : Kd.F (Kd.int .i64) _ _ A0 l0.length l0 := (Kd.V_at (base := w.heap.size) HO0.out).2.2
   have q010 : (0 : Int) ≤ (t133 : Int) := of_decide_eq_true (by first | (with_reducible assumption) | assumption)
   have hcut10 := cut_from (P := Try.prog) 25 3 .i64 Try.underlying25 hi010 1 hsz10 A0 l0.length c0 t133 q010 q10
   have hr10 := Kd.F_cut (m := (t133 : Int).toNat) (c := c0) hC10 (by omega) hroom10
   obtain ⟨A10, hA10⟩ : ∃ A1, A1 = (if c0 = (t133 : Int).toNat then A0 else (A0 : Option Addr).map (·.add ((t133 : Int).toNat * 1))) := ⟨_, rfl⟩
   obtain ⟨c10, hc10⟩ : ∃ c1, c1 = c0 - (t133 : Int).toNat := ⟨_, rfl⟩
   have hy10 : y134.length = l0.length - (t133 : Int).toNat := (by rw [Ny134.out, List.length_drop] <;> omega)
   rw [show (l0).drop (t133 : Int).toNat = y134 from Ny134.out.symm] at hr10
   replace hr10 : Kd.F (Kd.int .i64) _ _ A10 y134.length y134 := (by rw [hA10]; exact hr10)
   rw [← hy10, ← hA10, ← hc10] at hcut10
   have HO138 := Aside0.mk (show Kd.V (Kd.int .i64) 3 _ w.heap.size _ (.slice A10 y134.length c10) y134 from Kd.V_mk (by rw [hy10, hc10]; exact Nat.sub_le_sub_right hroom10 _) hr10)
   have HC138 := Aside0.mk (show y134.length ≤ c10 from by rw [hy10, hc10]; exact Nat.sub_le_sub_right hroom10 _)
   clear hr10 hC10 hroom10 hi010 hsz10 hc10
   have KY10 := Aside0.mk hy10
   have KA10 := Aside0.mk hA10
   clear hy10 hA10
   replace q10 := eq_true q10
   have q11 : (t133 : Int) ≤ ((l0.length : Int) : Int) := of_decide_eq_true (by first | (with_reducible assumption) | assumption)
   obtain ⟨i011, hi011, _, hsz11, _⟩ := info_parts info3
   have hroom11 : l0.length ≤ c0 := (Kd.V_reads' HO0.out).2.1
   have hC11 : Kd.F (Kd.int .i64) _ _ A0 l0.length l0 := (Kd.V_at (base := w.heap.size) HO0.out).2.2
   have hcut11 := cut_to (P := Try.prog) 25 3 .i64 Try.underlying25 hi011 A0 l0.length c0 t133 (of_decide_eq_true (by first | (with_reducible assumption) | assumption)) q11 hroom11
   have hr11 := Kd.F_take (m := (t133 : Int).toNat) hC11 (by omega)
   have hy11 : y139.length = (t133 : Int).toNat := (by rw [Ny139.out, List.length_take]; omega)
   rw [← Ny139.out] at hr11
   rw [← hy11] at hcut11
   have HO143 := Aside0.mk (show Kd.V (Kd.int .i64) 3 _ w.heap.size _ (.slice A0 y139.length c0) y139 from Kd.V_mk (by omega) hr11)
   have HC143 := Aside0.mk (show y139.length ≤ c0 from by omega)
   clear hr11 hC11 hroom11 hi011 hsz11
   have KY11 := Aside0.mk hy11
   clear hy11
   replace q11 := eq_true q11
   refine start_ (n := 9) (S := fun w' => True) (ds := []) #[false, false, false, false, false, false, false, false, false] (by kernel_rfl) rfl rfl trivial (fun hHeld => ?_); refine with_tabW impl_leastFirst.tab2 impl_leastFirst.bits2 (fun HT_ HW_ => ?_)
   generalize (w.drewN (nd1_ + nd2_)).drew = w9 at HO0 HB HO138 HO143 hHeld ⊢
   refine pure_ (i := 0) (N := some 8) (v := ?_) (a' := ?_) #[true, false, false, false, false, false, false, false, false] rfl rfl (any_of HT_.out (by kernel_rfl)) (fun _ _ _ h => h) (Or.inl ⟨by rfl, ?_⟩) ?_ ?_
   rotate_left
   ·intro w'
    go_simp
    with_reducible rfl
   rotate_left
   ·simp only [Act.put, List.setIfInBounds_toArray, List.set_cons_zero, List.set_cons_succ, i64_w, i32_w]
    rfl
   refine pure_ (i := 1) (N := some 9) (v := ?_) (a' := ?_) #[true, true, false, false, false, false, false, false, false] rfl rfl (any_of HT_.out (by kernel_rfl)) (fun _ _ _ h => h) (Or.inl ⟨by rfl, ?_⟩) ?_ ?_
   rotate_left
   ·intro w'
    go_simp
    with_reducible rfl
   rotate_left
   ·simp only [Act.put, List.setIfInBounds_toArray, List.set_cons_zero, List.set_cons_succ, i64_w, i32_w]
    rfl
   refine pure_ (i := 2) (N := some 10) (v := ?_) (a' := ?_) #[true, true, true, false, false, false, false, false, false] rfl rfl (any_of HT_.out (by kernel_rfl)) (fun _ _ _ h => h) (Or.inl ⟨by rfl, ?_⟩) ?_ ?_
   rotate_left
   ·intro w'
    go_simp
    with_reducible rfl
   rotate_left
   ·simp only [Act.put, List.setIfInBounds_toArray, List.set_cons_zero, List.set_cons_succ, i64_w, i32_w]
    rfl
   refine pure_ (i := 3) (N := some 11) (v := ?_) (a' := ?_) #[true, true, true, true, false, false, false, false, false] rfl rfl (any_of HT_.out (by kernel_rfl)) (fun _ _ _ h => h) (Or.inl ⟨by rfl, ?_⟩) ?_ ?_
   rotate_left
   ·intro w'
    go_simp
    with_reducible rfl
   rotate_left
   ·simp only [Act.put, List.setIfInBounds_toArray, List.set_cons_zero, List.set_cons_succ, i64_w, i32_w]
    rfl
   refine pure_ (i := 4) (N := some 12) (v := ?_) (a' := ?_) #[true, true, true, true, true, false, false, false, false] rfl rfl (any_of HT_.out (by kernel_rfl)) (fun _ _ _ h => h) (Or.inl ⟨by rfl, ?_⟩) ?_ ?_
   rotate_left
   ·intro w'
    go_simp
    with_reducible rfl
   rotate_left
   ·simp only [Act.put, List.setIfInBounds_toArray, List.set_cons_zero, List.set_cons_succ, i64_w, i32_w]
    rfl
   refine pure_ (i := 5) (N := some 13) (v := ?_) (a' := ?_) #[true, true, true, true, true, true, false, false, false] rfl rfl (any_of HT_.out (by kernel_rfl)) (fun _ _ _ h => h) (Or.inl ⟨by rfl, ?_⟩) ?_ ?_
   rotate_left
   ·intro w'
    go_simp
    with_reducible rfl
   rotate_left
   ·simp only [Act.put, List.setIfInBounds_toArray, List.set_cons_zero, List.set_cons_succ, i64_w, i32_w]
    rfl
   refine one_ (i := 6) (N := some 14) #[true, true, true, true, true, true, true, false, false] rfl rfl (one_of HT_.out (by kernel_rfl)) (by decide) (fun K hK => ?_)
   refine Kd.N_lit_step (Kd.slice 3 (Kd.int .i64)) _ 25 ?hg (N' := 14) ?hd (xs := ([y134, y139] : List (List Int))) (inner := [.slice A10 y134.length c10, .slice A0 y139.length c0]) (ok := (fun k_ => (P0_ k_ ∨ w.heap.size ≤ k_))) (okp := (fun k_ => (P0_ k_ ∨ w.heap.size ≤ k_))) ?hr ?hp (fun _ hk => hk) (by first | exact ((show ∀ k_, w9.heap.size ≤ k_ → (fun k_ => (P0_ k_ ∨ w.heap.size ≤ k_)) k_ from fun k_ hk => (.inr (Nat.le_trans (below_size (by repeat (first | (with_reducible first | exact HB.out | apply below_alloc | apply pw_below_drewN | apply below_drew1) | exact HB.out))) hk))) _ (Nat.le_refl _)) | exact Or.inr (below_size (by repeat (first | (with_reducible first | exact HB.out | apply below_alloc | apply pw_below_drewN | apply below_drew1) | exact HB.out)))) (Below.refl _ _) (Nat.le_refl _) (by simp) ?_; (case hd => rfl); (case hg => rfl); (case hr => first | (go_simp; done) | (go_simp; rfl)); (case hp => exact (Reps.one (show Kd.FK (Kd.slice 3 (Kd.int .i64)) _ _ y134 [.slice A10 y134.length c10] from (Kd.FK_slice_mk (Kd.V_reads' (Kd.V_mono (ok' := (fun k_ => (P0_ k_ ∨ w.heap.size ≤ k_))) (HO138.out) (fun k_ hk => hk))).2.1 (Kd.V_F (Kd.V_mono (ok' := (fun k_ => (P0_ k_ ∨ w.heap.size ≤ k_))) (HO138.out) (fun k_ hk => hk))))) (Reps.one (show Kd.FK (Kd.slice 3 (Kd.int .i64)) _ _ y139 [.slice A0 y139.length c0] from (Kd.FK_slice_mk (Kd.V_reads' (Kd.V_mono (ok' := (fun k_ => (P0_ k_ ∨ w.heap.size ≤ k_))) (HO143.out) (fun k_ hk => hk))).2.1 (Kd.V_F (Kd.V_mono (ok' := (fun k_ => (P0_ k_ ∨ w.heap.size ≤ k_))) (HO143.out) (fun k_ hk => hk))))) (Reps.none _ _))))
   intro v145 w12 ho13 hb hg_ hnew_
   clear hg_ hnew_
   (first | rw [← Ny144.out] at ho13 | (simp only [Int.reduceToNat] at ho13; rw [← Ny144.out] at ho13))
   have n0_ := Aside0.mk (Kd.V_elder' (by (with_reducible repeat (first | apply Kd.V_alloc | apply Kd.V_drewN | apply Kd.V_drew)); exact HO0.out) (Kd.N_base ho13) hb)
   have n1_ := Aside0.mk (Kd.V_elder' (by (with_reducible repeat (first | apply Kd.V_alloc | apply Kd.V_drewN | apply Kd.V_drew)); exact HO138.out) (Kd.N_base ho13) hb)
   have n2_ := Aside0.mk (Kd.V_elder' (by (with_reducible repeat (first | apply Kd.V_alloc | apply Kd.V_drewN | apply Kd.V_drew)); exact HO143.out) (Kd.N_base ho13) hb)
   have n3_ := Aside0.mk (Kd.N_lower ho13 (below_size (by repeat (first | (with_reducible first | exact HB.out | apply below_alloc | apply pw_below_drewN | apply below_drew1) | exact HB.out))))
   have n4_ := Aside0.mk (below_step (by repeat (first | (with_reducible first | exact HB.out | apply below_alloc | apply pw_below_drewN | apply below_drew1) | exact HB.out)) hb)
   clear HO0
   clear HO138
   clear HO143
   clear HB
   have HO0 := n0_
   have HO138 := n1_
   have HO143 := n2_
   have HO146 := n3_
   have HB := n4_
   clear n0_ n1_ n2_ n3_ n4_
   clear hb ho13
   obtain ⟨Ao14, co14, eo14⟩ := Kd.N_slice HO146.out
   (first | subst eo14 | (injection eo14 with f1_ f2_ f3_; have f4_ := f1_.symm; have f5_ := f3_.symm; clear f1_ f2_ f3_; subst f4_; subst f5_))
   refine hK.out _ _ trivial (fun hHeld => ?_)
   clear hK K
   refine norm_ (a' := ?_) ?_ ?_
   rotate_left
   ·show Act.put _ (some 14) _ = _
    simp only [Act.put, List.setIfInBounds_toArray, List.set_cons_zero, List.set_cons_succ, i64_w, i32_w]
    rfl
   refine one_ (i := 7) (N := some 15) #[true, true, true, true, true, true, true, true, false] rfl rfl (one_of HT_.out (by kernel_rfl)) (by decide) (fun K hK => ?_)
   refine goes_ Try.func106 (by kernel_rfl) rfl #[.slice Ao14 y144.length co14] (by rfl) rfl rfl (by (try simp only [List.map_toArray, List.map_cons, List.map_nil]); first | done | rfl | (simp only [List.length_drop, List.length_take]; rfl)) ?_
   with_reducible refine (slices_Concat_int_int.calls _ _ y144 t147 _ ?side1 ?side2 A8.out).mono ?_
   (case side1 => repeat (first | exact (Kd.N_reads' HO146.out).2.2 | (with_reducible refine Kd.C_alloc ?_ _) | (with_reducible refine Kd.C_drewN ?_ _) | (with_reducible refine Kd.C_drew ?_)))
   (case side2 => exact (Kd.N_reads' HO146.out).2.1)
   rintro e w15 ⟨v148, rfl, ho0, hb⟩
   refine ⟨_, rfl, ?_⟩
   have n0_ := Aside0.mk (Kd.V_elder' (by (with_reducible repeat (first | apply Kd.V_alloc | apply Kd.V_drewN | apply Kd.V_drew)); exact HO0.out) (Kd.R_base ho0) hb)
   have n1_ := Aside0.mk (Kd.V_elder' (by (with_reducible repeat (first | apply Kd.V_alloc | apply Kd.V_drewN | apply Kd.V_drew)); exact HO138.out) (Kd.R_base ho0) hb)
   have n2_ := Aside0.mk (Kd.V_elder' (by (with_reducible repeat (first | apply Kd.V_alloc | apply Kd.V_drewN | apply Kd.V_drew)); exact HO143.out) (Kd.R_base ho0) hb)
   have n3_ := Aside0.mk (Kd.N_elder' (by (with_reducible repeat (first | apply Kd.N_alloc | apply Kd.N_drewN | apply Kd.N_drew)); exact HO146.out) (Kd.R_base ho0) hb)
   have n4_ := Aside0.mk (Kd.R_lower (Kd.R_newM (M := fun k_ => (w.heap.size ≤ k_)) ho0 (below_size (by repeat (first | (with_reducible first | exact HB.out | apply below_alloc | apply pw_below_drewN | apply below_drew1) | exact HB.out))) (fun k_ h_ => h_)) (below_size (by repeat (first | (with_reducible first | exact HB.out | apply below_alloc | apply pw_below_drewN | apply below_drew1) | exact HB.out))))
   have n5_ := Aside0.mk (below_step (by repeat (first | (with_reducible first | exact HB.out | apply below_alloc | apply pw_below_drewN | apply below_drew1) | exact HB.out)) hb)
   clear HO0
   clear HO138
   clear HO143
   clear HO146
   clear HB
   have HO0 := n0_
   have HO138 := n1_
   have HO143 := n2_
   have HO146 := n3_
   have HO149 := n4_
   have HB := n5_
   clear n0_ n1_ n2_ n3_ n4_ n5_
   (try clear hb)
   (try clear hb2)
   (try clear hk)
   (try clear hi)
   (try clear ho0)
   refine hK.out _ _ trivial (fun hHeld => ?_)
   clear hK K
   refine norm_ (a' := ?_) ?_ ?_
   rotate_left
   ·show Act.put _ (some 15) _ = _
    simp only [Act.put, List.setIfInBounds_toArray, List.set_cons_zero, List.set_cons_succ, i64_w, i32_w]
    rfl
   refine pure_ (i := 8) (N := some 2) (v := ?_) (a' := ?_) #[true, true, true, true, true, true, true, true, true] rfl rfl (any_of HT_.out (by kernel_rfl)) (fun _ _ _ h => h) (Or.inl ⟨by rfl, ?_⟩) ?_ ?_
   rotate_left
   ·intro w'
    go_simp
    with_reducible rfl
   rotate_left
   ·simp only [Act.put, List.setIfInBounds_toArray, List.set_cons_zero, List.set_cons_succ, i64_w, i32_w]
    rfl
   refine done_ (done_of HT_.out (by kernel_rfl)) ?_
   try go_wp2
   go_ret
   exact ⟨_, by first | rfl | (simp [errW_none, errW_some] <;> rfl) | (simp [*, errW_none, errW_some] <;> rfl), by (with_reducible repeat (first | apply Kd.R_alloc | apply Kd.R_drewN | apply Kd.R_drew)); exact Kd.R_mono HO149.out (fun _ hk => hk.1), by repeat (first | (with_reducible first | exact HB.out | apply below_alloc | apply pw_below_drewN | apply below_drew1) | exact HB.out)⟩
  ·rw [if_neg c5] at H
   exact absurd H (by simp)
 ·rw [if_neg c4] at H
  exact absurd H (by simp)

theorem impl_leastFirst.calls (k : Nat) (A0 : Option Addr) (c0 : Nat) (l0 : List Int) (r : List Int) (w : World) (hr0 : Kd.C (Kd.int .i64) w A0 l0.length l0) (hc0 : l0.length ≤ c0) (h : impl_leastFirst.f k l0 = some r) :
  Calls Try.prog 86 #[.slice A0 l0.length c0] w fun e w' => ∃ v0_ : Value, e = .returned (v0_) ∧ Kd.R (Kd.int .i64) 3 w' w.heap.size (fun _ => True) v0_ r ∧ Below w.heap.size w w' := by
 refine (impl_leastFirst.callsV k (fun k_ => k_ < w.heap.size) A0 c0 l0 r w (Kd.V_mk hc0 (Kd.F_below (Kd.C_F (Kd.heap_int .i64) hr0) (Below.refl _ _))) h).mono ?_
 rintro e w' ⟨v, rfl, ho, hb⟩
 exact ⟨v, rfl, Kd.R_mono ho (fun _ _ => trivial), hb⟩

/-! ### impl_cycleWith: function 64 -/
def impl_cycleWith.l0 : Nat → Int → Int → List Int → Int → Option (List Int × Bool)
 | 0, _, _, _, _ => none
 | k + 1, x0, x1, x7, x15 => if x15 < 1000 then ((impl_stepWith.f x0 x1).bind fun m => (if -9223372036854775808 ≤ m ∧ m ≤ 9223372036854775807 then (if m > 1000000000000 then (some (([] : List Int), false)) else (if m ∈ x7 then ((impl_leastFirst.f k (x7.drop (x7.idxOf m))).bind fun t => (some (t, true))) else (if x7.length < 17592186044416 then (impl_cycleWith.l0 k m x1 (x7 ++ [m]) (wrap64 (x15 + 1))) else (none)))) else (none))) else (some (([] : List Int), false))
def impl_cycleWith.f (k : Nat) (a0 : Int) (a1 : Int) : Option (List Int × Bool) := if -9223372036854775808 ≤ a0 ∧ a0 ≤ 9223372036854775807 then impl_cycleWith.l0 k a0 a1 [a0] 0 else none
theorem impl_cycleWith.mono_l : ∀ (k : Nat) (y0 y1 : Int) (y2 : List Int) (y3 : Int), LeO (impl_cycleWith.l0 k y0 y1 y2 y3) (impl_cycleWith.l0 (k + 1) y0 y1 y2 y3)
 | 0, _, _, _, _ => fun r h => by simp [impl_cycleWith.l0] at h
 | k + 1, y0, y1, y2, y3 => by
  rw [impl_cycleWith.l0, impl_cycleWith.l0]
  refine LeO.ite (LeO.bind (LeO.refl _) (fun m => LeO.ite (LeO.ite (LeO.refl _) (LeO.ite (LeO.bind (impl_leastFirst.mono _ _) (fun _ => LeO.refl _)) (LeO.ite ?_ (LeO.none _)))) (LeO.none _))) (LeO.refl _)
  exact impl_cycleWith.mono_l k _ _ _ _
theorem impl_cycleWith.mono : ∀ a0 a1 k, LeO (impl_cycleWith.f k a0 a1) (impl_cycleWith.f (k + 1) a0 a1) := by
 intro a0 a1 k
 unfold impl_cycleWith.f
 exact LeO.ite (impl_cycleWith.mono_l _ _ _ _ _) (LeO.none _)
theorem impl_cycleWith.insert_own {H : Type} {P : Program} (w : World) {ops : Array Oper} {rest : List Oper} {o : Oper} {a : Act} {Q : Exit → Act → World → Prop}
  (hg : o.guard = none) (m x v : Operand) (t : TypeId) (hop : o.op = Op.insert t m x v)
  (k e : TypeId) (K : Go.Maps.Keyed P k) (ht : P.underlying t = some (.map k e)) (R : Value → Option (DataW H × List MemPlace)) (b n : Nat) (D : DataW H)
  (hm : a.eval m = .map (some b)) (hown : w.ownsMap P k R b n D) (hn : n < maxLen) (key val : Value) (kl : Lit) (hx : a.eval x = key) (hv : a.eval v = val) (hkey : keyOf P k key = some kl)
  (d : DataW H) (ps : List MemPlace) (hval : R val = some (d, ps))
  (hK : ∀ w', w'.ownsMap P k R b (n + 1) (D.put kl d) → w.grownBy w' (some b) → wpList P ops Q rest (a.put o.dst undef) w') :
  wpList P ops Q (o :: rest) a w := by
 refine wpList_plain hg fun K' hK' => ?_
 obtain ⟨w', hrun, r1, r2⟩ := hown.update K ht hn hkey hval
 unfold Oper.wp
 simp [execOp, hop, hm, hx, hv, hrun, Result.andThen]
 exact hK' _ _ (hK w' r1 r2)
theorem impl_cycleWith.ml : Go.Maps.Keyed Try.prog 3 := Go.Maps.int_keyed Try.underlying3
theorem impl_cycleWith.utm : Try.prog.underlying 67 = some (.map 3 3) := by kernel_rfl
theorem impl_cycleWith.mz (w : World) : (zeroValue 3).run Try.prog w = .ok (.int .i64 0) w := by kernel_rfl
def impl_cycleWith.MD (xs : List Int) (d : DataW Unit) : Prop := Go.Maps.IsMap d ∧ (∀ y, Go.Maps.has d (.int .i64 y) = decide (y ∈ xs)) ∧ ∀ y, y ∈ xs → d.atKey (.int .i64 y) (.lit (.int .i64 0)) = .lit (.int .i64 (xs.idxOf y : Int))
theorem impl_cycleWith.MD_nil : impl_cycleWith.MD [] (.map []) := ⟨Go.Maps.isMap_empty, fun _ => rfl, fun _ h => by simp at h⟩
theorem impl_cycleWith.MD_put {xs : List Int} {d : DataW Unit} (h : impl_cycleWith.MD xs d) {x : Int} (hx : x ∉ xs) : impl_cycleWith.MD (xs ++ [x]) (d.put (.int .i64 x) (.lit (.int .i64 (xs.length : Int)))) := by
 have hk : Go.WideAt.IsKeyLit (Lit.int .i64 x) := by trivial
 refine ⟨h.1.put _ _, ?_, ?_⟩
 ·intro y
  by_cases e : y = x
  ·subst e
   rw [Go.Maps.has_put_same h.1 hk]
   simp
  ·rw [Go.Maps.has_put_other (by simpa using e), h.2.1]
   simp [e]
 ·intro y hy
  by_cases e : y = x
  ·subst e
   rw [Go.Maps.atKey_put_same h.1 hk, List.idxOf_append]
   simp [hx]
  ·rw [Go.Maps.atKey_put_other (by simpa using e)]
   have hy' : y ∈ xs := by simpa [e] using hy
   rw [h.2.2 y hy', List.idxOf_append]
   simp [hy']
theorem impl_cycleWith.wf {x : Int} (h : -9223372036854775808 ≤ x ∧ x ≤ 9223372036854775807) : (Lit.int .i64 x).wf = true := by
 simp [Lit.wf, IntKind.min, IntKind.max, IntKind.signed, IntKind.bits]; omega
set_option maxHeartbeats 4000000 in
set_option maxRecDepth 100000 in
theorem impl_cycleWith.calls (k : Nat) (a0 a1 : Int) (r1 : List Int) (r2 : Bool) (w : World) (h : impl_cycleWith.f k a0 a1 = some (r1, r2)) :
  Calls Try.prog 64 #[.int .i64 a0, .int .i64 a1] w fun e w' => ∃ v0_ : Value, e = .returned (.tuple #[v0_, .bool r2]) ∧ Kd.R (Kd.int .i64) 3 w' w.heap.size (fun _ => True) v0_ r1 ∧ Below w.heap.size w w' := by
 unfold impl_cycleWith.f at h
 by_cases hr : -9223372036854775808 ≤ a0 ∧ a0 ≤ 9223372036854775807
 ·rw [if_pos hr] at h
  have hn := impl_cycleWith.wf hr
  have hmm := @Go.RowKit.run_makeMap Try.prog
  have H' := Aside0.mk h
  clear h hr
  have HB := Aside0.mk (Below.refl w.heap.size w)
  have hkey0 : keyOf Try.prog 3 (.int .i64 a0) = some (.int .i64 a0) := Go.Maps.keyOf_int_mk Try.underlying3 hn
  have hput0 := impl_cycleWith.MD_put impl_cycleWith.MD_nil (x := a0) (by simp)
  have hmade := World.ownsMap_made w Try.prog 3 (plainElem (H := Unit) Try.prog 3)
  go_enter Try.func64, Try.ntmps64
  go_wp2_with (first
   | (refine impl_cycleWith.insert_own _ rfl (.tmp 10) (.tmp 11) (.const (.int .i64 0)) 67 rfl 3 3 impl_cycleWith.ml impl_cycleWith.utm (plainElem (H := Unit) Try.prog 3) w.heap.size 0 _ rfl hmade (by unfold maxLen; omega) _ _ _ rfl rfl hkey0 _ [] (plainElem_int Try.underlying3 (show (Lit.int .i64 0).wf = true from rfl)) ?_; intro w1 hown1 hgrow1)
   | ((with_reducible refine gate_dst (N := 14) rfl ?_); refine Kd.R_lit (Kd.int .i64) _ 3 ?hg (N := 14) ?hd (xs := ([a0] : List Int)) (inner := [.int .i64 a0]) (ok := fun _ => True) (okp := fun _ => True) ?hr ?hp (fun _ hk => hk) trivial (Below.refl _ _) (Nat.le_refl _) (by simp) ?_; (case hd => rfl); (case hg => rfl); (case hr => first | (go_simp; done) | (go_simp; rfl)); (case hp => exact (Reps.one (show Kd.M (Kd.int .i64) _ _ _ a0 [.int .i64 a0] from rfl) (Reps.none _ _))); intro v159 w6 ho7 hb hg_ hnew_; clear hg_ hnew_))
  have hsz1 : w.heap.size + 1 ≤ w1.heap.size := by have := hgrow1.size; simp at this; exact this
  have HB1 : Below w.heap.size w w1 := ((Below.refl w.heap.size w).alloc (Nat.le_refl _) (Obj.map #[] 0)).grown hgrow1 (by simp) (fun k hk => by cases hk; exact Nat.le_refl _)
  have hmp := hown1.kept (row := none) ⟨hb.os, hb.tape, hb.output, hb.size, fun k hk _ => hb.block k hk⟩ (by simp)
  have HB6 := below_step HB1 hb
  have hsz6 : w.heap.size + 1 ≤ w6.heap.size := Nat.le_trans hsz1 hb.size
  have ho8 := Kd.R_lower ho7 hsz1
  clear ho7 hb hown1 hgrow1 HB1 hsz1 hmade HB
  go_loopg [0, 7, 15] k (fun kq v0 v7 v15 w' => ∃ (x i : Int) (xs : List Int) (d : DataW Unit), v0 = .int .i64 x ∧ v15 = .int .i64 i ∧ Aside0 (impl_cycleWith.l0 kq x a1 xs i = some (r1, r2)) ∧ Aside0 (kq ≤ k) ∧ w'.ownsMap Try.prog 3 (plainElem (H := Unit) Try.prog 3) w.heap.size xs.length d ∧ impl_cycleWith.MD xs d ∧ w.heap.size + 1 ≤ w'.heap.size ∧ Aside0 (Kd.R (Kd.int .i64) 3 w' (w.heap.size + 1) (fun _ => True) v7 xs) ∧ Aside0 (Below w.heap.size w w'))
  case atStart => exact ⟨a0, 0, [a0], _, rfl, rfl, H', ⟨Nat.le_refl _⟩, hmp, hput0, hsz6, ⟨ho8⟩, ⟨HB6⟩⟩
  case round =>
   clear H' hput0 hmp HB6 hsz6 ho8 hkey0
   obtain ⟨x, i, xs, d, rfl, rfl, HA, HK1, hmap, hmd, hszw, HO, HB⟩ := hrel
   cases gk with
   | zero => exact absurd HA.out (by simp [impl_cycleWith.l0])
   | succ k1 =>
    have H := HA.out
    clear HA
    simp only [impl_cycleWith.l0] at H
    by_cases hi : i < 1000
    ·rw [if_pos hi] at H
     have hib : decide (i < 1000) = true := decide_eq_true hi
     obtain ⟨m, hm, H⟩ := Option.bind_eq_some_iff.1 H
     by_cases hr : -9223372036854775808 ≤ m ∧ m ≤ 9223372036854775807
     ·rw [if_pos hr] at H
      have hwm := impl_cycleWith.wf hr
      clear hr
      have hst := fun W => impl_stepWith.calls x a1 m W hm
      change ∀ W, Calls Try.prog 48 _ _ _ at hst
      by_cases hg : m > 1000000000000
      ·rw [if_pos hg] at H
       have hgb : decide (1000000000000 < m) = true := decide_eq_true hg
       obtain ⟨rfl, rfl⟩ := Prod.mk.inj (Option.some.inj H)
       clear hmap hmd H
       go_wp2_with (first | (go_at_call 48; refine (hst _).mono ?_; rintro e w' ⟨rfl, ⟨nd, rfl⟩⟩))
       go_ret2
       exact ⟨_, rfl, Kd.R_nil _ _ _ _ _, pw_below_drewN HB.out _⟩
      ·rw [if_neg hg] at H
       have hgb : decide (1000000000000 < m) = false := decide_eq_false hg
       have hkey : keyOf Try.prog 3 (.int .i64 m) = some (.int .i64 m) := Go.Maps.keyOf_int_mk Try.underlying3 hwm
       have hhas := hmd.2.1 m
       by_cases hin : m ∈ xs
       ·rw [if_pos hin] at H
        obtain ⟨t, hlf, H⟩ := Option.bind_eq_some_iff.1 H
        obtain ⟨rfl, rfl⟩ := Prod.mk.inj (Option.some.inj H)
        have hhas : Go.Maps.has d (.int .i64 m) = true := by rw [hhas]; simp [hin]
        have hidx := hmd.2.2 m hin
        have hj : xs.idxOf m < xs.length := List.idxOf_lt_length_iff.2 hin
        clear H hmd hin
        generalize xs.idxOf m = j at hidx hj hlf
        obtain ⟨Ao, co, eo⟩ := Kd.R_slice HO.out
        subst eo
        have hroom : xs.length ≤ co := (Kd.R_reads' HO.out).2.1
        have hC := (Kd.R_reads' HO.out).2.2
        obtain ⟨i03, hi03, _, hsz3, _⟩ := info_parts info3
        have hcut := cut_from (P := Try.prog) 25 3 .i64 Try.underlying25 hi03 1 hsz3 Ao xs.length co (j : Int) (by omega) (by omega)
        rw [Int.toNat_natCast] at hcut
        have hr := Kd.C_drop (m := j) (c := co) hC (by omega) hroom
        obtain ⟨y, hy⟩ : ∃ y, y = xs.drop j := ⟨_, rfl⟩
        have hyl : y.length = xs.length - j := by rw [hy, List.length_drop]
        rw [← hy] at hr hlf
        obtain ⟨A1, hA1⟩ : ∃ A1, A1 = (if co = j then Ao else Ao.map (·.add (j * 1))) := ⟨_, rfl⟩
        replace hr : Kd.C (Kd.int .i64) wr A1 y.length y := by rw [hA1]; exact hr
        rw [← hyl, ← hA1] at hcut
        have hroom2 : y.length ≤ co - j := by omega
        have hlc := fun W hc => impl_leastFirst.calls k1 A1 (co - j) y t W hc hroom2 hlf
        have HR := Aside0.mk hr
        clear hy hyl hA1 hC hroom hi03 hsz3 hroom2 hj hr
        go_wp2_with (first
         | (go_at_call 48; refine (hst _).mono ?_; rintro e w' ⟨rfl, ⟨nd, rfl⟩⟩)
         | (at_lookup; refine wpList_lookup_own_ok_int _ rfl _ _ 67 rfl 3 3 .i64 impl_cycleWith.ml impl_cycleWith.utm Try.underlying3 (impl_cycleWith.mz _) w.heap.size xs.length d rfl hmap _ _ rfl hkey ?_; rw [hhas]; intro cc hat hwc; rw [hidx] at hat; have hcc : (j : Int) = cc := (by simpa using hat); clear hat hwc; subst hcc)
         | (go_at_call 86; refine (hlc _ ?hC).mono ?_; (case hC => exact Kd.C_drewN HR.out _); rintro e w3 ⟨v3, rfl, ho3, hb3⟩))
        go_ret2
        exact ⟨_, rfl, Kd.R_lower ho3 (Nat.le_of_succ_le hszw), below_step (pw_below_drewN HB.out _) hb3⟩
       ·rw [if_neg hin] at H
        have hhas : Go.Maps.has d (.int .i64 m) = false := by rw [hhas]; simp [hin]
        by_cases hl : xs.length < 17592186044416
        ·rw [if_pos hl] at H
         have H' := Aside0.mk H
         clear H
         have hput := impl_cycleWith.MD_put hmd hin
         have hlen : ∀ (ty : TypeId) (W : World), (Builtin.len_ #[25] ty #[u7]).run Try.prog W = .ok (.int .i64 (xs.length : Int)) W := by
          obtain ⟨A, c, e⟩ := Kd.R_slice HO.out
          subst e
          intro ty W
          rfl
         have hlw : (Lit.int .i64 (xs.length : Int)).wf = true := by simp [Lit.wf, IntKind.min, IntKind.max, IntKind.signed, IntKind.bits]; omega
         go_wp2_with (first
          | (go_at_call 48; refine (hst _).mono ?_; rintro e w' ⟨rfl, ⟨nd, rfl⟩⟩)
          | (at_lookup; refine wpList_lookup_own_ok_int _ rfl _ _ 67 rfl 3 3 .i64 impl_cycleWith.ml impl_cycleWith.utm Try.underlying3 (impl_cycleWith.mz _) w.heap.size xs.length d rfl hmap _ _ rfl hkey ?_; rw [hhas]; intro cc hat hwc; clear hat hwc)
          | (at_mapUpdate; refine wpList_mapUpdate_own _ rfl _ _ _ 67 rfl 3 3 impl_cycleWith.ml impl_cycleWith.utm (plainElem (H := Unit) Try.prog 3) w.heap.size xs.length _ rfl hmap (by unfold maxLen; omega) _ _ _ rfl rfl hkey _ [] (plainElem_int Try.underlying3 hlw) ?_; intro w1 hown1 hgrow1)
          | ((with_reducible refine gate_builtin (b := .append) (xs := #[.tmp 37, .tmp 39]) rfl ?_); at_builtin; refine Kd.R_append (Kd.int .i64) (w0 := w1) (w.heap.size + 1) rfl (.tmp 37) (.tmp 39) 25 3 (.int .i64 0) 8 rfl Try.underlying25 info3 rfl (by decide) (by omega) u7 xs m [.int .i64 m] (fun _ => True) (fun _ => False) rfl rfl ?aP (fun _ hk => hk.elim) ?aF ?aO ?aB ?aS ?aL ?_; (case aP => exact rfl); (case aB => exact Below.refl _ _); (case aF => exact (fun _ _ => trivial)); (case aO => exact Kd.R_grown1 (Kd.R_drewN HO.out nd) rfl hgrow1 (by have := Kd.R_base HO.out; intro he; have := this _ he.symm; omega)); (case aS => exact Nat.le_trans hszw hgrow1.size); (case aL => omega); intro v2 w2 ho2 hb2 hg2 hat2; clear hat2))
         go_roundg k1
         case measure => have := HK1.out; omega
         case rel =>
          have hmp2 := hown1.kept hg2 (by intro he; have := Kd.R_base HO.out _ he.symm; omega)
          refine ⟨m, _, xs ++ [m], _, rfl, rfl, H', ⟨by have := HK1.out; omega⟩, by rw [List.length_append]; exact hmp2, hput, ?_, ⟨ho2⟩, ⟨?_⟩⟩
          ·exact Nat.le_trans hszw (Nat.le_trans hgrow1.size hb2.size)
          ·exact below_weaken ((pw_below_drewN HB.out nd).grown hgrow1 (Nat.le_of_succ_le hszw) (fun k hk => by cases hk; exact Nat.le_refl _)) (Nat.le_succ _) hb2
        ·rw [if_neg hl] at H
         exact absurd H (by simp)
     ·rw [if_neg hr] at H
      exact absurd H (by simp)
    ·rw [if_neg hi] at H
     have hib : decide (i < 1000) = false := decide_eq_false hi
     obtain ⟨rfl, rfl⟩ := Prod.mk.inj (Option.some.inj H)
     go_wp2
     go_ret2
     exact ⟨_, rfl, Kd.R_nil _ _ _ _ _, HB.out⟩
 ·rw [if_neg hr] at h
  exact absurd h (by simp)

end Go.Proofs.Ytclnhbppcmcalaa.PFnOtherCycles
