-- out of the kit's print, turned by wip/own_print.py
import Derived.Test.YtnhohachlieglaaPFnExactUnsayWordx0
import Derived.Test.YtnhohachlieglaaPFnExactUnsayWordx2
namespace Go.Proofs.Ytnhohachlieglaa.PFnExactUnsayWord
open Go.RowKit Go.Proofs.YtnhohachlieglaaW.PrintWords Go.Proofs.YtnhohachlieglaaW.PrintLast Go.Proofs.YtnhohachlieglaaW.PrintMore
attribute [local go_sem] max2_int min2_int max_two min_two max_three min_three max_four min_four   -- for this text's walks alone
set_option linter.unusedVariables false
set_option linter.unusedSimpArgs false

/-! ### slices_Repeat_int_int: function 64 -/
def slices_Repeat_int_int.f (l0 : List Int) (a1 : Int) : Option (List Int) := if l0.length = 1 then if 0 ≤ a1 ∧ a1 ≤ 1000000000 then some (List.replicate a1.toNat (rd l0 0)) else none else none
theorem slices_Repeat_int_int.mul (m : Nat) (h : m ≤ 1000000000) : bits_Mul.f 1 (m : Int) = some (0, (m : Int)) := by
  have e1 : Go.bits .and .u64 (1 : Int) 4294967295 = 1 := by decide
  have e2 : (1 : Int) / 4294967296 = 0 := by decide
  have e3 : Go.bits .and .u64 (m : Int) 4294967295 = (m : Int) := by rw [Go.Proofs.Mul64.maskN m (by omega)]; omega
  have e4 : (m : Int) / 4294967296 = 0 := by omega
  have e5 : IntKind.u64.wrap (m : Int) = (m : Int) := by rw [IntKind.wrap_u64]; omega
  have e6 : IntKind.u64.wrap 0 = 0 := by decide
  have e7 : Go.bits .and .u64 (0 : Int) 4294967295 = 0 := by decide
  simp only [bits_Mul.f, bits_Mul64.f, Option.bind_some, e1, e2, e3, e4, e5, e6, e7, Int.one_mul, Int.zero_mul, Int.mul_zero, Int.zero_add, Int.add_zero, Int.zero_ediv]
theorem slices_Repeat_int_int.cells (x : Int) (n : Nat) (cur : List Value) (h : cur.take n = List.replicate n (.int .i64 x)) (k : Nat) :
    (splice cur n (List.replicate k (.int .i64 x))).take (n + k) = List.replicate (n + k) (.int .i64 x) := by
  unfold splice
  rw [h, ← List.append_assoc, List.replicate_append_replicate, List.take_append_of_le_length (by simp)]
  simp
theorem slices_Repeat_int_int.made {w1 : World} {base B m : Nat} {v : Value} (h : Kd.R (Kd.int .i64) 3 w1 base (fun _ => True) v (List.replicate m 0)) (hb : ∃ b, v.ownBlock = some b ∧ B ≤ b) :
    ∃ (g cap : Nat) (cur : List Value), v = .slice (some ⟨g, 0, none⟩) m cap ∧ B ≤ g ∧ w1.heap[g]? = some (.cells cur.toArray 3 (0, 0)) ∧ m ≤ cap ∧ cap ≤ maxLen ∧ cur.length = cap := by
  obtain ⟨inner, h1, h2⟩ := Kd.R_own h
  obtain ⟨b, hb1, hb2⟩ := hb
  rcases h2 with ⟨rfl, _⟩ | ⟨g, cap, cur, rfl, h3, h4, h5, h6, h7, h8⟩
  · simp [Value.ownBlock] at hb1
  · refine ⟨g, cap, cur.toList, by simp, ?_, by simpa using h4, by simpa using h5, h6, ?_⟩
    · simp [Value.ownBlock] at hb1
      omega
    · have : cur.size = cap * 1 := h7
      simpa using this
theorem slices_Repeat_int_int.fin {w1 : World} {base g m cap : Nat} {cur : List Value} {x : Int} (hg : base ≤ g) (h1 : w1.heap[g]? = some (.cells cur.toArray 3 (0, 0))) (h2 : m ≤ cap) (h3 : cap ≤ maxLen) (h4 : cur.length = cap) (h5 : cur.take m = List.replicate m (.int .i64 x)) :
    Kd.R (Kd.int .i64) 3 w1 base (fun _ => True) (.slice (some ⟨g, 0, none⟩) m cap) (List.replicate m x) := by
  refine Kd.R_of_own ⟨by simp [encs], Or.inr ⟨g, cap, cur.toArray, by simp, hg, h1, by simpa using h2, h3, by simp [h4], ?_⟩⟩ (fun _ _ => trivial)
  simp [encs, h5]
set_option maxHeartbeats 2000000 in
set_option maxRecDepth 100000 in
theorem slices_Repeat_int_int.calls (A0 : Option Addr) (c0 : Nat) (l0 : List Int) (a1 : Int) (r : List Int) (w : World) (hr0 : Kd.C (Kd.int .i64) w A0 l0.length l0) (hc0 : l0.length ≤ c0) (h : slices_Repeat_int_int.f l0 a1 = some r) :
    Calls Try.prog 64 #[.slice A0 l0.length c0, .int .i64 a1] w fun e w' => ∃ v0_ : Value, e = .returned (v0_) ∧ Kd.R (Kd.int .i64) 3 w' w.heap.size (fun _ => True) v0_ r ∧ Below w.heap.size w w' := by
  unfold slices_Repeat_int_int.f at h
  by_cases h1 : l0.length = 1
  · rw [if_pos h1] at h
    by_cases h2 : 0 ≤ a1 ∧ a1 ≤ 1000000000
    · rw [if_pos h2] at h
      obtain rfl := Option.some.inj h
      obtain ⟨m, rfl⟩ := Int.eq_ofNat_of_zero_le h2.1
      obtain ⟨ad, rfl, hx⟩ := Kd.at_int hr0 0 (by omega) (by omega)
      generalize rd l0 0 = x at hx ⊢
      rw [h1]
      have hmul := fun W => bits_Mul.calls 1 (m : Int) 0 (m : Int) W (slices_Repeat_int_int.mul m (by omega))
      change ∀ W, Calls Try.prog 92 _ _ _ at hmul
      have hw : IntKind.u64.wrap (m : Int) = (m : Int) := by rw [IntKind.wrap_u64]; omega
      have hw2 : IntKind.u64.wrap 1 = 1 := by decide
      have hw3 : wrap64 (m : Int) = (m : Int) := by unfold wrap64; omega
      have hm0 : decide ((m : Int) < 0) = false := decide_eq_false (by omega)
      have hm1 : decide ((m : Int) > 9223372036854775807) = false := decide_eq_false (by omega)
      clear hr0 hc0 h h1
      obtain ⟨q1, hq1, hq2, hq3, hq4⟩ : ∃ q1 : Nat, q1 = Nat.min 1 m ∧ q1 ≤ 1 ∧ q1 ≤ m ∧ (m = 0 ∨ q1 = 1) := ⟨_, rfl, Nat.min_le_left _ _, Nat.min_le_right _ _, by have : Nat.min 1 m = if 1 ≤ m then 1 else m := rfl; rw [this]; split <;> omega⟩
      have HB := Aside0.mk (Below.refl w.heap.size w)
      go_enter Try.func64, Try.ntmps64
      go_wp2_with (first
        | (go_at_call 92; (try simp only [hw, hw2]); refine (hmul _).mono ?_; rintro e w' ⟨rfl, ⟨q, rfl⟩⟩)
        | ((with_reducible refine gate_dst (N := 30) rfl ?_); refine Kd.R_make (Kd.int .i64) w.heap.size 3 rfl (N := 30) rfl 22 _ _ rfl (m : Int) rfl rfl Try.underlying22 (.int .i64 0) 8 info3 rfl (by decide) (by omega) 0 (ok := fun _ => True) (okp := fun _ => True) rfl (fun _ hk => hk) trivial (by omega) (by omega) (pw_below_drewN HB.out _) (Nat.le_refl _) ?_; intro v6 w6 ho6 hb6 hg6 hn6; clear hg6; obtain ⟨g, cap, cur, rfl, hBg, hcl, hmc, hcm, hlen⟩ := slices_Repeat_int_int.made (m := m) ho6 hn6; clear ho6 hn6)
        | ((with_reducible refine gate_builtin (b := .copy) (xs := #[.tmp 31, .tmp 32]) rfl ?_); refine wpList_copy_splice rfl (.tmp 31) (.tmp 32) 22 22 rfl 3 Try.underlying22 (by kernel_rfl) (some ⟨g, 0, none⟩) (some ad) m cap 1 c0 rfl rfl g 0 cur 3 hcl (List.replicate q1 (.int .i64 x)) (by rw [List.length_replicate]; exact hq1) ?hp (by rw [List.length_replicate]; omega) (by intro v hv; rw [List.eq_of_mem_replicate hv]; rfl) w.heap.size w hb6 hBg ?_; (case hp => exact (fun _ => ⟨rfl, ad, rfl, fun j v hj => by have hlt := (List.getElem?_eq_some_iff.1 hj).1; have hj0 : j = 0 := (by simp at hlt; omega); subst hj0; have h9 := (List.getElem?_eq_some_iff.1 hj).2; rw [List.getElem_replicate] at h9; subst h9; exact (Below.cell hb6 (World.block_lt_of_cell? w _ hx)).trans hx⟩)); intro w7 hc7 hb7))
      have hone := slices_Repeat_int_int.cells x 0 cur (by simp) q1
      have hls := length_splice cur 0 (List.replicate q1 (.int .i64 x)) (by rw [List.length_replicate]; omega)
      go_loopw [8] (fun v wr => ∃ (n : Nat) (cu : List Value), v = .int .i64 n ∧ n ≤ m ∧ (1 ≤ n ∨ m = 0) ∧ wr.heap[g]? = some (.cells cu.toArray 3 (0, 0)) ∧ cu.length = cap ∧ cu.take n = List.replicate n (.int .i64 x) ∧ Below w.heap.size w wr) (fun v _ => m - (intOf v).toNat)
      case atStart => exact ⟨q1, _, by rw [hq1], hq3, by omega, hc7, by rw [hls]; exact hlen, by simpa using hone, hb7⟩
      case round =>
        obtain ⟨n, cu, rfl, hnm, hn1, hcc, hcl2, htk, hb8⟩ := hrel
        by_cases hlt : n < m
        · have hd0 : decide ((n : Int) < (m : Int)) = true := decide_eq_true (by omega)
          have hcn : ¬ cap = n := by omega
          have hn3 : (n : Int) ≤ (m : Int) := by omega
          have hn4 : (n : Int) ≤ (cap : Int) := by omega
          obtain ⟨q2, hq5, hq6, hq7, hq8⟩ : ∃ q2 : Nat, q2 = Nat.min n (m - n) ∧ q2 ≤ n ∧ q2 ≤ m - n ∧ 1 ≤ q2 := ⟨_, rfl, Nat.min_le_left _ _, Nat.min_le_right _ _, by have : Nat.min n (m - n) = if n ≤ m - n then n else m - n := rfl; rw [this]; split <;> omega⟩
          have hfA : n + q2 ≤ m := by omega
          have hfB : 1 ≤ n + q2 := by omega
          have hfC : m - (n + q2) < m - n := by omega
          have hfD := (length_splice cu n (List.replicate q2 (Value.int .i64 x)) (by rw [List.length_replicate]; omega)).trans hcl2
          have hfE := slices_Repeat_int_int.cells x n cu htk q2
          have HWR := Aside0.mk (show wrap64 ((n : Int) + (q2 : Int)) = ((n + q2 : Nat) : Int) by unfold wrap64; omega)
          have HQ5 := Aside0.mk hq5
          clear hq5
          go_wp2
          obtain ⟨i03, hi03, _, hsz3, _⟩ := info_parts info3
          have hcutA := cut_from (P := Try.prog) 22 3 .i64 Try.underlying22 hi03 1 hsz3 (some ⟨g, 0, none⟩) m cap (n : Int) (by omega) (by omega)
          have hcutB := cut_to (P := Try.prog) 22 3 .i64 Try.underlying22 hi03 (some ⟨g, 0, none⟩) m cap (n : Int) (by omega) (by omega) hmc
          rw [Int.toNat_natCast, if_neg hcn, Nat.mul_one, Option.map_some] at hcutA
          rw [Int.toNat_natCast] at hcutB
          have hadd : (⟨g, 0, none⟩ : Addr).add n = ⟨g, n, none⟩ := by
            unfold Addr.add
            split
            · rename_i h0
              rw [h0]
            · simp
          rw [hadd] at hcutA
          clear hi03 hsz3 hmul hcl hc7 hone hls hx hm0 hm1 hw hw2 hq1
          refine start_ (n := 10) (S := fun w' => True) (ds := []) #[false, false, false, false, false, false, false, false, false, false] (by kernel_rfl) rfl rfl trivial (fun hHeld => ?_)
          have hcc : wr.drew.heap[g]? = some (.cells cu.toArray 3 (0, 0)) := hcc
          have hb8 : Below w.heap.size w wr.drew := below_drew1 hb8
          generalize wr.drew = w27 at hcc hb8 hHeld ⊢
          refine pure_ (i := 0) (N := some 38) (v := ?_) (a' := ?_) #[true, false, false, false, false, false, false, false, false, false] rfl rfl (by kernel_rfl) (fun _ _ _ h => h) (Or.inl ⟨by rfl, ?_⟩) ?_ ?_
          rotate_left
          · intro w'
            go_simp
            with_reducible rfl
          rotate_left
          · simp only [Act.put, List.setIfInBounds_toArray, List.set_cons_zero, List.set_cons_succ, i64_w, i32_w]
            rfl
          refine pure_ (i := 1) (N := some 39) (v := ?_) (a' := ?_) #[true, true, false, false, false, false, false, false, false, false] rfl rfl (by kernel_rfl) (fun _ _ _ h => h) (Or.inl ⟨by rfl, ?_⟩) ?_ ?_
          rotate_left
          · intro w'
            go_simp
            with_reducible rfl
          rotate_left
          · simp only [Act.put, List.setIfInBounds_toArray, List.set_cons_zero, List.set_cons_succ, i64_w, i32_w]
            rfl
          refine pure_ (i := 2) (N := some 40) (v := ?_) (a' := ?_) #[true, true, true, false, false, false, false, false, false, false] rfl rfl (by kernel_rfl) (fun _ _ _ h => h) (Or.inl ⟨by rfl, ?_⟩) ?_ ?_
          rotate_left
          · intro w'
            go_simp
            with_reducible rfl
          rotate_left
          · simp only [Act.put, List.setIfInBounds_toArray, List.set_cons_zero, List.set_cons_succ, i64_w, i32_w]
            rfl
          refine pure_ (i := 3) (N := some 41) (v := ?_) (a' := ?_) #[true, true, true, true, false, false, false, false, false, false] rfl rfl (by kernel_rfl) (fun _ _ _ h => h) (Or.inl ⟨by rfl, ?_⟩) ?_ ?_
          rotate_left
          · intro w'
            go_simp
            with_reducible rfl
          rotate_left
          · simp only [Act.put, List.setIfInBounds_toArray, List.set_cons_zero, List.set_cons_succ, i64_w, i32_w]
            rfl
          refine pure_ (i := 4) (N := some 42) (v := ?_) (a' := ?_) #[true, true, true, true, true, false, false, false, false, false] rfl rfl (by kernel_rfl) (fun _ _ _ h => h) (Or.inl ⟨by rfl, ?_⟩) ?_ ?_
          rotate_left
          · intro w'
            go_simp
            with_reducible rfl
          rotate_left
          · simp only [Act.put, List.setIfInBounds_toArray, List.set_cons_zero, List.set_cons_succ, i64_w, i32_w]
            rfl
          refine pure_ (i := 5) (N := some 43) (v := ?_) (a' := ?_) #[true, true, true, true, true, true, false, false, false, false] rfl rfl (by kernel_rfl) (fun _ _ _ h => h) (Or.inl ⟨by rfl, ?_⟩) ?_ ?_
          rotate_left
          · intro w'
            go_simp
            with_reducible rfl
          rotate_left
          · simp only [Act.put, List.setIfInBounds_toArray, List.set_cons_zero, List.set_cons_succ, i64_w, i32_w]
            rfl
          refine pure_ (i := 6) (N := some 44) (v := ?_) (a' := ?_) #[true, true, true, true, true, true, true, false, false, false] rfl rfl (by kernel_rfl) (fun _ _ _ h => h) (Or.inl ⟨by rfl, ?_⟩) ?_ ?_
          rotate_left
          · intro w'
            go_simp
            with_reducible rfl
          rotate_left
          · simp only [Act.put, List.setIfInBounds_toArray, List.set_cons_zero, List.set_cons_succ, i64_w, i32_w]
            rfl
          refine one_ (i := 7) (N := some 45) #[true, true, true, true, true, true, true, true, false, false] rfl rfl (by kernel_rfl) (by decide) (fun K hK => ?_)
          refine step_copy_splice rfl (.tmp 41) (.tmp 44) 22 22 rfl 3 Try.underlying22 (by kernel_rfl) (some ⟨g, n, none⟩) (some ⟨g, 0, none⟩) (m - n) (cap - n) n cap rfl rfl g n cu 3 hcc (List.replicate q2 (.int .i64 x)) (by rw [List.length_replicate]; exact HQ5.out) ?hp (by rw [List.length_replicate]; omega) (by intro v hv; rw [List.eq_of_mem_replicate hv]; rfl) w.heap.size w hb8 hBg ?_
          case hp =>
            intro _
            refine ⟨rfl, _, rfl, fun j v hj => ?_⟩
            have hjl := (List.getElem?_eq_some_iff.1 hj).1
            have hjv := (List.getElem?_eq_some_iff.1 hj).2
            rw [List.getElem_replicate] at hjv
            subst hjv
            rw [List.length_replicate] at hjl
            have hcj : cu[j]? = some (.int .i64 x) := by
              have h7 : (cu.take n)[j]? = cu[j]? := by rw [List.getElem?_take, if_pos (by omega)]
              rw [← h7, htk, List.getElem?_replicate, if_pos (by omega)]
            have hadj : (⟨g, 0, none⟩ : Addr).add j = ⟨g, j, none⟩ := by
              unfold Addr.add
              split
              · rename_i h0
                rw [h0]
              · simp
            rw [hadj]
            simp [World.cell?, hcc, hcj]
          intro w8 hc8 hb9
          refine hK.out _ _ trivial (fun hHeld => ?_)
          clear hK K
          rw [List.length_replicate]
          refine norm_ (a' := ?_) ?_ ?_
          rotate_left
          · show Act.put _ (some 45) _ = _
            simp only [Act.put, List.setIfInBounds_toArray, List.set_cons_zero, List.set_cons_succ, i64_w, i32_w]
            rfl
          refine pure_ (i := 8) (N := some 46) (v := ?_) (a' := ?_) #[true, true, true, true, true, true, true, true, true, false] rfl rfl (by kernel_rfl) (fun _ _ _ h => h) (Or.inl ⟨by rfl, ?_⟩) ?_ ?_
          rotate_left
          · intro w'
            go_simp
            with_reducible rfl
          rotate_left
          · simp only [Act.put, List.setIfInBounds_toArray, List.set_cons_zero, List.set_cons_succ, i64_w, i32_w]
            rfl
          refine pure_ (i := 9) (N := some 8) (v := ?_) (a' := ?_) #[true, true, true, true, true, true, true, true, true, true] rfl rfl (by kernel_rfl) (fun _ _ _ h => h) (Or.inl ⟨by rfl, ?_⟩) ?_ ?_
          rotate_left
          · intro w'
            go_simp
            with_reducible rfl
          rotate_left
          · simp only [Act.put, List.setIfInBounds_toArray, List.set_cons_zero, List.set_cons_succ, i64_w, i32_w]
            rfl
          refine done_ (by kernel_rfl) ?_
          try go_wp2
          go_roundw
          case rel => exact ⟨n + q2, _, by rw [HWR.out], hfA, Or.inl hfB, hc8, hfD, hfE, hb9⟩
          case measure => rw [HWR.out]; exact hfC
        · have hd0 : decide ((n : Int) < (m : Int)) = false := decide_eq_false (by omega)
          have hnm2 : n = m := by omega
          go_wp2
          go_ret
          exact ⟨_, rfl, slices_Repeat_int_int.fin hBg hcc hmc hcm hcl2 (by rw [← hnm2]; exact htk), hb8⟩
    · rw [if_neg h2] at h
      exact absurd h (by simp)
  · rw [if_neg h1] at h
    exact absurd h (by simp)

end Go.Proofs.Ytnhohachlieglaa.PFnExactUnsayWord
