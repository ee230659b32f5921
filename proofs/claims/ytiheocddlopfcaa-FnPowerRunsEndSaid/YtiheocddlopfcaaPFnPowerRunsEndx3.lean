-- out of the kit's print, turned by wip/own_print.py
import Derived.Test.YtiheocddlopfcaaPFnPowerRunsEndx0
import Derived.Test.YtiheocddlopfcaaPFnPowerRunsEndx1
import Derived.Test.YtiheocddlopfcaaPFnPowerRunsEndx2
namespace Go.Proofs.Ytiheocddlopfcaa.PFnPowerRunsEnd
open Go.RowKit Go.Proofs.YtiheocddlopfcaaW.PrintWords Go.Proofs.YtiheocddlopfcaaW.PrintLast Go.Proofs.YtiheocddlopfcaaW.PrintMore
attribute [local go_sem] max2_int min2_int max_two min_two max_three min_three max_four min_four   -- for this text's walks alone
set_option linter.unusedVariables false
set_option linter.unusedSimpArgs false

/-! ### spec_dgAsked: function 242 -/
def spec_dgAsked.f (a0 : Int) (a1 : Int) : Option (Bool) := (spec_dgNumber.f a0).bind fun t206 => (if t206 = true then ((spec_dgBase.f a1).bind fun t207 => (some t207)) else (some false))
set_option maxHeartbeats 8000000 in
set_option maxRecDepth 100000 in
theorem spec_dgAsked.calls (a0 : Int) (a1 : Int) (r : Bool) (w : World) (h : spec_dgAsked.f a0 a1 = some r) :
    Calls Try.prog 242 #[.int .i64 a0, .int .i64 a1] w fun e w' => e = .returned (.bool r) ∧ Drawn0 w w' := by
  have H : ((spec_dgNumber.f a0).bind fun t206 => (if t206 = true then ((spec_dgBase.f a1).bind fun t207 => (some t207)) else (some false))) = some r := h
  clear h
  replace H := Option.bind_eq_some_iff.mp H
  obtain ⟨t206, A30, H⟩ := H
  replace H : (if t206 = true then ((spec_dgBase.f a1).bind fun t207 => (some t207)) else (some false)) = some r := H
  have A3 := Aside0.mk A30
  clear A30
  by_cases c4 : t206 = true
  · subst c4
    have H1 : ((spec_dgBase.f a1).bind fun t207 => (some t207)) = some r := by rw [if_pos rfl] at H; exact H
    clear H
    have H := H1
    clear H1
    replace H := Option.bind_eq_some_iff.mp H
    obtain ⟨t207, A50, H⟩ := H
    replace H : (some t207) = some r := H
    have A5 := Aside0.mk A50
    clear A50
    obtain rfl := Option.some.inj H
    go_enter Try.func242, Try.ntmps242
    go_wp2_with (first | ((with_reducible refine gate_callee (f := 329) rfl ?_); refine goesL_ (some 6) rfl rfl Try.func329 (by kernel_rfl) rfl #[.int .i64 a0] rfl (by (try simp only [List.map_toArray, List.map_cons, List.map_nil]); first | done | rfl | (simp only [List.length_drop, List.length_take]; rfl)) ?_; (with_reducible refine (spec_dgNumber.calls a0 true _ A3.out).mono ?_); rintro e w' ⟨rfl, ⟨nd, rfl⟩⟩; refine ⟨_, rfl, ?_⟩) | (go_at_call 258; (with_reducible refine (spec_dgBase.calls a1 t207 _ A5.out).mono ?_); rintro e w' ⟨rfl, ⟨nd, rfl⟩⟩))
    go_ret
    exact ⟨by first | rfl | (simp; done) | (simp [*]; done), by repeat (first | exact Drawn0.refl _ | apply Drawn0.step)⟩
  · replace c4 := Bool.eq_false_iff.mpr c4
    subst c4
    have H1 : (some false) = some r := by rw [if_neg (show ¬ (false = true) by decide)] at H; exact H
    clear H
    have H := H1
    clear H1
    obtain rfl := Option.some.inj H
    go_enter Try.func242, Try.ntmps242
    go_wp2_with (first | ((with_reducible refine gate_callee (f := 329) rfl ?_); refine goesL_ (some 6) rfl rfl Try.func329 (by kernel_rfl) rfl #[.int .i64 a0] rfl (by (try simp only [List.map_toArray, List.map_cons, List.map_nil]); first | done | rfl | (simp only [List.length_drop, List.length_take]; rfl)) ?_; (with_reducible refine (spec_dgNumber.calls a0 false _ A3.out).mono ?_); rintro e w' ⟨rfl, ⟨nd, rfl⟩⟩; refine ⟨_, rfl, ?_⟩))
    go_ret
    exact ⟨by first | rfl | (simp; done) | (simp [*]; done), by repeat (first | exact Drawn0.refl _ | apply Drawn0.step)⟩

/-! ### spec_pwPower: function 281 -/
def spec_pwPower.f (a0 : Int) (a1 : Int) : Option (Bool) := (spec_l1In.f a0 1 a1).bind fun t208 => (some t208)
set_option maxHeartbeats 8000000 in
set_option maxRecDepth 100000 in
theorem spec_pwPower.calls (a0 : Int) (a1 : Int) (r : Bool) (w : World) (h : spec_pwPower.f a0 a1 = some r) :
    Calls Try.prog 281 #[.int .i64 a0, .int .i64 a1] w fun e w' => e = .returned (.bool r) ∧ Drawn0 w w' := by
  have H : ((spec_l1In.f a0 1 a1).bind fun t208 => (some t208)) = some r := h
  clear h
  replace H := Option.bind_eq_some_iff.mp H
  obtain ⟨t208, A30, H⟩ := H
  replace H : (some t208) = some r := H
  have A3 := Aside0.mk A30
  clear A30
  obtain rfl := Option.some.inj H
  go_enter Try.func281, Try.ntmps281
  go_wp2_with (first | ((with_reducible refine gate_callee (f := 197) rfl ?_); refine goesL_ (some 7) rfl rfl Try.func197 (by kernel_rfl) rfl #[.int .i64 a0, .int .i64 1, .int .i64 a1] rfl (by (try simp only [List.map_toArray, List.map_cons, List.map_nil]); first | done | rfl | (simp only [List.length_drop, List.length_take]; rfl)) ?_; (with_reducible refine (spec_l1In.calls a0 1 a1 t208 _ A3.out).mono ?_); rintro e w' ⟨rfl, ⟨nd, rfl⟩⟩; refine ⟨_, rfl, ?_⟩))
  go_ret
  exact ⟨by first | rfl | (simp; done) | (simp [*]; done), by repeat (first | exact Drawn0.refl _ | apply Drawn0.step)⟩

/-! ### spec_pwOf: function 324 -/
def spec_pwOf.l0 : Nat → Int → Int → Int → Option (Int)
  | 0, _, _, _ => none
  | k + 1, x0, x1, x5 => if x1 > 0 then (spec_pwOf.l0 k x0 (wrap64 (x1 - 1)) (wrap64 (x5 * x0))) else (some x5)
def spec_pwOf.f (k : Nat) (a0 : Int) (a1 : Int) : Option (Int) := spec_pwOf.l0 k a0 a1 1
theorem spec_pwOf.mono_l : ∀ k, (∀ y0 y1 y2, LeO (spec_pwOf.l0 k y0 y1 y2) (spec_pwOf.l0 (k + 1) y0 y1 y2))
  | 0 => fun _ _ _ r h => by simp [spec_pwOf.l0] at h
  | k + 1 => by
    have ih0 := spec_pwOf.mono_l k
    · intro y0 y1 y2
      unfold spec_pwOf.l0
      repeat' first
      | (with_reducible exact ih0 _ _ _)
      | (with_reducible exact LeO.refl _)
      | (with_reducible exact LeO.none _)
      | (with_reducible refine LeO.ite ?_ ?_)
      | (with_reducible refine LeO.bind ?_ (fun _ => ?_))
      | exact ih0 _ _ _
      | exact LeO.none _
      | refine LeO.ite ?_ ?_
      | refine LeO.bind ?_ (fun _ => ?_)
theorem spec_pwOf.mono : ∀ a0 a1 k, LeO (spec_pwOf.f k a0 a1) (spec_pwOf.f (k + 1) a0 a1) := by
  intro a0 a1 k
  have ih0 := spec_pwOf.mono_l k
  unfold spec_pwOf.f
  repeat' first
      | (with_reducible exact ih0 _ _ _)
      | (with_reducible exact LeO.refl _)
      | (with_reducible exact LeO.none _)
      | (with_reducible refine LeO.ite ?_ ?_)
      | (with_reducible refine LeO.bind ?_ (fun _ => ?_))
      | exact ih0 _ _ _
      | exact LeO.none _
      | refine LeO.ite ?_ ?_
      | refine LeO.bind ?_ (fun _ => ?_)
set_option maxHeartbeats 8000000 in
set_option maxRecDepth 100000 in
theorem spec_pwOf.calls (k : Nat) (a0 : Int) (a1 : Int) (r : Int) (w : World) (h : spec_pwOf.f k a0 a1 = some r) :
    Calls Try.prog 324 #[.int .i64 a0, .int .i64 a1] w fun e w' => e = .returned (.int .i64 r) ∧ Drawn0 w w' := by
  have H : (spec_pwOf.l0 k a0 a1 1) = some r := h
  clear h
  have H' := Aside0.mk H
  clear H
  go_enter Try.func324, Try.ntmps324
  go_wp2
  go_loopg [1, 5] k (fun kq v1 v5 w' => ∃ (x1_1 : Int) (x5_1 : Int), v1 = .int .i64 x1_1 ∧ v5 = .int .i64 x5_1 ∧ Aside0 (spec_pwOf.l0 kq a0 x1_1 x5_1 = some r) ∧ Aside0 (kq ≤ k) ∧ Drawn0 w w')
  case atStart => exact ⟨(a1), (1), (by first | rfl | (simp; done) | (simp [*]; done)), (by first | rfl | (simp; done) | (simp [*]; done)), H', ⟨Nat.le_refl _⟩, by repeat (first | exact Drawn0.refl _ | apply Drawn0.step)⟩
  case round =>
    clear H'
    try clear p2
    obtain ⟨x1_1, x5_1, rfl, rfl, HA, HK1, ⟨m1, rfl⟩⟩ := hrel
    cases gk with
    | zero => exact absurd HA.out (by simp [spec_pwOf.l0])
    | succ k1 =>
      have H := HA.out
      clear HA
      simp only [spec_pwOf.l0] at H
      by_cases c3 : x1_1 > 0
      · rw [if_pos c3] at H
        have c3b0 : decide (0 < x1_1) = true := decide_eq_true c3
        clear c3
        have H' := Aside0.mk H
        clear H
        go_wp2
        go_roundg k1
        case measure => have := HK1.out; omega
        case rel => exact ⟨(wrap64 (x1_1 - 1)), (wrap64 (x5_1 * a0)), (by first | rfl | (simp; done) | (simp [*]; done)), (by first | rfl | (simp; done) | (simp [*]; done)), H', ⟨by have := HK1.out; omega⟩, by repeat (first | exact Drawn0.refl _ | apply Drawn0.step)⟩
      · rw [if_neg c3] at H
        have c3b0 : decide (0 < x1_1) = false := decide_eq_false c3
        clear c3
        obtain rfl := Option.some.inj H
        go_wp2
        go_ret
        exact ⟨by first | rfl | (simp; done) | (simp [*]; done), by repeat (first | exact Drawn0.refl _ | apply Drawn0.step)⟩

/-! ### spec_pwSum: function 293 -/
def spec_pwSum.l0 : Nat → Int → Int → Int → Int → Option (Int)
  | 0, _, _, _, _ => none
  | k + 1, x0, x1, x2, x7 => if x0 > 0 then (if x1 = 0 then (none) else ((spec_pwOf.f k (Int.tmod x0 x1) x2).bind fun t209 => (spec_pwSum.l0 k (wrap64 (Int.tdiv x0 x1)) x1 x2 (wrap64 (x7 + t209))))) else (some x7)
def spec_pwSum.f (k : Nat) (a0 : Int) (a1 : Int) (a2 : Int) : Option (Int) := spec_pwSum.l0 k a0 a1 a2 0
theorem spec_pwSum.mono_l : ∀ k, (∀ y0 y1 y2 y3, LeO (spec_pwSum.l0 k y0 y1 y2 y3) (spec_pwSum.l0 (k + 1) y0 y1 y2 y3))
  | 0 => fun _ _ _ _ r h => by simp [spec_pwSum.l0] at h
  | k + 1 => by
    have ih0 := spec_pwSum.mono_l k
    · intro y0 y1 y2 y3
      unfold spec_pwSum.l0
      repeat' first
      | (with_reducible exact ih0 _ _ _ _)
      | (with_reducible exact spec_pwOf.mono _ _ _)
      | (with_reducible exact LeO.refl _)
      | (with_reducible exact LeO.none _)
      | (with_reducible refine LeO.ite ?_ ?_)
      | (with_reducible refine LeO.bind ?_ (fun _ => ?_))
      | exact ih0 _ _ _ _
      | exact spec_pwOf.mono _ _ _
      | exact LeO.none _
      | refine LeO.ite ?_ ?_
      | refine LeO.bind ?_ (fun _ => ?_)
theorem spec_pwSum.mono : ∀ a0 a1 a2 k, LeO (spec_pwSum.f k a0 a1 a2) (spec_pwSum.f (k + 1) a0 a1 a2) := by
  intro a0 a1 a2 k
  have ih0 := spec_pwSum.mono_l k
  unfold spec_pwSum.f
  repeat' first
      | (with_reducible exact ih0 _ _ _ _)
      | (with_reducible exact spec_pwOf.mono _ _ _)
      | (with_reducible exact LeO.refl _)
      | (with_reducible exact LeO.none _)
      | (with_reducible refine LeO.ite ?_ ?_)
      | (with_reducible refine LeO.bind ?_ (fun _ => ?_))
      | exact ih0 _ _ _ _
      | exact spec_pwOf.mono _ _ _
      | exact LeO.none _
      | refine LeO.ite ?_ ?_
      | refine LeO.bind ?_ (fun _ => ?_)
set_option maxHeartbeats 8000000 in
set_option maxRecDepth 100000 in
theorem spec_pwSum.calls (k : Nat) (a0 : Int) (a1 : Int) (a2 : Int) (r : Int) (w : World) (h : spec_pwSum.f k a0 a1 a2 = some r) :
    Calls Try.prog 293 #[.int .i64 a0, .int .i64 a1, .int .i64 a2] w fun e w' => e = .returned (.int .i64 r) ∧ Drawn0 w w' := by
  have H : (spec_pwSum.l0 k a0 a1 a2 0) = some r := h
  clear h
  have H' := Aside0.mk H
  clear H
  go_enter Try.func293, Try.ntmps293
  go_wp2
  go_loopg [0, 7] k (fun kq v0 v7 w' => ∃ (x0_1 : Int) (x7_1 : Int), v0 = .int .i64 x0_1 ∧ v7 = .int .i64 x7_1 ∧ Aside0 (spec_pwSum.l0 kq x0_1 a1 a2 x7_1 = some r) ∧ Aside0 (kq ≤ k) ∧ Drawn0 w w')
  case atStart => exact ⟨(a0), (0), (by first | rfl | (simp; done) | (simp [*]; done)), (by first | rfl | (simp; done) | (simp [*]; done)), H', ⟨Nat.le_refl _⟩, by repeat (first | exact Drawn0.refl _ | apply Drawn0.step)⟩
  case round =>
    clear H'
    try clear c2
    try clear p2
    obtain ⟨x0_1, x7_1, rfl, rfl, HA, HK1, ⟨m1, rfl⟩⟩ := hrel
    cases gk with
    | zero => exact absurd HA.out (by simp [spec_pwSum.l0])
    | succ k1 =>
      have H := HA.out
      clear HA
      simp only [spec_pwSum.l0] at H
      by_cases c4 : x0_1 > 0
      · rw [if_pos c4] at H
        have c4b0 : decide (0 < x0_1) = true := decide_eq_true c4
        clear c4
        by_cases c5 : a1 = 0
        · rw [if_pos c5] at H
          exact absurd H (by simp)
        · rw [if_neg c5] at H
          have c5b0 : (a1 == 0) = false := beq_eq_false_iff_ne.mpr c5
          have c5b1 : (a1 != 0) = true := bne_iff_ne.mpr c5
          replace H := Option.bind_eq_some_iff.mp H
          obtain ⟨t209, A60, H⟩ := H
          replace H : (spec_pwSum.l0 k1 (wrap64 (Int.tdiv x0_1 a1)) a1 a2 (wrap64 (x7_1 + t209))) = some r := H
          have A6 := Aside0.mk A60
          clear A60
          have H' := Aside0.mk H
          clear H
          go_wp2_with (first | ((with_reducible refine gate_callee (f := 324) rfl ?_); refine goesL_ (some 18) rfl rfl Try.func324 (by kernel_rfl) rfl #[.int .i64 (Int.tmod x0_1 a1), .int .i64 a2] rfl (by (try simp only [List.map_toArray, List.map_cons, List.map_nil]); first | done | rfl | (simp only [List.length_drop, List.length_take]; rfl)) ?_; (with_reducible refine (spec_pwOf.calls k1 (Int.tmod x0_1 a1) a2 t209 _ A6.out).mono ?_); rintro e w' ⟨rfl, ⟨nd, rfl⟩⟩; refine ⟨_, rfl, ?_⟩))
          go_roundg k1
          case measure => have := HK1.out; omega
          case rel => exact ⟨(wrap64 (Int.tdiv x0_1 a1)), (wrap64 (x7_1 + t209)), (by first | rfl | (simp; done) | (simp [*]; done)), (by first | rfl | (simp; done) | (simp [*]; done)), H', ⟨by have := HK1.out; omega⟩, by repeat (first | exact Drawn0.refl _ | apply Drawn0.step)⟩
      · rw [if_neg c4] at H
        have c4b0 : decide (0 < x0_1) = false := decide_eq_false c4
        clear c4
        obtain rfl := Option.some.inj H
        go_wp2
        go_ret
        exact ⟨by first | rfl | (simp; done) | (simp [*]; done), by repeat (first | exact Drawn0.refl _ | apply Drawn0.step)⟩

/-! ### spec_pwRun: function 282 -/
def spec_pwRun.run (s : Int → Option Int) : Nat → List Int → Int → Option (List Int × Int)
  | 0, _, _ => none
  | k + 1, xs, x => (s x).bind fun y => if y ∈ xs then some (xs, (xs.idxOf y : Int)) else if xs.length < 17592186044416 then spec_pwRun.run s k (xs ++ [y]) y else none
theorem spec_pwRun.run_mono (s t : Int → Option Int) (hst : ∀ x, LeO (s x) (t x)) : ∀ (k : Nat) (xs : List Int) (x : Int), LeO (spec_pwRun.run s k xs x) (spec_pwRun.run t (k + 1) xs x)
  | 0, _, _ => fun r h => by simp [spec_pwRun.run] at h
  | k + 1, xs, x => by
    rw [spec_pwRun.run, spec_pwRun.run]
    refine LeO.bind (hst _) (fun _ => LeO.ite (LeO.refl _) (LeO.ite ?_ (LeO.none _)))
    exact spec_pwRun.run_mono s t hst k _ _
theorem spec_pwRun.first (y : Int) (xs : List Int) (k : Nat) (hk : k < xs.length) (h1 : y ∉ xs.take k) (h2 : rd xs (k : Int) = y) : y ∈ xs ∧ xs.idxOf y = k := by
  have h3 : xs[k] = y := by simpa [rd, hk] using h2
  have hm : y ∈ xs := h3 ▸ List.getElem_mem hk
  refine ⟨hm, ?_⟩
  have e : xs = xs.take k ++ xs.drop k := (List.take_append_drop k xs).symm
  have e2 : xs.drop k = y :: xs.drop (k + 1) := by rw [List.drop_eq_getElem_cons hk, h3]
  rw [e, List.idxOf_append, if_neg h1, e2, List.idxOf_cons_self]
  simp
  omega
theorem spec_pwRun.more (y : Int) (xs : List Int) (k : Nat) (hk : k < xs.length) (h1 : y ∉ xs.take k) (h2 : rd xs (k : Int) ≠ y) : y ∉ xs.take (k + 1) := by
  rw [List.take_succ_eq_append_getElem hk]
  intro hm
  rcases List.mem_append.1 hm with hm | hm
  · exact h1 hm
  · have h3 : y = xs[k] := by simpa using hm
    exact h2 (by simp [rd, hk, h3])
def spec_pwRun.f (k : Nat) (a0 a1 a2 : Int) : Option (List Int × Int) := spec_pwRun.run (fun x => spec_pwSum.f k x a1 a2) k [a0] a0
theorem spec_pwRun.mono : ∀ a0 a1 a2 k, LeO (spec_pwRun.f k a0 a1 a2) (spec_pwRun.f (k + 1) a0 a1 a2) := by
  intro a0 a1 a2 k
  unfold spec_pwRun.f
  exact spec_pwRun.run_mono _ _ (fun x => spec_pwSum.mono _ _ _ _) _ _ _
set_option maxHeartbeats 4000000 in
set_option maxRecDepth 100000 in
theorem spec_pwRun.calls (k : Nat) (a0 a1 a2 : Int) (r1 : List Int) (r2 : Int) (w : World) (h : spec_pwRun.f k a0 a1 a2 = some (r1, r2)) :
    Calls Try.prog 282 #[.int .i64 a0, .int .i64 a1, .int .i64 a2] w fun e w' => ∃ v0_ : Value, e = .returned (.tuple #[v0_, .int .i64 r2]) ∧ Kd.R (Kd.int .i64) 3 w' w.heap.size (fun _ => True) v0_ r1 ∧ Below w.heap.size w w' := by
  unfold spec_pwRun.f at h
  have HS := Aside0.mk (fun (W : World) (x y : Int) (hy : spec_pwSum.f k x a1 a2 = some y) => spec_pwSum.calls k x a1 a2 y W hy)
  generalize hs : (fun x => spec_pwSum.f k x a1 a2) = s at h
  have HS2 := Aside0.mk hs
  clear hs
  have H' := Aside0.mk h
  clear h
  have HB := Aside0.mk (Below.refl w.heap.size w)
  go_enter Try.func282, Try.ntmps282
  go_wp2_with (first | ((with_reducible refine gate_dst (N := 12) rfl ?_); refine Kd.R_lit (Kd.int .i64) _ 3 ?hg (N := 12) ?hd (xs := ([a0] : List Int)) (inner := [.int .i64 a0]) (ok := fun _ => True) (okp := fun _ => True) ?hr ?hp (fun _ hk => hk) trivial (Below.refl _ _) (Nat.le_refl _) (by simp) ?_; (case hd => rfl); (case hg => rfl); (case hr => first | (go_simp; done) | (go_simp; rfl)); (case hp => exact (Reps.one (show Kd.M (Kd.int .i64) _ _ _ a0 [.int .i64 a0] from rfl) (Reps.none _ _))); intro v159 w6 ho7 hb hg_ hnew_; clear hg_ hnew_; have HO := Aside0.mk ho7; have n1_ := Aside0.mk (below_step HB.out hb); clear HB; have HB := n1_; clear n1_ hb ho7))
  go_loopg [0, 8] k (fun kq v0 v8 w' => ∃ (x : Int) (xs : List Int), v0 = .int .i64 x ∧ Aside0 (spec_pwRun.run s kq xs x = some (r1, r2)) ∧ Aside0 (kq ≤ k) ∧ Aside0 (Kd.R (Kd.int .i64) 3 w' w.heap.size (fun _ => True) v8 xs) ∧ Aside0 (Below w.heap.size w w'))
  case atStart => exact ⟨a0, [a0], rfl, H', ⟨Nat.le_refl _⟩, HO, HB⟩
  case round =>
    clear H'
    obtain ⟨x, xs, rfl, HA, HK1, HO, HB⟩ := hrel
    cases gk with
    | zero => exact absurd HA.out (by simp [spec_pwRun.run])
    | succ k1 =>
      have H := HA.out
      clear HA
      simp only [spec_pwRun.run] at H
      obtain ⟨y, hy, H⟩ := Option.bind_eq_some_iff.1 H
      rw [← HS2.out] at hy
      have HY := Aside0.mk hy
      have H' := Aside0.mk H
      clear hy H
      obtain ⟨A8, c8, e8⟩ := Kd.R_slice HO.out
      subst e8
      go_wp2_with (go_at_call 293; refine (HS.out _ x y HY.out).mono ?_; rintro e w3 ⟨rfl, hb3⟩; have n1_ := Aside0.mk (below_step HB.out (Drawn0.below hb3)); have n2_ := Aside0.mk (Kd.R_below HO.out (Drawn0.below hb3)); clear HB HO hb3; have HB := n1_; have HO := n2_; clear n1_ n2_)
      have HC := Aside0.mk (Kd.R_reads' HO.out).2.2
      have hlen : xs.length ≤ 9223372036854775807 := HC.out.2.1
      go_loopw [19] (fun v wr => ∃ j : Nat, j ≤ xs.length ∧ v = .int .i64 j ∧ Aside0 (y ∉ xs.take j) ∧ w3 = wr) (fun v _ => xs.length - (intOf v).toNat)
      case atStart => exact ⟨0, Nat.zero_le _, rfl, ⟨by simp⟩, rfl⟩
      case round =>
        obtain ⟨j, hj, rfl, hno, rfl⟩ := hrel
        by_cases hlt : j < xs.length
        · obtain ⟨ad, he, hx⟩ := Kd.at_int HC.out (j : Int) (by omega) (by omega)
          have HE := Aside0.mk he
          obtain rfl := HE.out
          rw [Int.toNat_natCast] at hx
          by_cases hq : rd xs (j : Int) = y
          · obtain ⟨hm, hi⟩ := spec_pwRun.first y xs j hlt hno.out hq
            have H := H'.out
            rw [if_pos hm] at H
            obtain ⟨rfl, rfl⟩ := Prod.mk.inj (Option.some.inj H)
            rw [hq] at hx
            have HI := Aside0.mk hi
            clear hm hi H H' hq he HE
            go_wp2
            go_ret2
            refine ⟨.slice (some ad) xs.length c8, ?_, HO.out, HB.out⟩
            rw [HI.out]
            rfl
          · have hmore := Aside0.mk (spec_pwRun.more y xs j hlt hno.out hq)
            generalize rd xs (j : Int) = z at hx hq
            have hd : (z == y) = false := beq_eq_false_iff_ne.2 hq
            clear hq he HE
            go_wp2
            exact ⟨⟨j + 1, by omega, by go_num, hmore, trivial⟩, by simp [intOf]; omega⟩
        · obtain rfl : j = xs.length := by omega
          have hno2 := hno.out
          rw [List.take_length] at hno2
          have H := H'.out
          rw [if_neg hno2] at H
          by_cases hl : xs.length < 17592186044416
          · rw [if_pos hl] at H
            have HL := Aside0.mk hl
            have H2 := Aside0.mk H
            clear hl H H' hno2
            go_wp2_with ((with_reducible refine gate_builtin (b := .append) (xs := #[.tmp 30, .tmp 32]) rfl ?_); at_builtin; (refine Kd.R_append (Kd.int .i64) (w0 := w) w.heap.size rfl (.tmp 30) (.tmp 32) 29 3 (.int .i64 0) 8 rfl Try.underlying29 info3 rfl (by decide) (by omega) _ xs y [.int .i64 y] (fun _ => True) (fun _ => False) rfl rfl ?aP (fun _ hk => hk.elim) ?aF ?aO ?aB ?aS ?aL ?_); (case aP => exact rfl); (case aB => exact HB.out); (case aF => exact (fun _ _ => trivial)); (case aO => exact HO.out); (case aS => exact HB.out.size); (case aL => have := HL.out; omega); intro v2 w2 ho2 hb2 hg2 hat2; clear hg2 hat2; have HO2 := Aside0.mk ho2; have HB2 := Aside0.mk hb2; clear ho2 hb2)
            go_roundg k1
            case measure => have := HK1.out; omega
            case rel => exact ⟨y, xs ++ [y], rfl, H2, ⟨by have := HK1.out; omega⟩, HO2, HB2⟩
          · rw [if_neg hl] at H
            exact absurd H (by simp)

/-! ### spec_PowerRun: function 115 -/
def spec_PowerRun.f (k : Nat) (a0 : Int) (a1 : Int) (a2 : Int) : Option (List Int × Bool) := (spec_dgAsked.f a0 a1).bind fun t210 => (if t210 = true then ((spec_pwPower.f a2 4).bind fun t211 => (if t211 = true then ((spec_pwRun.f k a0 a1 a2).bind fun bt212 => (some (bt212.1, true))) else (some (([] : List Int), false)))) else (some (([] : List Int), false)))
theorem spec_PowerRun.mono : ∀ a0 a1 a2 k, LeO (spec_PowerRun.f k a0 a1 a2) (spec_PowerRun.f (k + 1) a0 a1 a2) := by
  intro a0 a1 a2 k
  unfold spec_PowerRun.f
  repeat' first
      | (with_reducible exact spec_pwRun.mono _ _ _ _)
      | (with_reducible exact LeO.refl _)
      | (with_reducible exact LeO.none _)
      | (with_reducible refine LeO.ite ?_ ?_)
      | (with_reducible refine LeO.bind ?_ (fun _ => ?_))
      | exact spec_pwRun.mono _ _ _ _
      | exact LeO.none _
      | refine LeO.ite ?_ ?_
      | refine LeO.bind ?_ (fun _ => ?_)
set_option maxHeartbeats 8000000 in
set_option maxRecDepth 100000 in
theorem spec_PowerRun.calls (k : Nat) (a0 : Int) (a1 : Int) (a2 : Int) (r1 : List Int) (r2 : Bool) (w : World) (h : spec_PowerRun.f k a0 a1 a2 = some (r1, r2)) :
    Calls Try.prog 115 #[.int .i64 a0, .int .i64 a1, .int .i64 a2] w fun e w' => ∃ v0_ : Value, e = .returned (.tuple #[v0_, .bool r2]) ∧ Kd.R (Kd.int .i64) 3 w' w.heap.size (fun _ => True) v0_ r1 ∧ Below w.heap.size w w' := by
  have HB := Aside0.mk (Below.refl w.heap.size w)
  have H : ((spec_dgAsked.f a0 a1).bind fun t210 => (if t210 = true then ((spec_pwPower.f a2 4).bind fun t211 => (if t211 = true then ((spec_pwRun.f k a0 a1 a2).bind fun bt212 => (some (bt212.1, true))) else (some (([] : List Int), false)))) else (some (([] : List Int), false)))) = some (r1, r2) := h
  clear h
  replace H := Option.bind_eq_some_iff.mp H
  obtain ⟨t210, A40, H⟩ := H
  replace H : (if t210 = true then ((spec_pwPower.f a2 4).bind fun t211 => (if t211 = true then ((spec_pwRun.f k a0 a1 a2).bind fun bt212 => (some (bt212.1, true))) else (some (([] : List Int), false)))) else (some (([] : List Int), false))) = some (r1, r2) := H
  have A4 := Aside0.mk A40
  clear A40
  by_cases c5 : t210 = true
  · subst c5
    have H1 : ((spec_pwPower.f a2 4).bind fun t211 => (if t211 = true then ((spec_pwRun.f k a0 a1 a2).bind fun bt212 => (some (bt212.1, true))) else (some (([] : List Int), false)))) = some (r1, r2) := by rw [if_pos rfl] at H; exact H
    clear H
    have H := H1
    clear H1
    replace H := Option.bind_eq_some_iff.mp H
    obtain ⟨t211, A60, H⟩ := H
    replace H : (if t211 = true then ((spec_pwRun.f k a0 a1 a2).bind fun bt212 => (some (bt212.1, true))) else (some (([] : List Int), false))) = some (r1, r2) := H
    have A6 := Aside0.mk A60
    clear A60
    by_cases c7 : t211 = true
    · subst c7
      have H1 : ((spec_pwRun.f k a0 a1 a2).bind fun bt212 => (some (bt212.1, true))) = some (r1, r2) := by rw [if_pos rfl] at H; exact H
      clear H
      have H := H1
      clear H1
      replace H := Option.bind_eq_some_iff.mp H
      obtain ⟨⟨t212, t213⟩, A80, H⟩ := H
      replace H : (some (t212, true)) = some (r1, r2) := H
      have A8 := Aside0.mk A80
      clear A80
      simp only [Option.some.injEq, Prod.mk.injEq] at H
      obtain ⟨rfl, rfl⟩ := H
      go_enter Try.func115, Try.ntmps115
      go_wp2_with (first | ((with_reducible refine gate_callee (f := 242) rfl ?_); refine goesL_ (some 12) rfl rfl Try.func242 (by kernel_rfl) rfl #[.int .i64 a0, .int .i64 a1] rfl (by (try simp only [List.map_toArray, List.map_cons, List.map_nil]); first | done | rfl | (simp only [List.length_drop, List.length_take]; rfl)) ?_; (with_reducible refine (spec_dgAsked.calls a0 a1 true _ A4.out).mono ?_); rintro e w' ⟨rfl, ⟨nd, rfl⟩⟩; refine ⟨_, rfl, ?_⟩) | (go_at_call 281; (with_reducible refine (spec_pwPower.calls a2 4 true _ A6.out).mono ?_); rintro e w' ⟨rfl, ⟨nd, rfl⟩⟩) | ((with_reducible refine gate_callee (f := 282) rfl ?_); refine goesL_ (some 23) rfl rfl Try.func282 (by kernel_rfl) rfl #[.int .i64 a0, .int .i64 a1, .int .i64 a2] rfl (by (try simp only [List.map_toArray, List.map_cons, List.map_nil]); first | done | rfl | (simp only [List.length_drop, List.length_take]; rfl)) ?_; (with_reducible refine (spec_pwRun.calls k a0 a1 a2 t212 t213 _ A8.out).mono ?_); rintro e w9 ⟨v214, rfl, ho0, hb⟩; refine ⟨_, rfl, ?_⟩; have n0_ := Aside0.mk (Kd.R_lower ho0 (below_size (by repeat (first | (with_reducible first | exact HB.out | apply below_alloc | apply pw_below_drewN | apply below_drew1) | exact HB.out)))); have n1_ := Aside0.mk (below_step (by repeat (first | (with_reducible first | exact HB.out | apply below_alloc | apply pw_below_drewN | apply below_drew1) | exact HB.out)) hb); clear HB; have HO215 := n0_; have HB := n1_; clear n0_ n1_; (try clear hb); (try clear hb2); (try clear hk); (try clear hi); (try clear ho0)))
      go_ret2
      exact ⟨_, by first | rfl | (simp [errW_none, errW_some] <;> rfl) | (simp [*, errW_none, errW_some] <;> rfl), by (with_reducible repeat (first | apply Kd.R_alloc | apply Kd.R_drewN | apply Kd.R_drew)); exact HO215.out, by repeat (first | (with_reducible first | exact HB.out | apply below_alloc | apply pw_below_drewN | apply below_drew1) | exact HB.out)⟩
    · replace c7 := Bool.eq_false_iff.mpr c7
      subst c7
      have H1 : (some (([] : List Int), false)) = some (r1, r2) := by rw [if_neg (show ¬ (false = true) by decide)] at H; exact H
      clear H
      have H := H1
      clear H1
      simp only [Option.some.injEq, Prod.mk.injEq] at H
      obtain ⟨rfl, rfl⟩ := H
      go_enter Try.func115, Try.ntmps115
      go_wp2_with (first | ((with_reducible refine gate_callee (f := 242) rfl ?_); refine goesL_ (some 12) rfl rfl Try.func242 (by kernel_rfl) rfl #[.int .i64 a0, .int .i64 a1] rfl (by (try simp only [List.map_toArray, List.map_cons, List.map_nil]); first | done | rfl | (simp only [List.length_drop, List.length_take]; rfl)) ?_; (with_reducible refine (spec_dgAsked.calls a0 a1 true _ A4.out).mono ?_); rintro e w' ⟨rfl, ⟨nd, rfl⟩⟩; refine ⟨_, rfl, ?_⟩) | (go_at_call 281; (with_reducible refine (spec_pwPower.calls a2 4 false _ A6.out).mono ?_); rintro e w' ⟨rfl, ⟨nd, rfl⟩⟩))
      go_ret2
      exact ⟨_, by first | rfl | (simp [errW_none, errW_some] <;> rfl) | (simp [*, errW_none, errW_some] <;> rfl), by first | exact Kd.R_nil _ _ _ _ _ | exact Kd.N_nil _ _ _ _ _ | exact Kd.V_nil _ _ _ _ _ | exact Kd.Q_nil _ _ _ _ _ | exact Kd.S_nil _ _ _ _ _, by repeat (first | (with_reducible first | exact HB.out | apply below_alloc | apply pw_below_drewN | apply below_drew1) | exact HB.out)⟩
  · replace c5 := Bool.eq_false_iff.mpr c5
    subst c5
    have H1 : (some (([] : List Int), false)) = some (r1, r2) := by rw [if_neg (show ¬ (false = true) by decide)] at H; exact H
    clear H
    have H := H1
    clear H1
    simp only [Option.some.injEq, Prod.mk.injEq] at H
    obtain ⟨rfl, rfl⟩ := H
    go_enter Try.func115, Try.ntmps115
    go_wp2_with (first | ((with_reducible refine gate_callee (f := 242) rfl ?_); refine goesL_ (some 12) rfl rfl Try.func242 (by kernel_rfl) rfl #[.int .i64 a0, .int .i64 a1] rfl (by (try simp only [List.map_toArray, List.map_cons, List.map_nil]); first | done | rfl | (simp only [List.length_drop, List.length_take]; rfl)) ?_; (with_reducible refine (spec_dgAsked.calls a0 a1 false _ A4.out).mono ?_); rintro e w' ⟨rfl, ⟨nd, rfl⟩⟩; refine ⟨_, rfl, ?_⟩))
    go_ret2
    exact ⟨_, by first | rfl | (simp [errW_none, errW_some] <;> rfl) | (simp [*, errW_none, errW_some] <;> rfl), by first | exact Kd.R_nil _ _ _ _ _ | exact Kd.N_nil _ _ _ _ _ | exact Kd.V_nil _ _ _ _ _ | exact Kd.Q_nil _ _ _ _ _ | exact Kd.S_nil _ _ _ _ _, by repeat (first | (with_reducible first | exact HB.out | apply below_alloc | apply pw_below_drewN | apply below_drew1) | exact HB.out)⟩

/-! ### impl_PowerTail: function 116 -/
def impl_PowerTail.f (k : Nat) (a0 : Int) (a1 : Int) (a2 : Int) : Option (Int × Int × Bool) := (impl_isCycled.f a0 a1 a2).bind fun t216 => (if t216 = true then ((impl_powerRun.f k a0 a1 a2).bind fun bt217 => (some (bt217.2, wrap64 ((bt217.1.length : Int) - bt217.2), true))) else (some (0, 0, false)))
theorem impl_PowerTail.mono : ∀ a0 a1 a2 k, LeO (impl_PowerTail.f k a0 a1 a2) (impl_PowerTail.f (k + 1) a0 a1 a2) := by
  intro a0 a1 a2 k
  unfold impl_PowerTail.f
  repeat' first
      | (with_reducible exact impl_powerRun.mono _ _ _ _)
      | (with_reducible exact LeO.refl _)
      | (with_reducible exact LeO.none _)
      | (with_reducible refine LeO.ite ?_ ?_)
      | (with_reducible refine LeO.bind ?_ (fun _ => ?_))
      | exact impl_powerRun.mono _ _ _ _
      | exact LeO.none _
      | refine LeO.ite ?_ ?_
      | refine LeO.bind ?_ (fun _ => ?_)
set_option maxHeartbeats 8000000 in
set_option maxRecDepth 100000 in
theorem impl_PowerTail.calls (k : Nat) (a0 : Int) (a1 : Int) (a2 : Int) (r1 : Int) (r2 : Int) (r3 : Bool) (w : World) (h : impl_PowerTail.f k a0 a1 a2 = some (r1, r2, r3)) :
    Calls Try.prog 116 #[.int .i64 a0, .int .i64 a1, .int .i64 a2] w fun e w' => e = .returned (.tuple #[.int .i64 r1, .int .i64 r2, .bool r3]) ∧ Below w.heap.size w w' := by
  have HB := Aside0.mk (Below.refl w.heap.size w)
  have H : ((impl_isCycled.f a0 a1 a2).bind fun t216 => (if t216 = true then ((impl_powerRun.f k a0 a1 a2).bind fun bt217 => (some (bt217.2, wrap64 ((bt217.1.length : Int) - bt217.2), true))) else (some (0, 0, false)))) = some (r1, r2, r3) := h
  clear h
  replace H := Option.bind_eq_some_iff.mp H
  obtain ⟨t216, A40, H⟩ := H
  replace H : (if t216 = true then ((impl_powerRun.f k a0 a1 a2).bind fun bt217 => (some (bt217.2, wrap64 ((bt217.1.length : Int) - bt217.2), true))) else (some (0, 0, false))) = some (r1, r2, r3) := H
  have A4 := Aside0.mk A40
  clear A40
  by_cases c5 : t216 = true
  · subst c5
    have H1 : ((impl_powerRun.f k a0 a1 a2).bind fun bt217 => (some (bt217.2, wrap64 ((bt217.1.length : Int) - bt217.2), true))) = some (r1, r2, r3) := by rw [if_pos rfl] at H; exact H
    clear H
    have H := H1
    clear H1
    replace H := Option.bind_eq_some_iff.mp H
    obtain ⟨⟨t217, t218⟩, A60, H⟩ := H
    replace H : (some (t218, wrap64 ((t217.length : Int) - t218), true)) = some (r1, r2, r3) := H
    have A6 := Aside0.mk A60
    clear A60
    simp only [Option.some.injEq, Prod.mk.injEq] at H
    obtain ⟨rfl, rfl, rfl⟩ := H
    go_enter Try.func116, Try.ntmps116
    go_wp2_with (first | ((with_reducible refine gate_callee (f := 279) rfl ?_); refine goesL_ (some 14) rfl rfl Try.func279 (by kernel_rfl) rfl #[.int .i64 a0, .int .i64 a1, .int .i64 a2] rfl (by (try simp only [List.map_toArray, List.map_cons, List.map_nil]); first | done | rfl | (simp only [List.length_drop, List.length_take]; rfl)) ?_; (with_reducible refine (impl_isCycled.calls a0 a1 a2 true _ A4.out).mono ?_); rintro e w' ⟨rfl, ⟨nd, rfl⟩⟩; refine ⟨_, rfl, ?_⟩) | ((with_reducible refine gate_callee (f := 280) rfl ?_); refine goesL_ (some 20) rfl rfl Try.func280 (by kernel_rfl) rfl #[.int .i64 a0, .int .i64 a1, .int .i64 a2] rfl (by (try simp only [List.map_toArray, List.map_cons, List.map_nil]); first | done | rfl | (simp only [List.length_drop, List.length_take]; rfl)) ?_; (with_reducible refine (impl_powerRun.calls k a0 a1 a2 t217 t218 _ A6.out).mono ?_); rintro e w7 ⟨v219, rfl, ho0, hb⟩; refine ⟨_, rfl, ?_⟩; have n0_ := Aside0.mk (Kd.R_lower ho0 (below_size (by repeat (first | (with_reducible first | exact HB.out | apply below_alloc | apply pw_below_drewN | apply below_drew1) | exact HB.out)))); have n1_ := Aside0.mk (below_step (by repeat (first | (with_reducible first | exact HB.out | apply below_alloc | apply pw_below_drewN | apply below_drew1) | exact HB.out)) hb); clear HB; have HO220 := n0_; have HB := n1_; clear n0_ n1_; (try clear hb); (try clear hb2); (try clear hk); (try clear hi); (try clear ho0); obtain ⟨Ao8, co8, eo8⟩ := Kd.R_slice HO220.out; subst eo8))
    go_ret3
    exact ⟨by first | rfl | (simp [errW_none, errW_some] <;> rfl) | (simp [*, errW_none, errW_some] <;> rfl), by repeat (first | (with_reducible first | exact HB.out | apply below_alloc | apply pw_below_drewN | apply below_drew1) | exact HB.out)⟩
  · replace c5 := Bool.eq_false_iff.mpr c5
    subst c5
    have H1 : (some (0, 0, false)) = some (r1, r2, r3) := by rw [if_neg (show ¬ (false = true) by decide)] at H; exact H
    clear H
    have H := H1
    clear H1
    simp only [Option.some.injEq, Prod.mk.injEq] at H
    obtain ⟨rfl, rfl, rfl⟩ := H
    go_enter Try.func116, Try.ntmps116
    go_wp2_with (first | ((with_reducible refine gate_callee (f := 279) rfl ?_); refine goesL_ (some 14) rfl rfl Try.func279 (by kernel_rfl) rfl #[.int .i64 a0, .int .i64 a1, .int .i64 a2] rfl (by (try simp only [List.map_toArray, List.map_cons, List.map_nil]); first | done | rfl | (simp only [List.length_drop, List.length_take]; rfl)) ?_; (with_reducible refine (impl_isCycled.calls a0 a1 a2 false _ A4.out).mono ?_); rintro e w' ⟨rfl, ⟨nd, rfl⟩⟩; refine ⟨_, rfl, ?_⟩))
    go_ret3
    exact ⟨by first | rfl | (simp [errW_none, errW_some] <;> rfl) | (simp [*, errW_none, errW_some] <;> rfl), by repeat (first | (with_reducible first | exact HB.out | apply below_alloc | apply pw_below_drewN | apply below_drew1) | exact HB.out)⟩

/-! ### spec_PowerTail: function 117 -/
def spec_PowerTail.f (k : Nat) (a0 : Int) (a1 : Int) (a2 : Int) : Option (Int × Int × Bool) := (spec_dgAsked.f a0 a1).bind fun t221 => (if t221 = true then ((spec_pwPower.f a2 4).bind fun t222 => (if t222 = true then ((spec_pwRun.f k a0 a1 a2).bind fun bt223 => (some (bt223.2, wrap64 ((bt223.1.length : Int) - bt223.2), true))) else (some (0, 0, false)))) else (some (0, 0, false)))
theorem spec_PowerTail.mono : ∀ a0 a1 a2 k, LeO (spec_PowerTail.f k a0 a1 a2) (spec_PowerTail.f (k + 1) a0 a1 a2) := by
  intro a0 a1 a2 k
  unfold spec_PowerTail.f
  repeat' first
      | (with_reducible exact spec_pwRun.mono _ _ _ _)
      | (with_reducible exact LeO.refl _)
      | (with_reducible exact LeO.none _)
      | (with_reducible refine LeO.ite ?_ ?_)
      | (with_reducible refine LeO.bind ?_ (fun _ => ?_))
      | exact spec_pwRun.mono _ _ _ _
      | exact LeO.none _
      | refine LeO.ite ?_ ?_
      | refine LeO.bind ?_ (fun _ => ?_)
set_option maxHeartbeats 8000000 in
set_option maxRecDepth 100000 in
theorem spec_PowerTail.calls (k : Nat) (a0 : Int) (a1 : Int) (a2 : Int) (r1 : Int) (r2 : Int) (r3 : Bool) (w : World) (h : spec_PowerTail.f k a0 a1 a2 = some (r1, r2, r3)) :
    Calls Try.prog 117 #[.int .i64 a0, .int .i64 a1, .int .i64 a2] w fun e w' => e = .returned (.tuple #[.int .i64 r1, .int .i64 r2, .bool r3]) ∧ Below w.heap.size w w' := by
  have HB := Aside0.mk (Below.refl w.heap.size w)
  have H : ((spec_dgAsked.f a0 a1).bind fun t221 => (if t221 = true then ((spec_pwPower.f a2 4).bind fun t222 => (if t222 = true then ((spec_pwRun.f k a0 a1 a2).bind fun bt223 => (some (bt223.2, wrap64 ((bt223.1.length : Int) - bt223.2), true))) else (some (0, 0, false)))) else (some (0, 0, false)))) = some (r1, r2, r3) := h
  clear h
  replace H := Option.bind_eq_some_iff.mp H
  obtain ⟨t221, A40, H⟩ := H
  replace H : (if t221 = true then ((spec_pwPower.f a2 4).bind fun t222 => (if t222 = true then ((spec_pwRun.f k a0 a1 a2).bind fun bt223 => (some (bt223.2, wrap64 ((bt223.1.length : Int) - bt223.2), true))) else (some (0, 0, false)))) else (some (0, 0, false))) = some (r1, r2, r3) := H
  have A4 := Aside0.mk A40
  clear A40
  by_cases c5 : t221 = true
  · subst c5
    have H1 : ((spec_pwPower.f a2 4).bind fun t222 => (if t222 = true then ((spec_pwRun.f k a0 a1 a2).bind fun bt223 => (some (bt223.2, wrap64 ((bt223.1.length : Int) - bt223.2), true))) else (some (0, 0, false)))) = some (r1, r2, r3) := by rw [if_pos rfl] at H; exact H
    clear H
    have H := H1
    clear H1
    replace H := Option.bind_eq_some_iff.mp H
    obtain ⟨t222, A60, H⟩ := H
    replace H : (if t222 = true then ((spec_pwRun.f k a0 a1 a2).bind fun bt223 => (some (bt223.2, wrap64 ((bt223.1.length : Int) - bt223.2), true))) else (some (0, 0, false))) = some (r1, r2, r3) := H
    have A6 := Aside0.mk A60
    clear A60
    by_cases c7 : t222 = true
    · subst c7
      have H1 : ((spec_pwRun.f k a0 a1 a2).bind fun bt223 => (some (bt223.2, wrap64 ((bt223.1.length : Int) - bt223.2), true))) = some (r1, r2, r3) := by rw [if_pos rfl] at H; exact H
      clear H
      have H := H1
      clear H1
      replace H := Option.bind_eq_some_iff.mp H
      obtain ⟨⟨t223, t224⟩, A80, H⟩ := H
      replace H : (some (t224, wrap64 ((t223.length : Int) - t224), true)) = some (r1, r2, r3) := H
      have A8 := Aside0.mk A80
      clear A80
      simp only [Option.some.injEq, Prod.mk.injEq] at H
      obtain ⟨rfl, rfl, rfl⟩ := H
      go_enter Try.func117, Try.ntmps117
      go_wp2_with (first | ((with_reducible refine gate_callee (f := 242) rfl ?_); refine goesL_ (some 13) rfl rfl Try.func242 (by kernel_rfl) rfl #[.int .i64 a0, .int .i64 a1] rfl (by (try simp only [List.map_toArray, List.map_cons, List.map_nil]); first | done | rfl | (simp only [List.length_drop, List.length_take]; rfl)) ?_; (with_reducible refine (spec_dgAsked.calls a0 a1 true _ A4.out).mono ?_); rintro e w' ⟨rfl, ⟨nd, rfl⟩⟩; refine ⟨_, rfl, ?_⟩) | (go_at_call 281; (with_reducible refine (spec_pwPower.calls a2 4 true _ A6.out).mono ?_); rintro e w' ⟨rfl, ⟨nd, rfl⟩⟩) | ((with_reducible refine gate_callee (f := 282) rfl ?_); refine goesL_ (some 24) rfl rfl Try.func282 (by kernel_rfl) rfl #[.int .i64 a0, .int .i64 a1, .int .i64 a2] rfl (by (try simp only [List.map_toArray, List.map_cons, List.map_nil]); first | done | rfl | (simp only [List.length_drop, List.length_take]; rfl)) ?_; (with_reducible refine (spec_pwRun.calls k a0 a1 a2 t223 t224 _ A8.out).mono ?_); rintro e w9 ⟨v225, rfl, ho0, hb⟩; refine ⟨_, rfl, ?_⟩; have n0_ := Aside0.mk (Kd.R_lower ho0 (below_size (by repeat (first | (with_reducible first | exact HB.out | apply below_alloc | apply pw_below_drewN | apply below_drew1) | exact HB.out)))); have n1_ := Aside0.mk (below_step (by repeat (first | (with_reducible first | exact HB.out | apply below_alloc | apply pw_below_drewN | apply below_drew1) | exact HB.out)) hb); clear HB; have HO226 := n0_; have HB := n1_; clear n0_ n1_; (try clear hb); (try clear hb2); (try clear hk); (try clear hi); (try clear ho0); obtain ⟨Ao10, co10, eo10⟩ := Kd.R_slice HO226.out; subst eo10))
      go_ret3
      exact ⟨by first | rfl | (simp [errW_none, errW_some] <;> rfl) | (simp [*, errW_none, errW_some] <;> rfl), by repeat (first | (with_reducible first | exact HB.out | apply below_alloc | apply pw_below_drewN | apply below_drew1) | exact HB.out)⟩
    · replace c7 := Bool.eq_false_iff.mpr c7
      subst c7
      have H1 : (some (0, 0, false)) = some (r1, r2, r3) := by rw [if_neg (show ¬ (false = true) by decide)] at H; exact H
      clear H
      have H := H1
      clear H1
      simp only [Option.some.injEq, Prod.mk.injEq] at H
      obtain ⟨rfl, rfl, rfl⟩ := H
      go_enter Try.func117, Try.ntmps117
      go_wp2_with (first | ((with_reducible refine gate_callee (f := 242) rfl ?_); refine goesL_ (some 13) rfl rfl Try.func242 (by kernel_rfl) rfl #[.int .i64 a0, .int .i64 a1] rfl (by (try simp only [List.map_toArray, List.map_cons, List.map_nil]); first | done | rfl | (simp only [List.length_drop, List.length_take]; rfl)) ?_; (with_reducible refine (spec_dgAsked.calls a0 a1 true _ A4.out).mono ?_); rintro e w' ⟨rfl, ⟨nd, rfl⟩⟩; refine ⟨_, rfl, ?_⟩) | (go_at_call 281; (with_reducible refine (spec_pwPower.calls a2 4 false _ A6.out).mono ?_); rintro e w' ⟨rfl, ⟨nd, rfl⟩⟩))
      go_ret3
      exact ⟨by first | rfl | (simp [errW_none, errW_some] <;> rfl) | (simp [*, errW_none, errW_some] <;> rfl), by repeat (first | (with_reducible first | exact HB.out | apply below_alloc | apply pw_below_drewN | apply below_drew1) | exact HB.out)⟩
  · replace c5 := Bool.eq_false_iff.mpr c5
    subst c5
    have H1 : (some (0, 0, false)) = some (r1, r2, r3) := by rw [if_neg (show ¬ (false = true) by decide)] at H; exact H
    clear H
    have H := H1
    clear H1
    simp only [Option.some.injEq, Prod.mk.injEq] at H
    obtain ⟨rfl, rfl, rfl⟩ := H
    go_enter Try.func117, Try.ntmps117
    go_wp2_with (first | ((with_reducible refine gate_callee (f := 242) rfl ?_); refine goesL_ (some 13) rfl rfl Try.func242 (by kernel_rfl) rfl #[.int .i64 a0, .int .i64 a1] rfl (by (try simp only [List.map_toArray, List.map_cons, List.map_nil]); first | done | rfl | (simp only [List.length_drop, List.length_take]; rfl)) ?_; (with_reducible refine (spec_dgAsked.calls a0 a1 false _ A4.out).mono ?_); rintro e w' ⟨rfl, ⟨nd, rfl⟩⟩; refine ⟨_, rfl, ?_⟩))
    go_ret3
    exact ⟨by first | rfl | (simp [errW_none, errW_some] <;> rfl) | (simp [*, errW_none, errW_some] <;> rfl), by repeat (first | (with_reducible first | exact HB.out | apply below_alloc | apply pw_below_drewN | apply below_drew1) | exact HB.out)⟩

/-! ### slices_Min_int_int: function 283 -/
def slices_Min_int_int.least (l : List Int) : Int := l.foldl min (l.headD 0)
def slices_Min_int_int.f (l0 : List Int) : Option Int := if l0.length = 0 then none else some (slices_Min_int_int.least l0)
theorem slices_Min_int_int.one (l : List Int) (h : 0 < l.length) : slices_Min_int_int.least (l.take 1) = rd l 0 := by
  cases l with
  | nil => simp at h
  | cons a l => simp [slices_Min_int_int.least, rd]
theorem slices_Min_int_int.step (l : List Int) (k : Nat) (hk : 0 < k) (h : k < l.length) : slices_Min_int_int.least (l.take (k + 1)) = min (slices_Min_int_int.least (l.take k)) (rd l k) := by
  cases l with
  | nil => simp at h
  | cons a l =>
    obtain ⟨k, rfl⟩ : ∃ m, k = m + 1 := ⟨k - 1, by omega⟩
    simp only [slices_Min_int_int.least, List.take_succ_cons, List.headD_cons]
    rw [← List.take_succ_cons, ← List.take_succ_cons, List.take_succ_eq_append_getElem h, List.foldl_append]
    have hk2 : k < l.length := by simpa using h
    simp [rd, hk2]
set_option maxHeartbeats 2000000 in
theorem slices_Min_int_int.calls (A0 : Option Addr) (c0 : Nat) (l0 : List Int) (r : Int) (w : World) (hr0 : Kd.C (Kd.int .i64) w A0 l0.length l0) (hc0 : l0.length ≤ c0) (h : slices_Min_int_int.f l0 = some r) :
    Calls Try.prog 283 #[.slice A0 l0.length c0] w fun e w' => e = .returned (.int .i64 r) ∧ Drawn0 w w' := by
  unfold slices_Min_int_int.f at h
  by_cases h0 : l0.length = 0
  · rw [if_pos h0] at h; exact absurd h (by simp)
  · rw [if_neg h0] at h
    obtain rfl := Option.some.inj h
    clear h hc0
    have hlen : l0.length ≤ 9223372036854775807 := hr0.2.1
    obtain ⟨ad, rfl, hx0⟩ := Kd.at_int hr0 0 (by omega) (by omega)
    have hx0' : w.cell? ad = some (.int .i64 (rd l0 0)) := by have e : ad.add (0 : Int).toNat = ad := (by simp [Addr.add]); rwa [e] at hx0
    clear hx0
    have hd1 : decide ((l0.length : Int) < 1) = false := decide_eq_false (by omega)
    go_enter Try.func283, Try.ntmps283
    go_wp2
    go_loopw [3, 4] (fun m v wr => ∃ k : Nat, 0 < k ∧ k ≤ l0.length ∧ v = .int .i64 k ∧ m = .int .i64 (slices_Min_int_int.least (l0.take k)) ∧ w = wr) (fun _ v _ => l0.length - (intOf v).toNat)
    case atStart => exact ⟨1, Nat.one_pos, by omega, rfl, by rw [slices_Min_int_int.one _ (by omega)], rfl⟩
    case round =>
      obtain ⟨k, hk0, hk, rfl, rfl, rfl⟩ := hrel
      by_cases hlt : k < l0.length
      · obtain ⟨ad', he, hx⟩ := Kd.at_int hr0 (k : Int) (by omega) (by omega)
        obtain rfl := Option.some.inj he
        have hx' : w.cell? (ad.add k) = some (.int .i64 (rd l0 k)) := hx
        clear hx
        have hst := slices_Min_int_int.step l0 k hk0 hlt
        go_wp2
        refine ⟨⟨k + 1, by omega, by omega, by go_num, by rw [hst]; congr 1; split <;> omega, trivial⟩, by simp [intOf]; omega⟩
      · go_wp2
        go_ret
        rw [List.take_of_length_le (by omega)]
        exact ⟨rfl, Drawn0.refl _⟩

/-! ### impl_EndsIn: function 118 -/
def impl_EndsIn.f (k : Nat) (a0 : Int) (a1 : Int) (a2 : Int) : Option (Int × Bool) := (impl_isCycled.f a0 a1 a2).bind fun t227 => (if t227 = true then ((impl_powerRun.f k a0 a1 a2).bind fun bt228 => (if 0 ≤ bt228.2 then (if bt228.2 ≤ (bt228.1.length : Int) then ((slices_Min_int_int.f (bt228.1.drop (bt228.2 : Int).toNat)).bind fun t236 => (some (t236, true))) else (none)) else (none))) else (some (0, false)))
theorem impl_EndsIn.mono : ∀ a0 a1 a2 k, LeO (impl_EndsIn.f k a0 a1 a2) (impl_EndsIn.f (k + 1) a0 a1 a2) := by
  intro a0 a1 a2 k
  unfold impl_EndsIn.f
  repeat' first
      | (with_reducible exact impl_powerRun.mono _ _ _ _)
      | (with_reducible exact LeO.refl _)
      | (with_reducible exact LeO.none _)
      | (with_reducible refine LeO.ite ?_ ?_)
      | (with_reducible refine LeO.bind ?_ (fun _ => ?_))
      | exact impl_powerRun.mono _ _ _ _
      | exact LeO.none _
      | refine LeO.ite ?_ ?_
      | refine LeO.bind ?_ (fun _ => ?_)
set_option maxHeartbeats 8000000 in
set_option maxRecDepth 100000 in
theorem impl_EndsIn.calls (k : Nat) (a0 : Int) (a1 : Int) (a2 : Int) (r1 : Int) (r2 : Bool) (w : World) (h : impl_EndsIn.f k a0 a1 a2 = some (r1, r2)) :
    Calls Try.prog 118 #[.int .i64 a0, .int .i64 a1, .int .i64 a2] w fun e w' => e = .returned (.tuple #[.int .i64 r1, .bool r2]) ∧ Below w.heap.size w w' := by
  have HB := Aside0.mk (Below.refl w.heap.size w)
  have H : ((impl_isCycled.f a0 a1 a2).bind fun t227 => (if t227 = true then ((impl_powerRun.f k a0 a1 a2).bind fun bt228 => (if 0 ≤ bt228.2 then (if bt228.2 ≤ (bt228.1.length : Int) then ((slices_Min_int_int.f (bt228.1.drop (bt228.2 : Int).toNat)).bind fun t236 => (some (t236, true))) else (none)) else (none))) else (some (0, false)))) = some (r1, r2) := h
  clear h
  replace H := Option.bind_eq_some_iff.mp H
  obtain ⟨t227, A40, H⟩ := H
  replace H : (if t227 = true then ((impl_powerRun.f k a0 a1 a2).bind fun bt228 => (if 0 ≤ bt228.2 then (if bt228.2 ≤ (bt228.1.length : Int) then ((slices_Min_int_int.f (bt228.1.drop (bt228.2 : Int).toNat)).bind fun t236 => (some (t236, true))) else (none)) else (none))) else (some (0, false))) = some (r1, r2) := H
  have A4 := Aside0.mk A40
  clear A40
  by_cases c5 : t227 = true
  · subst c5
    have H1 : ((impl_powerRun.f k a0 a1 a2).bind fun bt228 => (if 0 ≤ bt228.2 then (if bt228.2 ≤ (bt228.1.length : Int) then ((slices_Min_int_int.f (bt228.1.drop (bt228.2 : Int).toNat)).bind fun t236 => (some (t236, true))) else (none)) else (none))) = some (r1, r2) := by rw [if_pos rfl] at H; exact H
    clear H
    have H := H1
    clear H1
    replace H := Option.bind_eq_some_iff.mp H
    obtain ⟨⟨t228, t229⟩, A60, H⟩ := H
    replace H : (if 0 ≤ t229 then (if t229 ≤ (t228.length : Int) then ((slices_Min_int_int.f (t228.drop (t229 : Int).toNat)).bind fun t236 => (some (t236, true))) else (none)) else (none)) = some (r1, r2) := H
    have A6 := Aside0.mk A60
    clear A60
    by_cases c7 : 0 ≤ t229
    · rw [if_pos c7] at H
      have c7b0 := eq_true c7
      have c7b1 : decide (0 ≤ t229) = true := decide_eq_true c7
      clear c7
      by_cases c8 : t229 ≤ (t228.length : Int)
      · rw [if_pos c8] at H
        have c8b0 := eq_true c8
        have c8b1 : decide (t229 ≤ (t228.length : Int)) = true := decide_eq_true c8
        clear c8
        obtain ⟨y232, hy232⟩ : ∃ y_ : List Int, y_ = (t228.drop (t229 : Int).toNat) := ⟨_, rfl⟩
        replace H : ((slices_Min_int_int.f y232).bind fun t236 => (some (t236, true))) = some (r1, r2) := by first | (rw [hy232]; with_reducible exact H) | (have H2_ := (Option.bind_some _ _).symm.trans H; rw [hy232]; with_reducible exact H2_) | (have H2_ := (Option.bind_some _ _).symm.trans H; with_reducible exact H2_) | with_reducible exact H | (rw [hy232]; exact H) | exact H
        have Ny232 := Aside0.mk hy232
        clear hy232
        replace H := Option.bind_eq_some_iff.mp H
        obtain ⟨t236, A90, H⟩ := H
        replace H : (some (t236, true)) = some (r1, r2) := H
        have A9 := Aside0.mk A90
        clear A90
        simp only [Option.some.injEq, Prod.mk.injEq] at H
        obtain ⟨rfl, rfl⟩ := H
        go_enter Try.func118, Try.ntmps118
        go_wp2_with (first | ((with_reducible refine gate_callee (f := 279) rfl ?_); refine goesL_ (some 13) rfl rfl Try.func279 (by kernel_rfl) rfl #[.int .i64 a0, .int .i64 a1, .int .i64 a2] rfl (by (try simp only [List.map_toArray, List.map_cons, List.map_nil]); first | done | rfl | (simp only [List.length_drop, List.length_take]; rfl)) ?_; (with_reducible refine (impl_isCycled.calls a0 a1 a2 true _ A4.out).mono ?_); rintro e w' ⟨rfl, ⟨nd, rfl⟩⟩; refine ⟨_, rfl, ?_⟩) | ((with_reducible refine gate_callee (f := 280) rfl ?_); refine goesL_ (some 19) rfl rfl Try.func280 (by kernel_rfl) rfl #[.int .i64 a0, .int .i64 a1, .int .i64 a2] rfl (by (try simp only [List.map_toArray, List.map_cons, List.map_nil]); first | done | rfl | (simp only [List.length_drop, List.length_take]; rfl)) ?_; (with_reducible refine (impl_powerRun.calls k a0 a1 a2 t228 t229 _ A6.out).mono ?_); rintro e w10 ⟨v230, rfl, ho0, hb⟩; refine ⟨_, rfl, ?_⟩; have n0_ := Aside0.mk (Kd.R_lower ho0 (below_size (by repeat (first | (with_reducible first | exact HB.out | apply below_alloc | apply pw_below_drewN | apply below_drew1) | exact HB.out)))); have n1_ := Aside0.mk (below_step (by repeat (first | (with_reducible first | exact HB.out | apply below_alloc | apply pw_below_drewN | apply below_drew1) | exact HB.out)) hb); clear HB; have HO231 := n0_; have HB := n1_; clear n0_ n1_; (try clear hb); (try clear hb2); (try clear hk); (try clear hi); (try clear ho0); obtain ⟨Ao12, co12, eo12⟩ := Kd.R_slice HO231.out; subst eo12; have q11 : (t229 : Int) ≤ ((t228.length : Int) : Int) := of_decide_eq_true (by first | (with_reducible assumption) | assumption); obtain ⟨i011, hi011, _, hsz11, _⟩ := info_parts info3; have hroom11 : t228.length ≤ co12 := (Kd.R_reads' HO231.out).2.1; have hC11 : Kd.C (Kd.int .i64) _ Ao12 t228.length t228 := (Kd.R_reads' HO231.out).2.2; have q011 : (0 : Int) ≤ (t229 : Int) := of_decide_eq_true (by first | (with_reducible assumption) | assumption); have hcut11 := cut_from (P := Try.prog) 29 3 .i64 Try.underlying29 hi011 1 hsz11 Ao12 t228.length co12 t229 q011 q11; have hr11 := Kd.C_drop (m := (t229 : Int).toNat) (c := co12) hC11 (by omega) hroom11; obtain ⟨A11, hA11⟩ : ∃ A1, A1 = (if co12 = (t229 : Int).toNat then Ao12 else (Ao12 : Option Addr).map (·.add ((t229 : Int).toNat * 1))) := ⟨_, rfl⟩; obtain ⟨c11, hc11⟩ : ∃ c1, c1 = co12 - (t229 : Int).toNat := ⟨_, rfl⟩; have hy11 : y232.length = t228.length - (t229 : Int).toNat := (by rw [Ny232.out, List.length_drop] <;> omega); rw [show (t228).drop (t229 : Int).toNat = y232 from Ny232.out.symm] at hr11; replace hr11 : Kd.C (Kd.int .i64) _ A11 y232.length y232 := (by rw [hA11]; exact hr11); rw [← hy11, ← hA11, ← hc11] at hcut11; have HR235 := Aside0.mk hr11; have HC235 := Aside0.mk (show y232.length ≤ c11 from by rw [hy11, hc11]; exact Nat.sub_le_sub_right hroom11 _); clear hr11 hC11 hroom11 hi011 hsz11 hc11; have KY11 := Aside0.mk hy11; have KA11 := Aside0.mk hA11; clear hy11 hA11; have KL11 := Aside0.mk (show (t229 : Int).toNat ≤ t228.length from by omega); replace q11 := eq_true q11) | ((with_reducible refine gate_callee (f := 283) rfl ?_); refine goesL_ (some 25) rfl rfl Try.func283 (by kernel_rfl) rfl #[.slice A11 y232.length c11] rfl (by (try simp only [List.map_toArray, List.map_cons, List.map_nil]); first | done | rfl | (simp only [List.length_drop, List.length_take]; rfl)) ?_; (with_reducible refine (slices_Min_int_int.calls _ _ y232 t236 _ ?side1 ?side2 A9.out).mono ?_); (case side1 => repeat (first | exact (by repeat (first | (with_reducible exact HR235.out) | (with_reducible refine Kd.C_alloc ?_ _) | (with_reducible refine Kd.C_drewN ?_ _) | (with_reducible refine Kd.C_drew ?_) | exact HR235.out)) | (with_reducible refine Kd.C_alloc ?_ _) | (with_reducible refine Kd.C_drewN ?_ _) | (with_reducible refine Kd.C_drew ?_))); (case side2 => exact HC235.out); rintro e w' ⟨rfl, ⟨nd, rfl⟩⟩; refine ⟨_, rfl, ?_⟩))
        go_ret2
        exact ⟨by first | rfl | (simp [errW_none, errW_some] <;> rfl) | (simp [*, errW_none, errW_some] <;> rfl), by repeat (first | (with_reducible first | exact HB.out | apply below_alloc | apply pw_below_drewN | apply below_drew1) | exact HB.out)⟩
      · rw [if_neg c8] at H
        exact absurd H (by simp)
    · rw [if_neg c7] at H
      exact absurd H (by simp)
  · replace c5 := Bool.eq_false_iff.mpr c5
    subst c5
    have H1 : (some (0, false)) = some (r1, r2) := by rw [if_neg (show ¬ (false = true) by decide)] at H; exact H
    clear H
    have H := H1
    clear H1
    simp only [Option.some.injEq, Prod.mk.injEq] at H
    obtain ⟨rfl, rfl⟩ := H
    go_enter Try.func118, Try.ntmps118
    go_wp2_with (first | ((with_reducible refine gate_callee (f := 279) rfl ?_); refine goesL_ (some 13) rfl rfl Try.func279 (by kernel_rfl) rfl #[.int .i64 a0, .int .i64 a1, .int .i64 a2] rfl (by (try simp only [List.map_toArray, List.map_cons, List.map_nil]); first | done | rfl | (simp only [List.length_drop, List.length_take]; rfl)) ?_; (with_reducible refine (impl_isCycled.calls a0 a1 a2 false _ A4.out).mono ?_); rintro e w' ⟨rfl, ⟨nd, rfl⟩⟩; refine ⟨_, rfl, ?_⟩))
    go_ret2
    exact ⟨by first | rfl | (simp [errW_none, errW_some] <;> rfl) | (simp [*, errW_none, errW_some] <;> rfl), by repeat (first | (with_reducible first | exact HB.out | apply below_alloc | apply pw_below_drewN | apply below_drew1) | exact HB.out)⟩

/-! ### spec_l1Own: function 222 -/
def spec_l1Own.f (l0 : List Int) : Option (List Int) := (some (([] : List Int) : List Int)).bind fun y237 => (if y237.length + l0.length < 17592186044416 then (some (y237 ++ l0)) else (none))
set_option maxHeartbeats 8000000 in
set_option maxRecDepth 100000 in
theorem spec_l1Own.calls (A0 : Option Addr) (c0 : Nat) (l0 : List Int) (r : List Int) (w : World) (hr0 : Kd.C (Kd.int .i64) w A0 l0.length l0) (hc0 : l0.length ≤ c0) (h : spec_l1Own.f l0 = some r) :
    Calls Try.prog 222 #[.slice A0 l0.length c0] w fun e w' => ∃ v0_ : Value, e = .returned (v0_) ∧ Kd.R (Kd.int .i64) 3 w' w.heap.size (fun _ => True) v0_ r ∧ Below w.heap.size w w' := by
  have HR0 := Aside0.mk hr0
  have HC0 := Aside0.mk hc0
  clear hr0 hc0
  have HB := Aside0.mk (Below.refl w.heap.size w)
  have H : ((some (([] : List Int) : List Int)).bind fun y237 => (if y237.length + l0.length < 17592186044416 then (some (y237 ++ l0)) else (none))) = some r := h
  clear h
  obtain ⟨y237, hy237⟩ : ∃ y_ : List Int, y_ = (([] : List Int)) := ⟨_, rfl⟩
  replace H : (if y237.length + l0.length < 17592186044416 then (some (y237 ++ l0)) else (none)) = some r := by first | (rw [hy237]; with_reducible exact H) | (have H2_ := (Option.bind_some _ _).symm.trans H; rw [hy237]; with_reducible exact H2_) | (have H2_ := (Option.bind_some _ _).symm.trans H; with_reducible exact H2_) | with_reducible exact H | (rw [hy237]; exact H) | exact H
  have Ny237 := Aside0.mk hy237
  clear hy237
  by_cases c2 : y237.length + l0.length < 17592186044416
  · rw [if_pos c2] at H
    have LMc2 := Aside0.mk c2
    clear c2
    obtain ⟨y240, hy240⟩ : ∃ y_ : List Int, y_ = (y237 ++ l0) := ⟨_, rfl⟩
    replace H : (some y240) = some r := by first | (rw [hy240]; with_reducible exact H) | (have H2_ := (Option.bind_some _ _).symm.trans H; rw [hy240]; with_reducible exact H2_) | (have H2_ := (Option.bind_some _ _).symm.trans H; with_reducible exact H2_) | with_reducible exact H | (rw [hy240]; exact H) | exact H
    have Ny240 := Aside0.mk hy240
    clear hy240
    obtain rfl := Option.some.inj H
    go_enter Try.func222, Try.ntmps222
    go_wp2_with (first | ((with_reducible refine gate_dst (N := 3) rfl ?_); refine Kd.R_lit (Kd.int .i64) _ 3 ?hg (N := 3) ?hd (xs := ([] : List Int)) (inner := []) (ok := fun _ => True) (okp := fun _ => True) ?hr ?hp (fun _ hk => hk) trivial (Below.refl _ _) (Nat.le_refl _) (by simp) ?_; (case hd => rfl); (case hg => rfl); (case hr => first | (go_simp; done) | (go_simp; rfl)); (case hp => exact (Reps.none _ _)); intro v238 w3 ho4 hb hg_ hnew_; clear hg_ hnew_; (first | rw [← Ny237.out] at ho4 | (simp only [Int.reduceToNat] at ho4; rw [← Ny237.out] at ho4)); have n0_ := Aside0.mk (Kd.R_lower ho4 (below_size (by repeat (first | (with_reducible first | exact HB.out | apply below_alloc | apply pw_below_drewN | apply below_drew1) | exact HB.out)))); have n1_ := Aside0.mk (below_step (by repeat (first | (with_reducible first | exact HB.out | apply below_alloc | apply pw_below_drewN | apply below_drew1) | exact HB.out)) hb); clear HB; have HO239 := n0_; have HB := n1_; clear n0_ n1_; clear hb ho4) | ((with_reducible refine gate_builtin (b := .append) (xs := #[.tmp 3, .tmp 4]) rfl ?_); at_builtin; refine Kd.R_append_rows (Kd.int .i64) (w0 := w) w.heap.size rfl (.tmp 3) (.tmp 4) 29 3 (.int .i64 0) 8 rfl Try.underlying29 info3 rfl (by decide) (by omega) v238 y237 l0 _ _ _ (fun _ => True) (fun _ => False) rfl rfl ?aO ?aR (fun _ _ h => h) (fun _ h => h.elim) ?aF ?aB ?aS ?aL ?_; (case aR => repeat (first | exact (Kd.C_below HR0.out HB.out) | (with_reducible refine Kd.C_alloc ?_ _) | (with_reducible refine Kd.C_drewN ?_ _) | (with_reducible refine Kd.C_drew ?_))); (case aB => exact (by repeat (first | (with_reducible first | exact HB.out | apply below_alloc | apply pw_below_drewN | apply below_drew1) | exact HB.out))); (case aF => exact (fun _ _ => trivial)); (case aO => exact (by (with_reducible repeat (first | apply Kd.R_alloc | apply Kd.R_drewN | apply Kd.R_drew)); exact HO239.out)); (case aS => exact (below_size (by repeat (first | (with_reducible first | exact HB.out | apply below_alloc | apply pw_below_drewN | apply below_drew1) | exact HB.out)))); (case aL => have := LMc2.out; omega); intro v241 w5 ho hb hg hat; rw [← Ny240.out] at ho; have n0_ := Aside0.mk (hb); have n1_ := Aside0.mk (ho); clear HB; clear HO239; have HB := n0_; have HO242 := n1_; clear n0_ n1_; clear ho hb hg hat))
    go_ret
    exact ⟨_, by first | rfl | (simp [errW_none, errW_some] <;> rfl) | (simp [*, errW_none, errW_some] <;> rfl), by (with_reducible repeat (first | apply Kd.R_alloc | apply Kd.R_drewN | apply Kd.R_drew)); exact HO242.out, by repeat (first | (with_reducible first | exact HB.out | apply below_alloc | apply pw_below_drewN | apply below_drew1) | exact HB.out)⟩
  · rw [if_neg c2] at H
    exact absurd H (by simp)

end Go.Proofs.Ytiheocddlopfcaa.PFnPowerRunsEnd
