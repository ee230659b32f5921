/- For all numbers, SelfTelling of the program and of the reference agree, and what the program returns is memory of its own. -/
import Derived.Test.YtiedpgebceeplaaPFnExactSelfTellingx5
import Derived.Test.YtiedpgebceeplaaWMore
set_option linter.unusedVariables false
set_option linter.unusedSimpArgs false
namespace Go.Proofs.Ytiedpgebceeplaa.Pure
open Go.RowKit Go.Proofs.Ytiedpgebceeplaa.PFnExactSelfTelling Go.Proofs.YtiedpgebceeplaaW.PrintWords Go.Proofs.YtiedpgebceeplaaW.PrintLast

theorem w64 {x : Int} (h1 : -9223372036854775808 ≤ x) (h2 : x ≤ 9223372036854775807) : wrap64 x = x := by unfold wrap64; omega

theorem evp {α : Type} {c : Prop} [Decidable c] {a b : Nat → Option α} {r : α} (h : c) (k : Ev a r) : Ev (fun n => if c then a n else b n) r := Ev.congr (fun _ => if_pos h) k
theorem evn {α : Type} {c : Prop} [Decidable c] {a b : Nat → Option α} {r : α} (h : ¬ c) (k : Ev b r) : Ev (fun n => if c then a n else b n) r := Ev.congr (fun _ => if_neg h) k
theorem evr {α : Type} {x r : α} (h : x = r) : Ev (fun _ => some x) r := h ▸ Ev.now x
theorem evb {α β : Type} {g : Nat → Option α} {f : Nat → α → Option β} {a : α} {r : β} (h : Ev g a) (k : Ev (fun n => f n a) r) : Ev (fun n => (g n).bind fun x => f n x) r := Ev.bind h k
theorem evc {α β : Type} {x : Option α} {a : α} {f : Nat → α → Option β} {r : β} (h : x = some a) (k : Ev (fun n => f n a) r) : Ev (fun n => x.bind fun y => f n y) r := by subst h; exact k
theorem evs {α : Type} {g f : Nat → Option α} {r : α} (h : ∀ k, g (k + 1) = f k) (k : Ev f r) : Ev g r := Ev.step h k
theorem rd_mid (pre post : List Int) (x : Int) : rd (pre ++ x :: post) (pre.length : Int) = x := by simp [rd]
theorem set_midI {α : Type} (pre post : List α) (x y : α) (i : Int) (h : i = pre.length) : (pre ++ x :: post).set i.toNat y = pre ++ y :: post := by subst h; simp
def iota (m : Int) : Nat → List Int
  | 0 => []
  | n + 1 => m :: iota (m + 1) n
def ic (l : List Nat) : List Int := l.map (fun x : Nat => (x : Int))
theorem ic_nil : ic [] = [] := rfl
theorem ic_cons (x : Nat) (l : List Nat) : ic (x :: l) = (x : Int) :: ic l := rfl
theorem ic_append (l m : List Nat) : ic (l ++ m) = ic l ++ ic m := by simp [ic]
theorem ic_length (l : List Nat) : (ic l).length = l.length := by simp [ic]
theorem ic_rd (pre post : List Nat) (x : Nat) : rd (ic (pre ++ x :: post)) (pre.length : Int) = (x : Int) := by
  rw [ic_append, ic_cons, show ((pre.length : Nat) : Int) = (((ic pre).length : Nat) : Int) by simp [ic], rd_mid]

def lsum : List Nat → Nat
  | [] => 0
  | d :: l => d + lsum l
def tcStep (n : Nat) (acc : List Int) (d : Int) : List Int := if 0 ≤ d ∧ d ≤ (n : Int) - 1 then acc.set d.toNat (wrap64 (rd acc d + 1)) else acc
def tellC (l : List Int) : List Int := l.foldl (tcStep l.length) (List.replicate l.length 0)
theorem tcStep_length (n : Nat) (acc : List Int) (d : Int) : (tcStep n acc d).length = acc.length := by unfold tcStep; split <;> simp
theorem tcFold_length (n : Nat) (l : List Int) : ∀ acc : List Int, (l.foldl (tcStep n) acc).length = acc.length := by
  induction l with
  | nil => intro acc; rfl
  | cons x l ih => intro acc; simp only [List.foldl_cons]; rw [ih, tcStep_length]
theorem tellC_length (l : List Int) : (tellC l).length = l.length := by simp [tellC, tcFold_length]

theorem impl_in_eq (a b c : Int) : impl_in.f a b c = some (decide (b ≤ a ∧ a ≤ c)) := by
  unfold impl_in.f
  by_cases h : b ≤ a <;> simp [h]
theorem spec_l1In_eq (a b c : Int) : spec_l1In.f a b c = some (decide (b ≤ a ∧ a ≤ c)) := by
  unfold spec_l1In.f
  by_cases h : b ≤ a <;> simp [h]

theorem teCounts_loop (whole : List Int) (post : List Int) : ∀ (pre acc : List Int), whole = pre ++ post → acc.length = whole.length → whole.length ≤ 4611686018427387904 →
    Ev (fun k => spec_teCounts.l0 k whole acc whole (whole.length : Int) (pre.length : Int)) (post.foldl (tcStep whole.length) acc) := by
  induction post with
  | nil =>
    intro pre acc hw ha h
    refine evs (fun k => by rw [spec_teCounts.l0]) ?_
    exact evn (by simp [hw]) (Ev.now _)
  | cons x post ih =>
    intro pre acc hw ha h
    have hl : whole.length = pre.length + (post.length + 1) := by simp [hw]
    refine evs (fun k => by rw [spec_teCounts.l0]) ?_
    have hx : rd whole (pre.length : Int) = x := by rw [hw, rd_mid]
    rw [hx, w64 (x := (whole.length : Int) - 1) (by omega) (by omega), w64 (x := (pre.length : Int) + 1) (by omega) (by omega)]
    simp only [spec_l1In_eq, Option.bind_some, decide_eq_true_eq]
    refine evp (by omega) (evp (by omega) (evp (by omega) ?_))
    have h2 := ih (pre ++ [x]) (tcStep whole.length acc x) (by simp [hw]) (by rw [tcStep_length, ha]) h
    simp only [List.length_append, List.length_singleton] at h2
    by_cases hd : 0 ≤ x ∧ x ≤ (whole.length : Int) - 1
    · refine evp hd (evp hd.1 (evp (by omega) ?_))
      simpa [tcStep, hd] using h2
    · refine evn hd ?_
      simpa [tcStep, hd] using h2
theorem teCounts_ev (l : List Int) (h : l.length ≤ 35184372088832) : Ev (fun k => spec_teCounts.f k l) (tellC l) := by
  unfold spec_teCounts.f
  refine evp (by omega) (evp (by omega) ?_)
  simpa [tellC] using teCounts_loop l l [] (List.replicate l.length 0) rfl (by simp) (by omega)
theorem tellCounts_same : ∀ (k : Nat) (a b c : List Int) (d e : Int), impl_tellCounts.l0 k a b c d e = spec_teCounts.l0 k a b c d e
  | 0, _, _, _, _, _ => rfl
  | k + 1, a, b, c, d, e => by simp only [impl_tellCounts.l0, spec_teCounts.l0, impl_in_eq, spec_l1In_eq, tellCounts_same k]
theorem tellCounts_ev (l : List Int) (h : l.length ≤ 35184372088832) : Ev (fun k => impl_tellCounts.f k l) (tellC l) := by
  have h2 := teCounts_ev l h
  unfold spec_teCounts.f at h2
  unfold impl_tellCounts.f
  simpa only [tellCounts_same] using h2

theorem l1Own_ev (l : List Int) (h : l.length ≤ 1000000) : spec_l1Own.f l = some l := by
  unfold spec_l1Own.f
  simp only [Option.bind_some, List.nil_append, List.length_nil]
  rw [if_pos (by omega)]
theorem clone_ev (l : List Int) (h : l.length ≤ 1000000) : slices_Clone_int_int.f l = some l := by
  unfold slices_Clone_int_int.f
  rw [if_pos (by omega)]

theorem spec_l1Same_loop (post : List Int) : ∀ (pre post' : List Int), post'.length = post.length → (pre ++ post).length ≤ 4611686018427387904 →
    Ev (fun k => spec_l1Same.l0 k (pre ++ post) (pre ++ post') ((pre ++ post).length : Int) (pre.length : Int)) (decide (post = post')) := by
  induction post with
  | nil =>
    intro pre post' hl h
    obtain rfl : post' = [] := List.eq_nil_of_length_eq_zero hl
    refine evs (fun k => by rw [spec_l1Same.l0]) ?_
    exact evn (by simp) (evr (by simp))
  | cons x post ih =>
    intro pre post' hl h
    obtain ⟨y, post', rfl⟩ : ∃ y z, post' = y :: z := by cases post' with
      | nil => simp at hl
      | cons y z => exact ⟨y, z, rfl⟩
    refine evs (fun k => by rw [spec_l1Same.l0]) ?_
    refine evp (by simp; omega) (evp (by omega) (evp (by simp; omega) (evp (by simp; omega) ?_)))
    rw [rd_mid, rd_mid]
    by_cases he : x = y
    · subst he
      refine evp rfl ?_
      have h2 := ih (pre ++ [x]) post' (by simpa using hl) (by simpa using h)
      simp only [List.append_assoc, List.singleton_append] at h2
      rw [w64 (by omega) (by simp at h; omega)]
      simpa using h2
    · exact evn he (evr (by simp [he]))
theorem spec_l1Same_ev (l l' : List Int) (h : l.length ≤ 4611686018427387904) : Ev (fun k => spec_l1Same.f k l l') (decide (l = l')) := by
  unfold spec_l1Same.f
  by_cases hl : l.length = l'.length
  · exact evp (by omega) (by simpa using spec_l1Same_loop l [] l' hl.symm (by simpa using h))
  · exact evn (by omega) (evr (by symm; rw [decide_eq_false_iff_not]; exact fun e => hl (by rw [e])))
theorem slices_Equal_int_int_loop (post : List Int) : ∀ (pre post' : List Int), post'.length = post.length → (pre ++ post).length ≤ 4611686018427387904 →
    Ev (fun k => slices_Equal_int_int.l0 k (pre ++ post) (pre ++ post') ((pre ++ post).length : Int) (pre.length : Int)) (decide (post = post')) := by
  induction post with
  | nil =>
    intro pre post' hl h
    obtain rfl : post' = [] := List.eq_nil_of_length_eq_zero hl
    refine evs (fun k => by rw [slices_Equal_int_int.l0]) ?_
    exact evn (by simp) (evr (by simp))
  | cons x post ih =>
    intro pre post' hl h
    obtain ⟨y, post', rfl⟩ : ∃ y z, post' = y :: z := by cases post' with
      | nil => simp at hl
      | cons y z => exact ⟨y, z, rfl⟩
    refine evs (fun k => by rw [slices_Equal_int_int.l0]) ?_
    refine evp (by simp; omega) (evp (by omega) (evp (by simp; omega) (evp (by simp; omega) ?_)))
    rw [rd_mid, rd_mid]
    by_cases he : x = y
    · subst he
      refine evp rfl ?_
      have h2 := ih (pre ++ [x]) post' (by simpa using hl) (by simpa using h)
      simp only [List.append_assoc, List.singleton_append] at h2
      rw [w64 (by omega) (by simp at h; omega)]
      simpa using h2
    · exact evn he (evr (by simp [he]))
theorem slices_Equal_int_int_ev (l l' : List Int) (h : l.length ≤ 4611686018427387904) : Ev (fun k => slices_Equal_int_int.f k l l') (decide (l = l')) := by
  unfold slices_Equal_int_int.f
  by_cases hl : l.length = l'.length
  · exact evp (by omega) (by simpa using slices_Equal_int_int_loop l [] l' hl.symm (by simpa using h))
  · exact evn (by omega) (evr (by symm; rw [decide_eq_false_iff_not]; exact fun e => hl (by rw [e])))
theorem spec_dgSum_loop (post : List Nat) : ∀ (pre : List Nat) (a : Nat), (pre ++ post).length ≤ 1000000000000 → a + lsum post ≤ 1000000000000000000 →
    Ev (fun k => spec_dgSum.l0 k (a : Int) (ic (pre ++ post)) ((pre ++ post).length : Int) (pre.length : Int)) ((a + lsum post : Nat) : Int) := by
  induction post with
  | nil =>
    intro pre a h1 h2
    refine evs (fun k => by rw [spec_dgSum.l0]) ?_
    exact evn (by simp) (evr (by simp [lsum]))
  | cons d post ih =>
    intro pre a h1 h2
    simp only [lsum] at h2
    have hl : (pre ++ d :: post).length = pre.length + (post.length + 1) := by simp
    have h3 := ih (pre ++ [d]) (a + d) (by simp at h1 ⊢; omega) (by omega)
    rw [List.append_assoc, List.singleton_append] at h3
    refine evs (fun k => by rw [spec_dgSum.l0]) ?_
    rw [ic_rd, ic_length, hl, w64 (x := (a : Int) + (d : Int)) (by omega) (by omega), w64 (x := (pre.length : Int) + 1) (by omega) (by omega)]
    refine evp (by omega) (evp (by omega) (evp (by omega) ?_))
    rw [hl] at h3
    have e1 : (((pre ++ [d]).length : Nat) : Int) = (pre.length : Int) + 1 := by simp
    have e2 : ((a + d : Nat) : Int) = (a : Int) + (d : Int) := by omega
    rw [e1, e2] at h3
    have e3 : a + lsum (d :: post) = a + d + lsum post := by simp only [lsum]; omega
    rw [e3]
    exact h3
theorem spec_dgSum_all (l : List Nat) (h1 : l.length ≤ 1000000000000) (h2 : lsum l ≤ 1000000000000000000) : Ev (fun k => spec_dgSum.l0 k 0 (ic l) ((ic l).length : Int) 0) ((lsum l : Nat) : Int) := by
  have h := spec_dgSum_loop l [] 0 (by simpa using h1) (by omega)
  rw [ic_length]
  simpa using h

/-! Lists that tell themselves. -/
def stepN (n : Nat) (acc : List Nat) (d : Nat) : List Nat := if d < n then acc.set d (acc.getD d 0 + 1) else acc
def tn (l : List Nat) : List Nat := l.foldl (stepN l.length) (List.replicate l.length 0)
theorem stepN_length (n : Nat) (acc : List Nat) (d : Nat) : (stepN n acc d).length = acc.length := by unfold stepN; split <;> simp
theorem st_lsum_set (l : List Nat) : ∀ (d : Nat), d < l.length → lsum (l.set d (l.getD d 0 + 1)) = lsum l + 1 := by
  induction l with
  | nil => intro d h; simp at h
  | cons x l ih =>
    intro d h
    cases d with
    | zero => simp [lsum]; omega
    | succ d =>
      have := ih d (by simpa using h)
      simp only [List.set_cons_succ, List.getD_cons_succ, lsum, this]
      omega
theorem st_lsum_append (l m : List Nat) : lsum (l ++ m) = lsum l + lsum m := by
  induction l with
  | nil => simp [lsum]
  | cons x l ih => simp only [List.cons_append, lsum, ih]; omega
theorem st_lsum_rep (n : Nat) : lsum (List.replicate n 0) = 0 := by
  induction n with
  | zero => rfl
  | succ n ih => simp [List.replicate_succ, lsum, ih]
theorem stepN_sum (n : Nat) (post : List Nat) : ∀ acc : List Nat, acc.length = n → lsum (post.foldl (stepN n) acc) = lsum acc + post.countP (fun x => decide (x < n)) := by
  induction post with
  | nil => intro acc _; simp
  | cons d post ih =>
    intro acc ha
    rw [List.foldl_cons, ih _ (by rw [stepN_length, ha]), List.countP_cons]
    by_cases h : d < n
    · have e : stepN n acc d = acc.set d (acc.getD d 0 + 1) := by rw [stepN, if_pos h]
      rw [e, st_lsum_set acc d (by omega)]
      simp only [h, decide_true, if_true]
      omega
    · simp [stepN, h]
theorem tn_sum (l : List Nat) : lsum (tn l) = l.countP (fun x => decide (x < l.length)) := by
  unfold tn
  rw [stepN_sum _ _ _ (by simp), st_lsum_rep]
  omega
theorem st_lsum_get_le (l : List Nat) : ∀ d, l.getD d 0 ≤ lsum l := by
  induction l with
  | nil => intro d; simp
  | cons x l ih =>
    intro d
    cases d with
    | zero => simp [lsum]
    | succ d => have := ih d; simp only [List.getD_cons_succ, lsum]; omega
theorem tc_fold (n : Nat) (post : List Nat) : ∀ acc : List Nat, acc.length = n → lsum acc + post.length ≤ 1000000000000 → (ic post).foldl (tcStep n) (ic acc) = ic (post.foldl (stepN n) acc) := by
  induction post with
  | nil => intro acc _ _; rfl
  | cons d post ih =>
    intro acc ha hs
    rw [ic_cons, List.foldl_cons, List.foldl_cons]
    have e : tcStep n (ic acc) (d : Int) = ic (stepN n acc d) := by
      unfold tcStep stepN
      by_cases h : d < n
      · have hg := st_lsum_get_le acc d
        rw [if_pos (by omega), if_pos h]
        have hr : rd (ic acc) (d : Int) = ((acc.getD d 0 : Nat) : Int) := by
          simp [rd, ic, List.getD_eq_getElem?_getD, List.getElem?_eq_getElem (show d < acc.length by omega)]
        rw [hr, w64 (by omega) (by simp only [List.length_cons] at hs; omega), Int.toNat_natCast]
        simp [ic, List.map_set]
      · rw [if_neg (by omega), if_neg h]
    rw [e]
    refine ih _ (by rw [stepN_length, ha]) ?_
    simp only [List.length_cons] at hs
    by_cases h : d < n
    · rw [stepN, if_pos h, st_lsum_set acc d (by omega)]; omega
    · rw [stepN, if_neg h]; omega
theorem tellC_ic (l : List Nat) (h : l.length ≤ 1000) : tellC (ic l) = ic (tn l) := by
  unfold tellC tn
  rw [ic_length]
  have e : List.replicate l.length (0 : Int) = ic (List.replicate l.length 0) := by simp [ic]
  rw [e]
  exact tc_fold l.length l _ (by simp) (by rw [st_lsum_rep]; omega)
theorem ic_inj : ∀ {l l' : List Nat}, ic l = ic l' → l = l'
  | [], [], _ => rfl
  | [], _ :: _, h => by simp [ic] at h
  | _ :: _, [], h => by simp [ic] at h
  | x :: l, y :: l', h => by
    rw [ic_cons, ic_cons] at h
    injection h with h1 h2
    rw [ic_inj h2, Int.ofNat.inj h1]
theorem tells_tn {l : List Nat} (h : l.length ≤ 1000) (ht : tellC (ic l) = ic l) : tn l = l := by
  rw [tellC_ic l h] at ht
  exact ic_inj ht
theorem tells_sum {l : List Nat} (h : l.length ≤ 1000) (ht : tellC (ic l) = ic l) (hl : ∀ x ∈ l, x < l.length) : lsum l = l.length := by
  have h1 := tn_sum l
  rw [tells_tn h ht] at h1
  rw [h1]
  exact List.countP_eq_length.2 (fun x hx => by simpa using hl x hx)
theorem tells_lt {l : List Nat} (h : l.length ≤ 1000) (ht : tellC (ic l) = ic l) (hs : lsum l = l.length) : ∀ x ∈ l, x < l.length := by
  have h1 := tn_sum l
  rw [tells_tn h ht, hs] at h1
  intro x hx
  have := List.countP_eq_length.1 h1.symm x hx
  simpa using this
def tls (f : Nat → List (List Int)) : Nat → Nat → List (List Int)
  | 0, _ => []
  | e + 1, d => f d ++ tls f e (d + 1)
def tl : Nat → List Nat → Nat → List (List Int)
  | 0, l, left => if left = 0 ∧ tellC (ic l) = ic l then [ic l] else []
  | m + 1, l, left => tls (fun d => tl m (l ++ [d]) (left - d)) (left + 1) 0
theorem tl_yes {l : List Nat} {left : Nat} (h0 : left = 0) (h : tellC (ic l) = ic l) : tl 0 l left = [ic l] := by rw [tl, if_pos ⟨h0, h⟩]
theorem tl_not {l : List Nat} {left : Nat} (h : ¬ (left = 0 ∧ tellC (ic l) = ic l)) : tl 0 l left = [] := by rw [tl, if_neg h]
theorem tls_length {f : Nat → List (List Int)} {q : Nat} (hf : ∀ d, (f d).length ≤ q) : ∀ e d, (tls f e d).length ≤ e * q
  | 0, _ => by simp [tls]
  | e + 1, d => by
    have h1 := hf d
    have h2 := tls_length hf e (d + 1)
    rw [tls, List.length_append, Nat.succ_mul]
    omega
theorem tl_length : ∀ (m : Nat) (l : List Nat) (left : Nat), left ≤ 10 → (tl m l left).length ≤ 11 ^ m
  | 0, l, left, _ => by
    rw [tl]
    split <;> simp
  | m + 1, l, left, h => by
    rw [tl]
    refine Nat.le_trans (tls_length (fun d => tl_length m _ _ (by omega)) _ _) ?_
    rw [Nat.pow_succ, Nat.mul_comm]
    exact Nat.mul_le_mul_left _ (by omega)
theorem tls_all {f : Nat → List (List Int)} {Q : List Int → Prop} (hf : ∀ d, ∀ x ∈ f d, Q x) : ∀ e d, ∀ x ∈ tls f e d, Q x
  | 0, _ => by simp [tls]
  | e + 1, d => by
    intro x hx
    rw [tls] at hx
    rcases List.mem_append.1 hx with hx | hx
    · exact hf d x hx
    · exact tls_all hf e (d + 1) x hx
theorem tl_all (n : Nat) : ∀ (m : Nat) (l : List Nat) (left : Nat), l.length + m = n → ∀ x ∈ tl m l left, x.length = n ∧ tellC x = x
  | 0, l, left, h => by
    intro x hx
    rw [tl] at hx
    split at hx
    · rename_i hc
      obtain rfl := List.mem_singleton.1 hx
      exact ⟨by rw [ic_length]; omega, hc.2⟩
    · simp at hx
  | m + 1, l, left, h => by
    rw [tl]
    exact tls_all (fun d => tl_all n m _ _ (by simp; omega)) _ _
theorem tl_no (n : Nat) (hn : n ≤ 1000) : ∀ (m : Nat) (l : List Nat), l.length + m = n → n ∈ l → lsum l = n → tl m l 0 = []
  | 0, l, h, hm, hs => by
    rw [tl, if_neg]
    intro hc
    have := tells_lt (by omega) hc.2 (by omega) n hm
    omega
  | m + 1, l, h, hm, hs => by
    rw [tl, tls, tls]
    have := tl_no n hn m (l ++ [0]) (by simp; omega) (by simp [hm]) (by rw [st_lsum_append]; simp [lsum, hs])
    simpa using this
theorem on_ev (n : Nat) (hn : n ≤ 10) : ∀ (m : Nat) (l : List Nat) (left : Nat) (L : List (List Int)), l.length + m = n → left ≤ 10 → L.length + 11 ^ m ≤ 999999999999 →
    Ev (fun k => impl_SelfTelling.on (n : Int) k false (ic l) (left : Int) 0 L) (L ++ tl m l left) := by
  intro m
  induction m with
  | zero =>
    intro l left L h hl hL
    have hlen : (ic l).length = n := by rw [ic_length]; omega
    refine evs (fun k => by rw [impl_SelfTelling.on]) ?_
    refine evp (by omega) ?_
    by_cases h0 : left = 0
    · subst h0
      refine evp rfl (evb (tellCounts_ev _ (by omega)) (evb (slices_Equal_int_int_ev _ _ (by rw [tellC_length]; omega)) ?_))
      by_cases h1 : tellC (ic l) = ic l
      · rw [tl_yes rfl h1]
        refine evp (by simpa using h1) (evp (by omega) (evc (clone_ev _ (by omega)) (evr rfl)))
      · rw [tl_not (fun h => h1 h.2)]
        exact evn (by simpa using h1) (evr (by simp))
    · rw [tl_not (fun h => h0 h.1)]
      exact evn (by omega) (evr (by simp))
  | succ m ih =>
    intro l left L h hl hL
    have hlen : (ic l).length = l.length := ic_length l
    obtain ⟨q, hq⟩ : ∃ q, 11 ^ m = q := ⟨_, rfl⟩
    have hq1 : 11 ^ (m + 1) = q * 11 := by rw [Nat.pow_succ, hq]
    rw [hq1] at hL
    rw [hq] at ih
    have hloop : ∀ (e d : Nat) (L : List (List Int)), d + e = left + 1 → L.length + e * q ≤ 999999999999 → Ev (fun k => impl_SelfTelling.on (n : Int) k true (ic l) (left : Int) (d : Int) L) (L ++ tls (fun d => tl m (l ++ [d]) (left - d)) e d) := by
      intro e
      induction e with
      | zero =>
        intro d L hd hL
        refine evs (fun k => by rw [impl_SelfTelling.on]) ?_
        exact evn (by omega) (evr (by simp [tls]))
      | succ e ihe =>
        intro d L hd hL
        rw [Nat.succ_mul] at hL
        have hlen2 : (tl m (l ++ [d]) (left - d)).length ≤ q := by rw [← hq]; exact tl_length m _ _ (by omega)
        have h1 := ih (l ++ [d]) (left - d) L (by simp; omega) (by omega) (by omega)
        have h2 := ihe (d + 1) (L ++ tl m (l ++ [d]) (left - d)) (by omega) (by rw [List.length_append]; omega)
        rw [ic_append, show ic [d] = [(d : Int)] from rfl, show ((left - d : Nat) : Int) = (left : Int) - (d : Int) by omega] at h1
        refine evs (fun k => by rw [impl_SelfTelling.on]) ?_
        rw [w64 (x := (left : Int) - (d : Int)) (by omega) (by omega), w64 (x := (d : Int) + 1) (by omega) (by omega)]
        refine evp (by omega) (evp (by omega) (evb h1 ?_))
        rw [tls, ← List.append_assoc]
        rw [show ((d + 1 : Nat) : Int) = (d : Int) + 1 by omega] at h2
        exact h2
    refine evs (fun k => by rw [impl_SelfTelling.on]) ?_
    refine evn (by omega) ?_
    rw [tl]
    exact hloop (left + 1) 0 L (by omega) (by
      have : (left + 1) * q ≤ q * 11 := by rw [Nat.mul_comm]; exact Nat.mul_le_mul_left _ (by omega)
      omega)
theorem self_ev (n : Nat) (hn : n ≤ 10) : ∀ (m : Nat) (l : List Nat) (left : Nat), l.length + m = n → lsum l + left = n → (∀ x ∈ l, x < n) →
    Ev (fun k => spec_teSelf.f k (ic l) (n : Int)) (tl m l left) := by
  intro m
  induction m with
  | zero =>
    intro l left h hs hx
    have hlen : (ic l).length = n := by rw [ic_length]; omega
    have hsum := spec_dgSum_all l (by omega) (by omega)
    refine evs (fun k => by rw [spec_teSelf.f]) ?_
    refine evb (show Ev (fun k => spec_dgSum.f k (ic l)) _ from hsum) (evn (by omega) (evp (by omega) (evb (teCounts_ev _ (by omega)) (evb (spec_l1Same_ev _ _ (by rw [tellC_length]; omega)) ?_))))
    by_cases h1 : tellC (ic l) = ic l
    · have h2 := tells_sum (by omega) h1 (by intro x hxl; have := hx x hxl; omega)
      rw [tl_yes (by omega) h1]
      exact evp (by simpa using h1) (evc (l1Own_ev _ (by omega)) (evr rfl))
    · rw [tl_not (fun h => h1 h.2)]
      exact evn (by simpa using h1) (evr rfl)
  | succ m ih =>
    intro l left h hs hx
    have hlen : (ic l).length = l.length := ic_length l
    have hsum := spec_dgSum_all l (by omega) (by omega)
    have hp : 11 ^ m ≤ 11 ^ 9 := Nat.pow_le_pow_right (by omega) (by omega)
    obtain ⟨q, hq0⟩ : ∃ q : Nat, q = 2357947691 := ⟨_, rfl⟩
    have hq : (11 : Nat) ^ 9 = q := by rw [hq0]
    have hloop : ∀ (e d : Nat) (X : List (List Int)), d + e = n → X.length ≤ d * q → Ev (fun k => spec_teSelf.l0 k (ic l) (n : Int) X (d : Int)) (X ++ tls (fun d => tl m (l ++ [d]) (left - d)) (left + 1 - d) d) := by
      intro e
      induction e with
      | zero =>
        intro d X hd hX
        refine evs (fun k => by rw [spec_teSelf.l0]) ?_
        refine evn (by omega) (evr ?_)
        obtain rfl : d = n := by omega
        by_cases hln : left = d
        · subst hln
          have h3 := tl_no left (by omega) m (l ++ [left]) (by simp; omega) (by simp) (by rw [st_lsum_append]; simp only [lsum]; omega)
          rw [show left + 1 - left = 1 by omega, tls, tls]
          simp only [Nat.sub_self]
          rw [h3]
          simp
        · rw [show left + 1 - d = 0 by omega, tls]
          simp
      | succ e ihe =>
        intro d X hd hX
        have hdq : d * q ≤ 10 * q := Nat.mul_le_mul_right q (by omega)
        have hX2 : X.length + q < 5864062014805 := by omega
        have hXs : X.length ≤ (d + 1) * q := by rw [Nat.succ_mul]; omega
        refine evs (fun k => by rw [spec_teSelf.l0]) ?_
        rw [w64 (x := (d : Int) + 1) (by omega) (by omega)]
        by_cases hdl : d ≤ left
        · have hlen2 : (tl m (l ++ [d]) (left - d)).length ≤ q := by
            have := tl_length m (l ++ [d]) (left - d) (by omega)
            omega
          have h1 := ih (l ++ [d]) (left - d) (by simp; omega) (by rw [st_lsum_append]; simp only [lsum]; omega) (by
            intro x hxm
            rcases List.mem_append.1 hxm with hxm | hxm
            · exact hx x hxm
            · obtain rfl := List.mem_singleton.1 hxm
              omega)
          have h2 := ihe (d + 1) (X ++ tl m (l ++ [d]) (left - d)) (by omega) (by rw [List.length_append, Nat.succ_mul]; omega)
          rw [ic_append, show ic [d] = [(d : Int)] from rfl] at h1
          rw [show ((d + 1 : Nat) : Int) = (d : Int) + 1 by omega] at h2
          refine evp (by omega) (evc (l1Own_ev _ (by omega)) (evp (by omega) (evb h1 (evp (by omega) ?_))))
          rw [show left + 1 - d = (left - d) + 1 by omega, tls, ← List.append_assoc]
          rw [show left + 1 - (d + 1) = left - d by omega] at h2
          exact h2
        · have hs2 := spec_dgSum_all (l ++ [d]) (by simp; omega) (by rw [st_lsum_append]; simp only [lsum]; omega)
          have h1 : Ev (fun k => spec_teSelf.f k (ic l ++ [(d : Int)]) (n : Int)) [] := by
            refine evs (fun k => by rw [spec_teSelf.f]) ?_
            rw [ic_append, show ic [d] = [(d : Int)] from rfl, st_lsum_append] at hs2
            refine evb (show Ev (fun k => spec_dgSum.f k (ic l ++ [(d : Int)])) _ from hs2) (evp (by simp only [lsum]; omega) (evr rfl))
          have h2 := ihe (d + 1) X (by omega) hXs
          rw [show ((d + 1 : Nat) : Int) = (d : Int) + 1 by omega, show left + 1 - (d + 1) = 0 by omega, tls] at h2
          rw [show left + 1 - d = 0 by omega, tls]
          refine evp (by omega) (evc (l1Own_ev _ (by omega)) (evp (by omega) (evb h1 (evp (by simp; omega) ?_))))
          simpa using h2
    refine evs (fun k => by rw [spec_teSelf.f]) ?_
    refine evb (show Ev (fun k => spec_dgSum.f k (ic l)) _ from hsum) (evn (by omega) (evn (by omega) ?_))
    rw [tl]
    have := hloop n 0 [] (by omega) (by simp)
    simpa using this
theorem selftelling_both (a : Int) : ∃ (R : List (List Int)) (b : Bool), R.length ≤ 25937424601 ∧ (∀ x ∈ R, x.length ≤ 10 ∧ tellC x = x) ∧ Ev (fun k => spec_SelfTelling.f k a) (R, b) ∧ Ev (fun k => impl_SelfTelling.f k a) (R, b) := by
  simp only [spec_SelfTelling.f, impl_SelfTelling.f, spec_l1In_eq, Option.bind_some, decide_eq_true_eq]
  by_cases h : 1 ≤ a ∧ a ≤ 10
  · obtain ⟨n, rfl⟩ : ∃ n : Nat, a = (n : Int) := ⟨a.toNat, by omega⟩
    have hp : 11 ^ n ≤ 11 ^ 10 := Nat.pow_le_pow_right (by omega) (by omega)
    have hq : (11 : Nat) ^ 10 = 25937424601 := by decide
    refine ⟨tl n [] n, true, Nat.le_trans (tl_length n [] n (by omega)) (by omega), fun x hx => ?_, evp h (evb (self_ev n (by omega) n [] n (by simp) (by simp [lsum]) (by simp)) (Ev.now _)), evp h.1 (evp h.2 (evb ?_ (Ev.now _)))⟩
    · have := tl_all n n [] n (by simp) x hx
      exact ⟨by omega, this.2⟩
    · have := on_ev n (by omega) n [] n [] (by simp) (by omega) (by simp; omega)
      simpa [ic_nil] using this
  · refine ⟨[], false, by simp, by simp, evn h (evr rfl), ?_⟩
    by_cases h1 : 1 ≤ a
    · exact evp h1 (evn (fun h2 => h ⟨h1, h2⟩) (evr rfl))
    · exact evn h1 (evr rfl)

theorem laws_eqIntS_loop (post : List Int) : ∀ (pre post' : List Int), post'.length = post.length → (pre ++ post).length ≤ 4611686018427387904 →
    Ev (fun k => laws_eqIntS.l0 k (pre ++ post) (pre ++ post') (pre.length : Int)) (decide (post = post')) := by
  induction post with
  | nil =>
    intro pre post' hl h
    obtain rfl : post' = [] := List.eq_nil_of_length_eq_zero hl
    refine evs (fun k => by rw [laws_eqIntS.l0]) ?_
    exact evn (by simp) (evr (by simp))
  | cons x post ih =>
    intro pre post' hl h
    obtain ⟨y, post', rfl⟩ : ∃ y z, post' = y :: z := by cases post' with
      | nil => simp at hl
      | cons y z => exact ⟨y, z, rfl⟩
    refine evs (fun k => by rw [laws_eqIntS.l0]) ?_
    refine evp (by simp; omega) (evp (by omega) (evp (by simp; omega) ?_))
    rw [rd_mid, rd_mid]
    by_cases he : x = y
    · subst he
      refine evp rfl ?_
      have h2 := ih (pre ++ [x]) post' (by simpa using hl) (by simpa using h)
      simp only [List.append_assoc, List.singleton_append, List.length_append, List.length_singleton] at h2 h
      rw [w64 (by omega) (by simp at h; omega)]
      simpa using h2
    · exact evn he (evr (by simp [he]))
theorem laws_eqIntS_ev (l l' : List Int) (h : l.length ≤ 4611686018427387904) : Ev (fun k => laws_eqIntS.f k l l') (decide (l = l')) := by
  unfold laws_eqIntS.f
  by_cases hl : l.length = l'.length
  · exact evp (by omega) (by simpa using laws_eqIntS_loop l [] l' hl.symm (by simpa using h))
  · exact evn (by omega) (evr (by symm; rw [decide_eq_false_iff_not]; exact fun e => hl (by rw [e])))
theorem laws_eqIntS_self (l : List Int) (h : l.length ≤ 4611686018427387904) : Ev (fun k => laws_eqIntS.f k l l) true := by simpa using laws_eqIntS_ev l l h

theorem markIntS_loop (post : List Int) : ∀ (pre : List Int) (m : Int), 0 ≤ m → m + post.length ≤ 4611686018427387904 → (pre ++ post).length ≤ 4611686018427387904 →
    Ev (fun k => laws_markIntS.l0 k (pre ++ post) m (pre.length : Int)) (m + post.length, pre ++ iota m post.length) := by
  induction post with
  | nil =>
    intro pre m _ _ _
    refine evs (fun k => by rw [laws_markIntS.l0]) ?_
    exact evn (by simp) (evr (by simp [iota]))
  | cons x post ih =>
    intro pre m h0 h1 h
    refine evs (fun k => by rw [laws_markIntS.l0]) ?_
    have hl : (pre.length : Int) < ((pre ++ x :: post).length : Int) := by simp; omega
    simp only [List.length_cons] at h1
    refine evp hl (evp (by omega) ?_)
    have h2 := ih (pre ++ [m]) (m + 1) (by omega) (by omega) (by simpa using h)
    simp only [List.append_assoc, List.singleton_append, List.length_append, List.length_singleton] at h2 h
    rw [w64 (x := (pre.length : Int) + 1) (by omega) (by simp at h; omega), w64 (x := m + 1) (by omega) (by omega), set_midI _ _ _ _ _ rfl]
    simp only [List.length_cons, iota]
    have e : m + ((post.length + 1 : Nat) : Int) = m + 1 + post.length := by omega
    rw [e]
    simpa using h2
theorem markIntS_ev (l : List Int) (m : Int) (h0 : 0 ≤ m) (h1 : m + l.length ≤ 4611686018427387904) : Ev (fun k => laws_markIntS.f k l m) (m + l.length, iota m l.length) := by
  unfold laws_markIntS.f
  simpa using markIntS_loop l [] m h0 h1 (by simp; omega)
theorem heldIntS_loop (n : Nat) : ∀ (pre : List Int) (m : Int), 0 ≤ m → m + n ≤ 4611686018427387904 → pre.length + n ≤ 4611686018427387904 →
    Ev (fun k => laws_heldIntS.l0 k (pre ++ iota m n) m (pre.length : Int)) (m + n) := by
  induction n with
  | zero =>
    intro pre m _ _ _
    refine evs (fun k => by rw [laws_heldIntS.l0]) ?_
    exact evn (by simp [iota]) (evr (by simp))
  | succ n ih =>
    intro pre m h0 h1 h
    refine evs (fun k => by rw [laws_heldIntS.l0]) ?_
    simp only [iota]
    refine evp (by simp; omega) (evp (by omega) (evp (rd_mid _ _ _) ?_))
    have h2 := ih (pre ++ [m]) (m + 1) (by omega) (by omega) (by simp; omega)
    simp only [List.append_assoc, List.singleton_append, List.length_append, List.length_singleton] at h2
    rw [w64 (x := (pre.length : Int) + 1) (by omega) (by omega), w64 (x := m + 1) (by omega) (by omega)]
    have e : m + ((n + 1 : Nat) : Int) = m + 1 + n := by omega
    rw [e]
    simpa using h2
theorem heldIntS_ev (n : Nat) (m : Int) (h0 : 0 ≤ m) (h1 : m + n ≤ 4611686018427387904) : Ev (fun k => laws_heldIntS.f k (iota m n) m) (m + n) := by
  unfold laws_heldIntS.f
  simpa using heldIntS_loop n [] m h0 h1 (by simp; omega)

/-! Rows of numbers: compared with themselves, marked and found again. -/
theorem rdL1_mid (pre post : List (List Int)) (x : List Int) : rd_L1 (pre ++ x :: post) (pre.length : Int) = x := by simp [rd_L1]
theorem eqSS_loop (post : List (List Int)) : ∀ pre : List (List Int), (∀ x ∈ post, x.length ≤ 1000) → (pre ++ post).length ≤ 1000000000000 → Ev (fun k => laws_eqIntSS.l0 k (pre ++ post) (pre ++ post) (pre.length : Int)) true := by
  induction post with
  | nil =>
    intro pre _ _
    refine evs (fun k => by rw [laws_eqIntSS.l0]) ?_
    exact evn (by simp) (Ev.now _)
  | cons x post ih =>
    intro pre hx hl
    have hlen : (pre ++ x :: post).length = pre.length + (post.length + 1) := by simp
    rw [hlen] at hl
    have h2 := ih (pre ++ [x]) (fun y hy => hx y (by simp [hy])) (by simp; omega)
    rw [List.append_assoc, List.singleton_append, show ((pre ++ [x]).length : Int) = (pre.length : Int) + 1 by simp] at h2
    have h3 := laws_eqIntS_self x (by have := hx x (by simp); omega)
    refine evs (fun k => by rw [laws_eqIntSS.l0]) ?_
    rw [rdL1_mid, hlen, w64 (x := (pre.length : Int) + 1) (by omega) (by omega)]
    exact evp (by omega) (evp (by omega) (evp (by omega) (evb h3 (evp rfl h2))))
def marks : Int → List (List Int) → List (List Int)
  | _, [] => []
  | m, r :: rows => iota m r.length :: marks (m + r.length) rows
def total : List (List Int) → Nat
  | [] => 0
  | r :: rows => r.length + total rows
theorem markSS_ev (post : List (List Int)) : ∀ (pre : List (List Int)) (m : Int), 0 ≤ m → m ≤ 4000000000000000 - total post → pre.length + post.length ≤ 1000000000000 → Ev (fun k => laws_markIntSS.g k pre post m) (m + total post, pre ++ marks m post) := by
  induction post with
  | nil => intro pre m _ _ _; exact evr (by simp [marks, total])
  | cons r post ih =>
    intro pre m h0 h1 hl
    simp only [total, List.length_cons] at h1 hl
    have h2 := markIntS_ev r m h0 (by omega)
    have h3 := ih (pre ++ [iota m r.length]) (m + r.length) (by omega) (by omega) (by simp; omega)
    rw [show m + (r.length : Int) + (total post : Int) = m + ((total (r :: post) : Nat) : Int) by simp only [total]; omega, List.append_assoc, List.singleton_append] at h3
    exact evp (by omega) (evb h2 h3)
theorem heldSS_loop (post : List (List Int)) : ∀ (pre : List (List Int)) (m : Int), 0 ≤ m → m ≤ 4000000000000000 - total post → pre.length + post.length ≤ 1000000000000 → Ev (fun k => laws_heldIntSS.l0 k (pre ++ marks m post) m (pre.length : Int)) (m + total post) := by
  induction post with
  | nil =>
    intro pre m _ _ _
    refine evs (fun k => by rw [laws_heldIntSS.l0]) ?_
    exact evn (by simp [marks]) (evr (by simp [total]))
  | cons r post ih =>
    intro pre m h0 h1 hl
    simp only [total, List.length_cons] at h1 hl
    have h2 := heldIntS_ev r.length m h0 (by omega)
    have h3 := ih (pre ++ [iota m r.length]) (m + r.length) (by omega) (by omega) (by simp; omega)
    rw [show m + (r.length : Int) + (total post : Int) = m + ((total (r :: post) : Nat) : Int) by simp only [total]; omega, List.append_assoc, List.singleton_append, show ((pre ++ [iota m r.length]).length : Int) = (pre.length : Int) + 1 by simp] at h3
    simp only [marks]
    refine evs (fun k => by rw [laws_heldIntSS.l0]) ?_
    rw [rdL1_mid, w64 (x := (pre.length : Int) + 1) (by omega) (by omega)]
    exact evp (by simp; omega) (evp (by omega) (evb h2 (evn (by omega) h3)))
theorem total_le (l : List (List Int)) (h : ∀ x ∈ l, x.length ≤ 1000) : total l ≤ l.length * 1000 := by
  induction l with
  | nil => simp [total]
  | cons r l ih =>
    have := ih (fun x hx => h x (by simp [hx]))
    have := h r (by simp)
    simp only [total, List.length_cons]
    omega
theorem rows_exact (l : List (List Int)) (h : ∀ x ∈ l, x.length ≤ 1000) (hl : l.length ≤ 100000000000) : Ev (fun k => laws_eqIntSS.f k l l) true ∧ ∃ (m : Int) (l' : List (List Int)), Ev (fun k => laws_markIntSS.f k l 1) (m, l') ∧ Ev (fun k => laws_heldIntSS.f k l' 1) m ∧ 0 ≤ m := by
  have ht := total_le l h
  refine ⟨?_, 1 + total l, marks 1 l, ?_, ?_, by omega⟩
  · unfold laws_eqIntSS.f
    have := eqSS_loop l [] h (by simp; omega)
    exact evp rfl (by simpa using this)
  · have := markSS_ev l [] 1 (by omega) (by omega) (by simp; omega)
    unfold laws_markIntSS.f
    simpa using this
  · have := heldSS_loop l [] 1 (by omega) (by omega) (by simp; omega)
    unfold laws_heldIntSS.f
    simpa using this

theorem FnExactSelfTelling : laws_FnExactSelfTelling.Pure := by
  intro a0 _
  obtain ⟨R, t, r1, r2, r4, r5⟩ := selftelling_both a0
  obtain ⟨e1, m, rows', e2, e3, e4⟩ := rows_exact R (fun x hx => by have := (r2 x hx).1; omega) (by omega)
  obtain ⟨k1, q1⟩ := r4
  obtain ⟨k2, q2⟩ := r5
  obtain ⟨k3, q3⟩ := e1
  obtain ⟨k4, q4⟩ := e2
  obtain ⟨k5, q5⟩ := e3
  refine ⟨k1 + k2 + k3 + k4 + k5, R, t, m, rows', q1 _ (by omega), q2 _ (by omega), q3 _ (by omega), q4 _ (by omega), q5 _ (by omega), e4⟩

end Go.Proofs.Ytiedpgebceeplaa.Pure
