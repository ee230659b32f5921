/- For all codes: self telling lists tell their own counts, have their length as their sum, stand in order, and are one alone from seven numbers on; the reference agrees. -/
import Derived.Test.YtiedpgebceeplaaPFnSelfTellingListsx5
import Derived.Test.YtiedpgebceeplaaWMore
set_option linter.unusedVariables false
set_option linter.unusedSimpArgs false
namespace Go.Proofs.Ytiedpgebceeplaa.Pure
open Go.RowKit Go.Proofs.Ytiedpgebceeplaa.PFnSelfTellingLists Go.Proofs.YtiedpgebceeplaaW.PrintWords Go.Proofs.YtiedpgebceeplaaW.PrintLast

theorem w64 {x : Int} (h1 : -9223372036854775808 ≤ x) (h2 : x ≤ 9223372036854775807) : wrap64 x = x := by unfold wrap64; omega

theorem evp {α : Type} {c : Prop} [Decidable c] {a b : Nat → Option α} {r : α} (h : c) (k : Ev a r) : Ev (fun n => if c then a n else b n) r := Ev.congr (fun _ => if_pos h) k
theorem evn {α : Type} {c : Prop} [Decidable c] {a b : Nat → Option α} {r : α} (h : ¬ c) (k : Ev b r) : Ev (fun n => if c then a n else b n) r := Ev.congr (fun _ => if_neg h) k
theorem evr {α : Type} {x r : α} (h : x = r) : Ev (fun _ => some x) r := h ▸ Ev.now x
theorem evb {α β : Type} {g : Nat → Option α} {f : Nat → α → Option β} {a : α} {r : β} (h : Ev g a) (k : Ev (fun n => f n a) r) : Ev (fun n => (g n).bind fun x => f n x) r := Ev.bind h k
theorem evc {α β : Type} {x : Option α} {a : α} {f : Nat → α → Option β} {r : β} (h : x = some a) (k : Ev (fun n => f n a) r) : Ev (fun n => x.bind fun y => f n y) r := by subst h; exact k
theorem evs {α : Type} {g f : Nat → Option α} {r : α} (h : ∀ k, g (k + 1) = f k) (k : Ev f r) : Ev g r := Ev.step h k
theorem rd_mid (pre post : List Int) (x : Int) : rd (pre ++ x :: post) (pre.length : Int) = x := by simp [rd]
theorem rd_mem (xs : List Int) (i : Int) (h0 : 0 ≤ i) (h : i < xs.length) : rd xs i ∈ xs := by
  have hi : i.toNat < xs.length := by omega
  simp only [rd, List.getD_eq_getElem?_getD, List.getElem?_eq_getElem hi, Option.getD_some]
  exact List.getElem_mem hi
def ic (l : List Nat) : List Int := l.map (fun x : Nat => (x : Int))
theorem ic_nil : ic [] = [] := rfl
theorem ic_cons (x : Nat) (l : List Nat) : ic (x :: l) = (x : Int) :: ic l := rfl
theorem ic_append (l m : List Nat) : ic (l ++ m) = ic l ++ ic m := by simp [ic]
theorem ic_length (l : List Nat) : (ic l).length = l.length := by simp [ic]
theorem ic_rd (pre post : List Nat) (x : Nat) : rd (ic (pre ++ x :: post)) (pre.length : Int) = (x : Int) := by
  rw [ic_append, ic_cons, show ((pre.length : Nat) : Int) = (((ic pre).length : Nat) : Int) by simp [ic], rd_mid]

def lsum : List Nat → Nat
  | [] => 0
  | d :: l => d + lsum l
def tcStep (n : Nat) (acc : List Int) (d : Int) : List Int := if 0 ≤ d ∧ d ≤ (n : Int) - 1 then acc.set d.toNat (wrap64 (rd acc d + 1)) else acc
def tellC (l : List Int) : List Int := l.foldl (tcStep l.length) (List.replicate l.length 0)
theorem tcStep_length (n : Nat) (acc : List Int) (d : Int) : (tcStep n acc d).length = acc.length := by unfold tcStep; split <;> simp
theorem tcFold_length (n : Nat) (l : List Int) : ∀ acc : List Int, (l.foldl (tcStep n) acc).length = acc.length := by
  induction l with
  | nil => intro acc; rfl
  | cons x l ih => intro acc; simp only [List.foldl_cons]; rw [ih, tcStep_length]
theorem tellC_length (l : List Int) : (tellC l).length = l.length := by simp [tellC, tcFold_length]

theorem impl_in_eq (a b c : Int) : impl_in.f a b c = some (decide (b ≤ a ∧ a ≤ c)) := by
  unfold impl_in.f
  by_cases h : b ≤ a <;> simp [h]
theorem spec_l1In_eq (a b c : Int) : spec_l1In.f a b c = some (decide (b ≤ a ∧ a ≤ c)) := by
  unfold spec_l1In.f
  by_cases h : b ≤ a <;> simp [h]

theorem teCounts_loop (whole : List Int) (post : List Int) : ∀ (pre acc : List Int), whole = pre ++ post → acc.length = whole.length → whole.length ≤ 4611686018427387904 →
    Ev (fun k => spec_teCounts.l0 k whole acc whole (whole.length : Int) (pre.length : Int)) (post.foldl (tcStep whole.length) acc) := by
  induction post with
  | nil =>
    intro pre acc hw ha h
    refine evs (fun k => by rw [spec_teCounts.l0]) ?_
    exact evn (by simp [hw]) (Ev.now _)
  | cons x post ih =>
    intro pre acc hw ha h
    have hl : whole.length = pre.length + (post.length + 1) := by simp [hw]
    refine evs (fun k => by rw [spec_teCounts.l0]) ?_
    have hx : rd whole (pre.length : Int) = x := by rw [hw, rd_mid]
    rw [hx, w64 (x := (whole.length : Int) - 1) (by omega) (by omega), w64 (x := (pre.length : Int) + 1) (by omega) (by omega)]
    simp only [spec_l1In_eq, Option.bind_some, decide_eq_true_eq]
    refine evp (by omega) (evp (by omega) (evp (by omega) ?_))
    have h2 := ih (pre ++ [x]) (tcStep whole.length acc x) (by simp [hw]) (by rw [tcStep_length, ha]) h
    simp only [List.length_append, List.length_singleton] at h2
    by_cases hd : 0 ≤ x ∧ x ≤ (whole.length : Int) - 1
    · refine evp hd (evp hd.1 (evp (by omega) ?_))
      simpa [tcStep, hd] using h2
    · refine evn hd ?_
      simpa [tcStep, hd] using h2
theorem teCounts_ev (l : List Int) (h : l.length ≤ 35184372088832) : Ev (fun k => spec_teCounts.f k l) (tellC l) := by
  unfold spec_teCounts.f
  refine evp (by omega) (evp (by omega) ?_)
  simpa [tellC] using teCounts_loop l l [] (List.replicate l.length 0) rfl (by simp) (by omega)
theorem tellCounts_same : ∀ (k : Nat) (a b c : List Int) (d e : Int), impl_tellCounts.l0 k a b c d e = spec_teCounts.l0 k a b c d e
  | 0, _, _, _, _, _ => rfl
  | k + 1, a, b, c, d, e => by simp only [impl_tellCounts.l0, spec_teCounts.l0, impl_in_eq, spec_l1In_eq, tellCounts_same k]
theorem tellCounts_ev (l : List Int) (h : l.length ≤ 35184372088832) : Ev (fun k => impl_tellCounts.f k l) (tellC l) := by
  have h2 := teCounts_ev l h
  unfold spec_teCounts.f at h2
  unfold impl_tellCounts.f
  simpa only [tellCounts_same] using h2

theorem l1Own_ev (l : List Int) (h : l.length ≤ 1000000) : spec_l1Own.f l = some l := by
  unfold spec_l1Own.f
  simp only [Option.bind_some, List.nil_append, List.length_nil]
  rw [if_pos (by omega)]
theorem clone_ev (l : List Int) (h : l.length ≤ 1000000) : slices_Clone_int_int.f l = some l := by
  unfold slices_Clone_int_int.f
  rw [if_pos (by omega)]

theorem spec_l1Same_loop (post : List Int) : ∀ (pre post' : List Int), post'.length = post.length → (pre ++ post).length ≤ 4611686018427387904 →
    Ev (fun k => spec_l1Same.l0 k (pre ++ post) (pre ++ post') ((pre ++ post).length : Int) (pre.length : Int)) (decide (post = post')) := by
  induction post with
  | nil =>
    intro pre post' hl h
    obtain rfl : post' = [] := List.eq_nil_of_length_eq_zero hl
    refine evs (fun k => by rw [spec_l1Same.l0]) ?_
    exact evn (by simp) (evr (by simp))
  | cons x post ih =>
    intro pre post' hl h
    obtain ⟨y, post', rfl⟩ : ∃ y z, post' = y :: z := by cases post' with
      | nil => simp at hl
      | cons y z => exact ⟨y, z, rfl⟩
    refine evs (fun k => by rw [spec_l1Same.l0]) ?_
    refine evp (by simp; omega) (evp (by omega) (evp (by simp; omega) (evp (by simp; omega) ?_)))
    rw [rd_mid, rd_mid]
    by_cases he : x = y
    · subst he
      refine evp rfl ?_
      have h2 := ih (pre ++ [x]) post' (by simpa using hl) (by simpa using h)
      simp only [List.append_assoc, List.singleton_append] at h2
      rw [w64 (by omega) (by simp at h; omega)]
      simpa using h2
    · exact evn he (evr (by simp [he]))
theorem spec_l1Same_ev (l l' : List Int) (h : l.length ≤ 4611686018427387904) : Ev (fun k => spec_l1Same.f k l l') (decide (l = l')) := by
  unfold spec_l1Same.f
  by_cases hl : l.length = l'.length
  · exact evp (by omega) (by simpa using spec_l1Same_loop l [] l' hl.symm (by simpa using h))
  · exact evn (by omega) (evr (by symm; rw [decide_eq_false_iff_not]; exact fun e => hl (by rw [e])))
theorem slices_Equal_int_int_loop (post : List Int) : ∀ (pre post' : List Int), post'.length = post.length → (pre ++ post).length ≤ 4611686018427387904 →
    Ev (fun k => slices_Equal_int_int.l0 k (pre ++ post) (pre ++ post') ((pre ++ post).length : Int) (pre.length : Int)) (decide (post = post')) := by
  induction post with
  | nil =>
    intro pre post' hl h
    obtain rfl : post' = [] := List.eq_nil_of_length_eq_zero hl
    refine evs (fun k => by rw [slices_Equal_int_int.l0]) ?_
    exact evn (by simp) (evr (by simp))
  | cons x post ih =>
    intro pre post' hl h
    obtain ⟨y, post', rfl⟩ : ∃ y z, post' = y :: z := by cases post' with
      | nil => simp at hl
      | cons y z => exact ⟨y, z, rfl⟩
    refine evs (fun k => by rw [slices_Equal_int_int.l0]) ?_
    refine evp (by simp; omega) (evp (by omega) (evp (by simp; omega) (evp (by simp; omega) ?_)))
    rw [rd_mid, rd_mid]
    by_cases he : x = y
    · subst he
      refine evp rfl ?_
      have h2 := ih (pre ++ [x]) post' (by simpa using hl) (by simpa using h)
      simp only [List.append_assoc, List.singleton_append] at h2
      rw [w64 (by omega) (by simp at h; omega)]
      simpa using h2
    · exact evn he (evr (by simp [he]))
theorem slices_Equal_int_int_ev (l l' : List Int) (h : l.length ≤ 4611686018427387904) : Ev (fun k => slices_Equal_int_int.f k l l') (decide (l = l')) := by
  unfold slices_Equal_int_int.f
  by_cases hl : l.length = l'.length
  · exact evp (by omega) (by simpa using slices_Equal_int_int_loop l [] l' hl.symm (by simpa using h))
  · exact evn (by omega) (evr (by symm; rw [decide_eq_false_iff_not]; exact fun e => hl (by rw [e])))
theorem spec_dgSum_loop (post : List Nat) : ∀ (pre : List Nat) (a : Nat), (pre ++ post).length ≤ 1000000000000 → a + lsum post ≤ 1000000000000000000 →
    Ev (fun k => spec_dgSum.l0 k (a : Int) (ic (pre ++ post)) ((pre ++ post).length : Int) (pre.length : Int)) ((a + lsum post : Nat) : Int) := by
  induction post with
  | nil =>
    intro pre a h1 h2
    refine evs (fun k => by rw [spec_dgSum.l0]) ?_
    exact evn (by simp) (evr (by simp [lsum]))
  | cons d post ih =>
    intro pre a h1 h2
    simp only [lsum] at h2
    have hl : (pre ++ d :: post).length = pre.length + (post.length + 1) := by simp
    have h3 := ih (pre ++ [d]) (a + d) (by simp at h1 ⊢; omega) (by omega)
    rw [List.append_assoc, List.singleton_append] at h3
    refine evs (fun k => by rw [spec_dgSum.l0]) ?_
    rw [ic_rd, ic_length, hl, w64 (x := (a : Int) + (d : Int)) (by omega) (by omega), w64 (x := (pre.length : Int) + 1) (by omega) (by omega)]
    refine evp (by omega) (evp (by omega) (evp (by omega) ?_))
    rw [hl] at h3
    have e1 : (((pre ++ [d]).length : Nat) : Int) = (pre.length : Int) + 1 := by simp
    have e2 : ((a + d : Nat) : Int) = (a : Int) + (d : Int) := by omega
    rw [e1, e2] at h3
    have e3 : a + lsum (d :: post) = a + d + lsum post := by simp only [lsum]; omega
    rw [e3]
    exact h3
theorem spec_dgSum_all (l : List Nat) (h1 : l.length ≤ 1000000000000) (h2 : lsum l ≤ 1000000000000000000) : Ev (fun k => spec_dgSum.l0 k 0 (ic l) ((ic l).length : Int) 0) ((lsum l : Nat) : Int) := by
  have h := spec_dgSum_loop l [] 0 (by simpa using h1) (by omega)
  rw [ic_length]
  simpa using h

/-! Lists that tell themselves. -/
def stepN (n : Nat) (acc : List Nat) (d : Nat) : List Nat := if d < n then acc.set d (acc.getD d 0 + 1) else acc
def tn (l : List Nat) : List Nat := l.foldl (stepN l.length) (List.replicate l.length 0)
theorem stepN_length (n : Nat) (acc : List Nat) (d : Nat) : (stepN n acc d).length = acc.length := by unfold stepN; split <;> simp
theorem st_lsum_set (l : List Nat) : ∀ (d : Nat), d < l.length → lsum (l.set d (l.getD d 0 + 1)) = lsum l + 1 := by
  induction l with
  | nil => intro d h; simp at h
  | cons x l ih =>
    intro d h
    cases d with
    | zero => simp [lsum]; omega
    | succ d =>
      have := ih d (by simpa using h)
      simp only [List.set_cons_succ, List.getD_cons_succ, lsum, this]
      omega
theorem st_lsum_append (l m : List Nat) : lsum (l ++ m) = lsum l + lsum m := by
  induction l with
  | nil => simp [lsum]
  | cons x l ih => simp only [List.cons_append, lsum, ih]; omega
theorem st_lsum_rep (n : Nat) : lsum (List.replicate n 0) = 0 := by
  induction n with
  | zero => rfl
  | succ n ih => simp [List.replicate_succ, lsum, ih]
theorem stepN_sum (n : Nat) (post : List Nat) : ∀ acc : List Nat, acc.length = n → lsum (post.foldl (stepN n) acc) = lsum acc + post.countP (fun x => decide (x < n)) := by
  induction post with
  | nil => intro acc _; simp
  | cons d post ih =>
    intro acc ha
    rw [List.foldl_cons, ih _ (by rw [stepN_length, ha]), List.countP_cons]
    by_cases h : d < n
    · have e : stepN n acc d = acc.set d (acc.getD d 0 + 1) := by rw [stepN, if_pos h]
      rw [e, st_lsum_set acc d (by omega)]
      simp only [h, decide_true, if_true]
      omega
    · simp [stepN, h]
theorem tn_sum (l : List Nat) : lsum (tn l) = l.countP (fun x => decide (x < l.length)) := by
  unfold tn
  rw [stepN_sum _ _ _ (by simp), st_lsum_rep]
  omega
theorem st_lsum_get_le (l : List Nat) : ∀ d, l.getD d 0 ≤ lsum l := by
  induction l with
  | nil => intro d; simp
  | cons x l ih =>
    intro d
    cases d with
    | zero => simp [lsum]
    | succ d => have := ih d; simp only [List.getD_cons_succ, lsum]; omega
theorem tc_fold (n : Nat) (post : List Nat) : ∀ acc : List Nat, acc.length = n → lsum acc + post.length ≤ 1000000000000 → (ic post).foldl (tcStep n) (ic acc) = ic (post.foldl (stepN n) acc) := by
  induction post with
  | nil => intro acc _ _; rfl
  | cons d post ih =>
    intro acc ha hs
    rw [ic_cons, List.foldl_cons, List.foldl_cons]
    have e : tcStep n (ic acc) (d : Int) = ic (stepN n acc d) := by
      unfold tcStep stepN
      by_cases h : d < n
      · have hg := st_lsum_get_le acc d
        rw [if_pos (by omega), if_pos h]
        have hr : rd (ic acc) (d : Int) = ((acc.getD d 0 : Nat) : Int) := by
          simp [rd, ic, List.getD_eq_getElem?_getD, List.getElem?_eq_getElem (show d < acc.length by omega)]
        rw [hr, w64 (by omega) (by simp only [List.length_cons] at hs; omega), Int.toNat_natCast]
        simp [ic, List.map_set]
      · rw [if_neg (by omega), if_neg h]
    rw [e]
    refine ih _ (by rw [stepN_length, ha]) ?_
    simp only [List.length_cons] at hs
    by_cases h : d < n
    · rw [stepN, if_pos h, st_lsum_set acc d (by omega)]; omega
    · rw [stepN, if_neg h]; omega
theorem tellC_ic (l : List Nat) (h : l.length ≤ 1000) : tellC (ic l) = ic (tn l) := by
  unfold tellC tn
  rw [ic_length]
  have e : List.replicate l.length (0 : Int) = ic (List.replicate l.length 0) := by simp [ic]
  rw [e]
  exact tc_fold l.length l _ (by simp) (by rw [st_lsum_rep]; omega)
theorem ic_inj : ∀ {l l' : List Nat}, ic l = ic l' → l = l'
  | [], [], _ => rfl
  | [], _ :: _, h => by simp [ic] at h
  | _ :: _, [], h => by simp [ic] at h
  | x :: l, y :: l', h => by
    rw [ic_cons, ic_cons] at h
    injection h with h1 h2
    rw [ic_inj h2, Int.ofNat.inj h1]
theorem tells_tn {l : List Nat} (h : l.length ≤ 1000) (ht : tellC (ic l) = ic l) : tn l = l := by
  rw [tellC_ic l h] at ht
  exact ic_inj ht
theorem tells_sum {l : List Nat} (h : l.length ≤ 1000) (ht : tellC (ic l) = ic l) (hl : ∀ x ∈ l, x < l.length) : lsum l = l.length := by
  have h1 := tn_sum l
  rw [tells_tn h ht] at h1
  rw [h1]
  exact List.countP_eq_length.2 (fun x hx => by simpa using hl x hx)
theorem tells_lt {l : List Nat} (h : l.length ≤ 1000) (ht : tellC (ic l) = ic l) (hs : lsum l = l.length) : ∀ x ∈ l, x < l.length := by
  have h1 := tn_sum l
  rw [tells_tn h ht, hs] at h1
  intro x hx
  have := List.countP_eq_length.1 h1.symm x hx
  simpa using this
def tls (f : Nat → List (List Int)) : Nat → Nat → List (List Int)
  | 0, _ => []
  | e + 1, d => f d ++ tls f e (d + 1)
def tl : Nat → List Nat → Nat → List (List Int)
  | 0, l, left => if left = 0 ∧ tellC (ic l) = ic l then [ic l] else []
  | m + 1, l, left => tls (fun d => tl m (l ++ [d]) (left - d)) (left + 1) 0
theorem tl_yes {l : List Nat} {left : Nat} (h0 : left = 0) (h : tellC (ic l) = ic l) : tl 0 l left = [ic l] := by rw [tl, if_pos ⟨h0, h⟩]
theorem tl_not {l : List Nat} {left : Nat} (h : ¬ (left = 0 ∧ tellC (ic l) = ic l)) : tl 0 l left = [] := by rw [tl, if_neg h]
theorem tls_length {f : Nat → List (List Int)} {q : Nat} (hf : ∀ d, (f d).length ≤ q) : ∀ e d, (tls f e d).length ≤ e * q
  | 0, _ => by simp [tls]
  | e + 1, d => by
    have h1 := hf d
    have h2 := tls_length hf e (d + 1)
    rw [tls, List.length_append, Nat.succ_mul]
    omega
theorem tl_length : ∀ (m : Nat) (l : List Nat) (left : Nat), left ≤ 10 → (tl m l left).length ≤ 11 ^ m
  | 0, l, left, _ => by
    rw [tl]
    split <;> simp
  | m + 1, l, left, h => by
    rw [tl]
    refine Nat.le_trans (tls_length (fun d => tl_length m _ _ (by omega)) _ _) ?_
    rw [Nat.pow_succ, Nat.mul_comm]
    exact Nat.mul_le_mul_left _ (by omega)
theorem tls_all {f : Nat → List (List Int)} {Q : List Int → Prop} (hf : ∀ d, ∀ x ∈ f d, Q x) : ∀ e d, ∀ x ∈ tls f e d, Q x
  | 0, _ => by simp [tls]
  | e + 1, d => by
    intro x hx
    rw [tls] at hx
    rcases List.mem_append.1 hx with hx | hx
    · exact hf d x hx
    · exact tls_all hf e (d + 1) x hx
theorem tl_all (n : Nat) : ∀ (m : Nat) (l : List Nat) (left : Nat), l.length + m = n → ∀ x ∈ tl m l left, x.length = n ∧ tellC x = x
  | 0, l, left, h => by
    intro x hx
    rw [tl] at hx
    split at hx
    · rename_i hc
      obtain rfl := List.mem_singleton.1 hx
      exact ⟨by rw [ic_length]; omega, hc.2⟩
    · simp at hx
  | m + 1, l, left, h => by
    rw [tl]
    exact tls_all (fun d => tl_all n m _ _ (by simp; omega)) _ _
theorem tl_no (n : Nat) (hn : n ≤ 1000) : ∀ (m : Nat) (l : List Nat), l.length + m = n → n ∈ l → lsum l = n → tl m l 0 = []
  | 0, l, h, hm, hs => by
    rw [tl, if_neg]
    intro hc
    have := tells_lt (by omega) hc.2 (by omega) n hm
    omega
  | m + 1, l, h, hm, hs => by
    rw [tl, tls, tls]
    have := tl_no n hn m (l ++ [0]) (by simp; omega) (by simp [hm]) (by rw [st_lsum_append]; simp [lsum, hs])
    simpa using this
theorem on_ev (n : Nat) (hn : n ≤ 10) : ∀ (m : Nat) (l : List Nat) (left : Nat) (L : List (List Int)), l.length + m = n → left ≤ 10 → L.length + 11 ^ m ≤ 999999999999 →
    Ev (fun k => impl_SelfTelling.on (n : Int) k false (ic l) (left : Int) 0 L) (L ++ tl m l left) := by
  intro m
  induction m with
  | zero =>
    intro l left L h hl hL
    have hlen : (ic l).length = n := by rw [ic_length]; omega
    refine evs (fun k => by rw [impl_SelfTelling.on]) ?_
    refine evp (by omega) ?_
    by_cases h0 : left = 0
    · subst h0
      refine evp rfl (evb (tellCounts_ev _ (by omega)) (evb (slices_Equal_int_int_ev _ _ (by rw [tellC_length]; omega)) ?_))
      by_cases h1 : tellC (ic l) = ic l
      · rw [tl_yes rfl h1]
        refine evp (by simpa using h1) (evp (by omega) (evc (clone_ev _ (by omega)) (evr rfl)))
      · rw [tl_not (fun h => h1 h.2)]
        exact evn (by simpa using h1) (evr (by simp))
    · rw [tl_not (fun h => h0 h.1)]
      exact evn (by omega) (evr (by simp))
  | succ m ih =>
    intro l left L h hl hL
    have hlen : (ic l).length = l.length := ic_length l
    obtain ⟨q, hq⟩ : ∃ q, 11 ^ m = q := ⟨_, rfl⟩
    have hq1 : 11 ^ (m + 1) = q * 11 := by rw [Nat.pow_succ, hq]
    rw [hq1] at hL
    rw [hq] at ih
    have hloop : ∀ (e d : Nat) (L : List (List Int)), d + e = left + 1 → L.length + e * q ≤ 999999999999 → Ev (fun k => impl_SelfTelling.on (n : Int) k true (ic l) (left : Int) (d : Int) L) (L ++ tls (fun d => tl m (l ++ [d]) (left - d)) e d) := by
      intro e
      induction e with
      | zero =>
        intro d L hd hL
        refine evs (fun k => by rw [impl_SelfTelling.on]) ?_
        exact evn (by omega) (evr (by simp [tls]))
      | succ e ihe =>
        intro d L hd hL
        rw [Nat.succ_mul] at hL
        have hlen2 : (tl m (l ++ [d]) (left - d)).length ≤ q := by rw [← hq]; exact tl_length m _ _ (by omega)
        have h1 := ih (l ++ [d]) (left - d) L (by simp; omega) (by omega) (by omega)
        have h2 := ihe (d + 1) (L ++ tl m (l ++ [d]) (left - d)) (by omega) (by rw [List.length_append]; omega)
        rw [ic_append, show ic [d] = [(d : Int)] from rfl, show ((left - d : Nat) : Int) = (left : Int) - (d : Int) by omega] at h1
        refine evs (fun k => by rw [impl_SelfTelling.on]) ?_
        rw [w64 (x := (left : Int) - (d : Int)) (by omega) (by omega), w64 (x := (d : Int) + 1) (by omega) (by omega)]
        refine evp (by omega) (evp (by omega) (evb h1 ?_))
        rw [tls, ← List.append_assoc]
        rw [show ((d + 1 : Nat) : Int) = (d : Int) + 1 by omega] at h2
        exact h2
    refine evs (fun k => by rw [impl_SelfTelling.on]) ?_
    refine evn (by omega) ?_
    rw [tl]
    exact hloop (left + 1) 0 L (by omega) (by
      have : (left + 1) * q ≤ q * 11 := by rw [Nat.mul_comm]; exact Nat.mul_le_mul_left _ (by omega)
      omega)
theorem self_ev (n : Nat) (hn : n ≤ 10) : ∀ (m : Nat) (l : List Nat) (left : Nat), l.length + m = n → lsum l + left = n → (∀ x ∈ l, x < n) →
    Ev (fun k => spec_teSelf.f k (ic l) (n : Int)) (tl m l left) := by
  intro m
  induction m with
  | zero =>
    intro l left h hs hx
    have hlen : (ic l).length = n := by rw [ic_length]; omega
    have hsum := spec_dgSum_all l (by omega) (by omega)
    refine evs (fun k => by rw [spec_teSelf.f]) ?_
    refine evb (show Ev (fun k => spec_dgSum.f k (ic l)) _ from hsum) (evn (by omega) (evp (by omega) (evb (teCounts_ev _ (by omega)) (evb (spec_l1Same_ev _ _ (by rw [tellC_length]; omega)) ?_))))
    by_cases h1 : tellC (ic l) = ic l
    · have h2 := tells_sum (by omega) h1 (by intro x hxl; have := hx x hxl; omega)
      rw [tl_yes (by omega) h1]
      exact evp (by simpa using h1) (evc (l1Own_ev _ (by omega)) (evr rfl))
    · rw [tl_not (fun h => h1 h.2)]
      exact evn (by simpa using h1) (evr rfl)
  | succ m ih =>
    intro l left h hs hx
    have hlen : (ic l).length = l.length := ic_length l
    have hsum := spec_dgSum_all l (by omega) (by omega)
    have hp : 11 ^ m ≤ 11 ^ 9 := Nat.pow_le_pow_right (by omega) (by omega)
    obtain ⟨q, hq0⟩ : ∃ q : Nat, q = 2357947691 := ⟨_, rfl⟩
    have hq : (11 : Nat) ^ 9 = q := by rw [hq0]
    have hloop : ∀ (e d : Nat) (X : List (List Int)), d + e = n → X.length ≤ d * q → Ev (fun k => spec_teSelf.l0 k (ic l) (n : Int) X (d : Int)) (X ++ tls (fun d => tl m (l ++ [d]) (left - d)) (left + 1 - d) d) := by
      intro e
      induction e with
      | zero =>
        intro d X hd hX
        refine evs (fun k => by rw [spec_teSelf.l0]) ?_
        refine evn (by omega) (evr ?_)
        obtain rfl : d = n := by omega
        by_cases hln : left = d
        · subst hln
          have h3 := tl_no left (by omega) m (l ++ [left]) (by simp; omega) (by simp) (by rw [st_lsum_append]; simp only [lsum]; omega)
          rw [show left + 1 - left = 1 by omega, tls, tls]
          simp only [Nat.sub_self]
          rw [h3]
          simp
        · rw [show left + 1 - d = 0 by omega, tls]
          simp
      | succ e ihe =>
        intro d X hd hX
        have hdq : d * q ≤ 10 * q := Nat.mul_le_mul_right q (by omega)
        have hX2 : X.length + q < 5864062014805 := by omega
        have hXs : X.length ≤ (d + 1) * q := by rw [Nat.succ_mul]; omega
        refine evs (fun k => by rw [spec_teSelf.l0]) ?_
        rw [w64 (x := (d : Int) + 1) (by omega) (by omega)]
        by_cases hdl : d ≤ left
        · have hlen2 : (tl m (l ++ [d]) (left - d)).length ≤ q := by
            have := tl_length m (l ++ [d]) (left - d) (by omega)
            omega
          have h1 := ih (l ++ [d]) (left - d) (by simp; omega) (by rw [st_lsum_append]; simp only [lsum]; omega) (by
            intro x hxm
            rcases List.mem_append.1 hxm with hxm | hxm
            · exact hx x hxm
            · obtain rfl := List.mem_singleton.1 hxm
              omega)
          have h2 := ihe (d + 1) (X ++ tl m (l ++ [d]) (left - d)) (by omega) (by rw [List.length_append, Nat.succ_mul]; omega)
          rw [ic_append, show ic [d] = [(d : Int)] from rfl] at h1
          rw [show ((d + 1 : Nat) : Int) = (d : Int) + 1 by omega] at h2
          refine evp (by omega) (evc (l1Own_ev _ (by omega)) (evp (by omega) (evb h1 (evp (by omega) ?_))))
          rw [show left + 1 - d = (left - d) + 1 by omega, tls, ← List.append_assoc]
          rw [show left + 1 - (d + 1) = left - d by omega] at h2
          exact h2
        · have hs2 := spec_dgSum_all (l ++ [d]) (by simp; omega) (by rw [st_lsum_append]; simp only [lsum]; omega)
          have h1 : Ev (fun k => spec_teSelf.f k (ic l ++ [(d : Int)]) (n : Int)) [] := by
            refine evs (fun k => by rw [spec_teSelf.f]) ?_
            rw [ic_append, show ic [d] = [(d : Int)] from rfl, st_lsum_append] at hs2
            refine evb (show Ev (fun k => spec_dgSum.f k (ic l ++ [(d : Int)])) _ from hs2) (evp (by simp only [lsum]; omega) (evr rfl))
          have h2 := ihe (d + 1) X (by omega) hXs
          rw [show ((d + 1 : Nat) : Int) = (d : Int) + 1 by omega, show left + 1 - (d + 1) = 0 by omega, tls] at h2
          rw [show left + 1 - d = 0 by omega, tls]
          refine evp (by omega) (evc (l1Own_ev _ (by omega)) (evp (by omega) (evb h1 (evp (by simp; omega) ?_))))
          simpa using h2
    refine evs (fun k => by rw [spec_teSelf.f]) ?_
    refine evb (show Ev (fun k => spec_dgSum.f k (ic l)) _ from hsum) (evn (by omega) (evn (by omega) ?_))
    rw [tl]
    have := hloop n 0 [] (by omega) (by simp)
    simpa using this
theorem low_byte (x : Int) : 0 ≤ Go.bits .and .u64 ((IntKind.u64.wrap x) / 1099511627776) 255 ∧ Go.bits .and .u64 ((IntKind.u64.wrap x) / 1099511627776) 255 ≤ 255 := by
  have h0 : 0 ≤ IntKind.u64.wrap x ∧ IntKind.u64.wrap x < 18446744073709551616 := by rw [IntKind.wrap_u64]; omega
  obtain ⟨y, hy⟩ := Int.eq_ofNat_of_zero_le (show 0 ≤ IntKind.u64.wrap x / 1099511627776 by omega)
  rw [hy]
  have h1 := bits_and_u64_nat y 255 (by omega) (by omega)
  have e : y &&& 255 = y % 256 := Nat.and_two_pow_sub_one_eq_mod y 8
  rw [e] at h1
  rw [show ((255 : Int)) = ((255 : Nat) : Int) from rfl, h1]
  omega
theorem next_ok (l : List Int) (hl : ∀ x ∈ l, 0 ≤ x ∧ x ≤ 255) (p s : Int) (h0 : 0 ≤ p) (h1 : p ≤ 1000000000000) :
    ∃ v s' : Int, spec_l1Cur_next.f l p s = some (v, p + 1, s') ∧ 0 ≤ v ∧ v ≤ 255 := by
  unfold spec_l1Cur_next.f
  rw [w64 (x := p + 1) (by omega) (by omega)]
  by_cases hp : p < (l.length : Int)
  · have hm := hl _ (rd_mem l p h0 hp)
    rw [if_pos hp, if_pos h0]
    by_cases hq : p + 1 ≤ (l.length : Int)
    · rw [if_pos hq]
      refine ⟨_, _, rfl, ?_⟩
      rw [w64 (by omega) (by omega)]
      exact hm
    · omega
  · rw [if_neg hp]
    by_cases hq : p + 1 ≤ (l.length : Int)
    · omega
    · rw [if_neg hq]
      refine ⟨_, _, rfl, ?_⟩
      have h := low_byte (IntKind.u64.wrap (IntKind.u64.wrap (s * 6364136223846793005)) + 1442695040888963407)
      rw [w64 (by omega) (by omega)]
      exact h
theorem pick_ok (l : List Int) (hl : ∀ x ∈ l, 0 ≤ x ∧ x ≤ 255) (p s n : Int) (h0 : 0 ≤ p) (h1 : p ≤ 999999999990) (hn : n ≤ 1000000) :
    ∃ v p' s' : Int, spec_l1Cur_pick.f l p s n = some (v, p', s') ∧ 0 ≤ v ∧ v ≤ 1000000 ∧ (v = 0 ∨ v < n) ∧ p ≤ p' ∧ p' ≤ p + 2 := by
  unfold spec_l1Cur_pick.f
  by_cases h : n ≤ 1
  · rw [if_pos h]
    exact ⟨0, p, s, rfl, by omega, by omega, by omega, by omega, by omega⟩
  · rw [if_neg h]
    obtain ⟨v, s1, e1, h2, h3⟩ := next_ok l hl p s h0 (by omega)
    rw [e1]
    simp only [Option.bind_some]
    by_cases h4 : n > 200
    · rw [if_pos h4]
      obtain ⟨v2, s2, e2, h5, h6⟩ := next_ok l hl (p + 1) s1 (by omega) (by omega)
      rw [e2]
      simp only [Option.bind_some]
      rw [if_neg (by omega), w64 (x := v * 256) (by omega) (by omega), w64 (by omega) (by omega)]
      have h7 := Int.tmod_nonneg n (show 0 ≤ v * 256 + v2 by omega)
      have h8 := Int.tmod_lt_of_pos (v * 256 + v2) (show 0 < n by omega)
      exact ⟨_, _, _, rfl, h7, by omega, Or.inr h8, by omega, by omega⟩
    · rw [if_neg h4, if_neg (by omega)]
      have h7 := Int.tmod_nonneg n (show 0 ≤ v by omega)
      have h8 := Int.tmod_lt_of_pos v (show 0 < n by omega)
      exact ⟨_, _, _, rfl, h7, by omega, Or.inr h8, by omega, by omega⟩
theorem among_ok (l : List Int) (hl : ∀ x ∈ l, 0 ≤ x ∧ x ≤ 255) (p s : Int) (m : List Int) (hm : m ≠ []) (hm2 : m.length ≤ 1000000) (h0 : 0 ≤ p) (h1 : p ≤ 999999999990) :
    ∃ v p' s' : Int, spec_l1Cur_among.f l p s m = some (v, p', s') ∧ v ∈ m ∧ p ≤ p' ∧ p' ≤ p + 2 := by
  unfold spec_l1Cur_among.f
  have hpos := List.length_pos_iff.2 hm
  obtain ⟨v, p', s', e1, h2, h3, h4, h5, h6⟩ := pick_ok l hl p s m.length h0 h1 (by omega)
  rw [e1]
  simp only [Option.bind_some]
  rw [if_pos h2, if_pos (by omega)]
  exact ⟨_, _, _, rfl, rd_mem m v h2 (by omega), h5, h6⟩

theorem laws_qSum_loop (post : List Nat) : ∀ (pre : List Nat) (a : Nat), (pre ++ post).length ≤ 1000000000000 → a + lsum post ≤ 1000000000000000000 →
    Ev (fun k => laws_qSum.l0 k (a : Int) (ic (pre ++ post)) ((pre ++ post).length : Int) (pre.length : Int)) ((a + lsum post : Nat) : Int) := by
  induction post with
  | nil =>
    intro pre a h1 h2
    refine evs (fun k => by rw [laws_qSum.l0]) ?_
    exact evn (by simp) (evr (by simp [lsum]))
  | cons d post ih =>
    intro pre a h1 h2
    simp only [lsum] at h2
    have hl : (pre ++ d :: post).length = pre.length + (post.length + 1) := by simp
    have h3 := ih (pre ++ [d]) (a + d) (by simp at h1 ⊢; omega) (by omega)
    rw [List.append_assoc, List.singleton_append] at h3
    refine evs (fun k => by rw [laws_qSum.l0]) ?_
    rw [ic_rd, ic_length, hl, w64 (x := (a : Int) + (d : Int)) (by omega) (by omega), w64 (x := (pre.length : Int) + 1) (by omega) (by omega)]
    refine evp (by omega) (evp (by omega) (evp (by omega) ?_))
    rw [hl] at h3
    have e1 : (((pre ++ [d]).length : Nat) : Int) = (pre.length : Int) + 1 := by simp
    have e2 : ((a + d : Nat) : Int) = (a : Int) + (d : Int) := by omega
    rw [e1, e2] at h3
    have e3 : a + lsum (d :: post) = a + d + lsum post := by simp only [lsum]; omega
    rw [e3]
    exact h3
theorem laws_qSum_all (l : List Nat) (h1 : l.length ≤ 1000000000000) (h2 : lsum l ≤ 1000000000000000000) : Ev (fun k => laws_qSum.l0 k 0 (ic l) ((ic l).length : Int) 0) ((lsum l : Nat) : Int) := by
  have h := laws_qSum_loop l [] 0 (by simpa using h1) (by omega)
  rw [ic_length]
  simpa using h

theorem laws_qSame_loop (post : List Int) : ∀ (pre post' : List Int), post'.length = post.length → (pre ++ post).length ≤ 4611686018427387904 →
    Ev (fun k => laws_qSame.l0 k (pre ++ post) (pre ++ post') ((pre ++ post).length : Int) (pre.length : Int)) (decide (post = post')) := by
  induction post with
  | nil =>
    intro pre post' hl h
    obtain rfl : post' = [] := List.eq_nil_of_length_eq_zero hl
    refine evs (fun k => by rw [laws_qSame.l0]) ?_
    exact evn (by simp) (evr (by simp))
  | cons x post ih =>
    intro pre post' hl h
    obtain ⟨y, post', rfl⟩ : ∃ y z, post' = y :: z := by cases post' with
      | nil => simp at hl
      | cons y z => exact ⟨y, z, rfl⟩
    refine evs (fun k => by rw [laws_qSame.l0]) ?_
    refine evp (by simp; omega) (evp (by omega) (evp (by simp; omega) (evp (by simp; omega) ?_)))
    rw [rd_mid, rd_mid]
    by_cases he : x = y
    · subst he
      refine evp rfl ?_
      have h2 := ih (pre ++ [x]) post' (by simpa using hl) (by simpa using h)
      simp only [List.append_assoc, List.singleton_append] at h2
      rw [w64 (by omega) (by simp at h; omega)]
      simpa using h2
    · exact evn he (evr (by simp [he]))
theorem laws_qSame_ev (l l' : List Int) (h : l.length ≤ 4611686018427387904) : Ev (fun k => laws_qSame.f k l l') (decide (l = l')) := by
  unfold laws_qSame.f
  by_cases hl : l.length = l'.length
  · exact evp (by omega) (by simpa using laws_qSame_loop l [] l' hl.symm (by simpa using h))
  · exact evn (by omega) (evr (by symm; rw [decide_eq_false_iff_not]; exact fun e => hl (by rw [e])))
theorem laws_qSame_self (l : List Int) (h : l.length ≤ 4611686018427387904) : Ev (fun k => laws_qSame.f k l l) true := by simpa using laws_qSame_ev l l h

/-! Lists that tell themselves: in order, and one alone from seven numbers on. -/
def tlsN (f : Nat → List (List Nat)) : Nat → Nat → List (List Nat)
  | 0, _ => []
  | e + 1, d => f d ++ tlsN f e (d + 1)
def tlN : Nat → List Nat → Nat → List (List Nat)
  | 0, l, left => if left = 0 ∧ tn l = l then [l] else []
  | m + 1, l, left => tlsN (fun d => tlN m (l ++ [d]) (left - d)) (left + 1) 0
theorem tells_iff {l : List Nat} (h : l.length ≤ 1000) : tellC (ic l) = ic l ↔ tn l = l :=
  ⟨tells_tn h, fun e => by rw [tellC_ic l h, e]⟩
theorem tls_map {f : Nat → List (List Int)} {g : Nat → List (List Nat)} (h : ∀ d, f d = (g d).map ic) : ∀ e d, tls f e d = (tlsN g e d).map ic
  | 0, _ => rfl
  | e + 1, d => by rw [tls, tlsN, List.map_append, h, tls_map h e]
theorem tl_tlN : ∀ (m : Nat) (l : List Nat) (left : Nat), l.length + m ≤ 1000 → tl m l left = (tlN m l left).map ic
  | 0, l, left, h => by
    have hi := tells_iff (l := l) (by omega)
    by_cases hc : left = 0 ∧ tn l = l
    · rw [tl_yes hc.1 (hi.2 hc.2), tlN, if_pos hc]; rfl
    · rw [tl_not (fun h2 => hc ⟨h2.1, hi.1 h2.2⟩), tlN, if_neg hc]; rfl
  | m + 1, l, left, h => by
    rw [tl, tlN]
    exact tls_map (fun d => tl_tlN m (l ++ [d]) (left - d) (by simp; omega)) _ _
theorem mem_tlsN {f : Nat → List (List Nat)} {x : List Nat} : ∀ e d, x ∈ tlsN f e d ↔ ∃ j, d ≤ j ∧ j < d + e ∧ x ∈ f j
  | 0, d => by simp [tlsN]; omega
  | e + 1, d => by
    rw [tlsN, List.mem_append, mem_tlsN e (d + 1)]
    constructor
    · rintro (h | ⟨j, h1, h2, h3⟩)
      · exact ⟨d, by omega, by omega, h⟩
      · exact ⟨j, by omega, by omega, h3⟩
    · rintro ⟨j, h1, h2, h3⟩
      by_cases hj : j = d
      · subst hj; exact Or.inl h3
      · exact Or.inr ⟨j, by omega, by omega, h3⟩
theorem tlN_mem : ∀ (m : Nat) (l : List Nat) (left : Nat) (x : List Nat), x ∈ tlN m l left → ∃ s, x = l ++ s ∧ s.length = m ∧ lsum s = left ∧ tn x = x
  | 0, l, left, x, h => by
    rw [tlN] at h
    by_cases hc : left = 0 ∧ tn l = l
    · rw [if_pos hc] at h
      obtain rfl := List.mem_singleton.1 h
      exact ⟨[], by simp, rfl, by rw [hc.1]; rfl, hc.2⟩
    · rw [if_neg hc] at h; simp at h
  | m + 1, l, left, x, h => by
    rw [tlN, mem_tlsN] at h
    obtain ⟨j, _, h2, h3⟩ := h
    obtain ⟨s, rfl, hs1, hs2, hs3⟩ := tlN_mem m _ _ x h3
    exact ⟨j :: s, by simp, by simp [hs1], by simp only [lsum]; omega, hs3⟩
theorem tlN_in : ∀ (m : Nat) (l : List Nat) (left : Nat) (s : List Nat), s.length = m → lsum s = left → tn (l ++ s) = l ++ s → l ++ s ∈ tlN m l left
  | 0, l, left, s, h1, h2, h3 => by
    obtain rfl := List.eq_nil_of_length_eq_zero h1
    simp only [List.append_nil] at h3 ⊢
    rw [tlN, if_pos ⟨by rw [← h2]; rfl, h3⟩]
    simp
  | m + 1, l, left, [], h1, h2, h3 => by simp at h1
  | m + 1, l, left, j :: s, h1, h2, h3 => by
    simp only [lsum] at h2
    rw [tlN, mem_tlsN]
    have h4 := tlN_in m (l ++ [j]) (left - j) s (by simpa using h1) (by omega) (by simpa using h3)
    exact ⟨j, by omega, by omega, by simpa using h4⟩
def lexlt (x y : List Nat) : Prop := ∃ p a b s t, x = p ++ a :: s ∧ y = p ++ b :: t ∧ a < b
theorem tlsN_sorted {f : Nat → List (List Nat)} (h1 : ∀ j, (f j).Pairwise lexlt) (h2 : ∀ i j x y, i < j → x ∈ f i → y ∈ f j → lexlt x y) : ∀ e d, (tlsN f e d).Pairwise lexlt
  | 0, _ => by simp [tlsN]
  | e + 1, d => by
    rw [tlsN, List.pairwise_append]
    refine ⟨h1 d, tlsN_sorted h1 h2 e (d + 1), fun x hx y hy => ?_⟩
    obtain ⟨j, hj, _, hy⟩ := (mem_tlsN e (d + 1)).1 hy
    exact h2 d j x y (by omega) hx hy
theorem tlN_sorted : ∀ (m : Nat) (l : List Nat) (left : Nat), (tlN m l left).Pairwise lexlt
  | 0, l, left => by
    rw [tlN]
    split <;> simp
  | m + 1, l, left => by
    rw [tlN]
    refine tlsN_sorted (fun j => tlN_sorted m _ _) (fun i j x y hij hx hy => ?_) _ _
    obtain ⟨s, rfl, _⟩ := tlN_mem m _ _ x hx
    obtain ⟨t, rfl, _⟩ := tlN_mem m _ _ y hy
    exact ⟨l, i, j, s, t, by simp, by simp, hij⟩
theorem lexlt_irr {x : List Nat} (h : lexlt x x) : False := by
  obtain ⟨p, a, b, s, t, h1, h2, h3⟩ := h
  rw [h1] at h2
  have := List.append_cancel_left h2
  injection this with e _
  omega
theorem one_alone {c : List Nat} : ∀ {L : List (List Nat)}, L.Pairwise lexlt → (∀ x ∈ L, x = c) → c ∈ L → L = [c]
  | [], _, _, h => by simp at h
  | [x], _, h, _ => by rw [h x (by simp)]
  | x :: y :: r, hp, h, _ => by
    have h1 := (List.pairwise_cons.1 hp).1 y (by simp)
    rw [h x (by simp), h y (by simp)] at h1
    exact (lexlt_irr h1).elim
def ws : Nat → List Nat → Nat
  | _, [] => 0
  | i, c :: l => i * c + ws (i + 1) l
theorem ws_set : ∀ (l : List Nat) (i d : Nat), d < l.length → ws i (l.set d (l.getD d 0 + 1)) = ws i l + (i + d)
  | [], _, _, h => by simp at h
  | c :: l, i, 0, _ => by
    simp only [List.set_cons_zero, List.getD_cons_zero, ws, Nat.mul_add]
    omega
  | c :: l, i, d + 1, h => by
    have := ws_set l (i + 1) d (by simpa using h)
    simp only [List.set_cons_succ, List.getD_cons_succ, ws, this]
    omega
theorem ws_rep : ∀ (n i : Nat), ws i (List.replicate n 0) = 0
  | 0, _ => rfl
  | n + 1, i => by rw [List.replicate_succ, ws, ws_rep n]; simp
theorem ws_fold (n : Nat) : ∀ (post acc : List Nat), acc.length = n → (∀ x ∈ post, x < n) → ws 0 (post.foldl (stepN n) acc) = ws 0 acc + lsum post
  | [], acc, _, _ => by simp [lsum]
  | d :: post, acc, ha, h => by
    have hd := h d (by simp)
    have e : stepN n acc d = acc.set d (acc.getD d 0 + 1) := by rw [stepN, if_pos hd]
    rw [List.foldl_cons, ws_fold n post _ (by rw [stepN_length, ha]) (fun x hx => h x (by simp [hx])), e, ws_set acc 0 d (by omega)]
    simp only [lsum]
    omega
theorem ws_tn {l : List Nat} (h : ∀ x ∈ l, x < l.length) : ws 0 (tn l) = lsum l := by
  unfold tn
  rw [ws_fold _ _ _ (by simp) h, ws_rep]
  omega
def gw : Nat → Nat → Nat → List (List Nat)
  | 0, _, s => if s = 0 then [[]] else []
  | m + 1, i, s => (List.range (s / i + 1)).flatMap fun c => (gw m (i + 1) (s - i * c)).map (c :: ·)
theorem gw_mem : ∀ (l : List Nat) (i s : Nat), 1 ≤ i → ws i l = s → l ∈ gw l.length i s
  | [], i, s, _, h => by
    simp only [ws] at h
    subst h
    simp [gw]
  | c :: l, i, s, hi, h => by
    simp only [ws] at h
    have h1 := gw_mem l (i + 1) (s - i * c) (by omega) (by omega)
    have h2 : c ≤ s / i := (Nat.le_div_iff_mul_le (by omega)).2 (by rw [Nat.mul_comm]; omega)
    simp only [List.length_cons, gw]
    exact List.mem_flatMap.2 ⟨c, List.mem_range.2 (by omega), List.mem_map.2 ⟨l, h1, rfl⟩⟩
def dueN (n : Nat) : List Nat := ((((List.replicate n 0).set 0 (n - 4)).set 1 2).set 2 1).set (n - 4) 1
def okU (n : Nat) : Bool := (gw (n - 1) 1 n).all fun t => !(decide (tn ((n - lsum t) :: t) = (n - lsum t) :: t)) || decide ((n - lsum t) :: t = dueN n)
theorem okU7 : okU 7 = true := by kernel_rfl
theorem okU8 : okU 8 = true := by kernel_rfl
theorem okU9 : okU 9 = true := by kernel_rfl
theorem okU10 : okU 10 = true := by kernel_rfl
theorem okU_all {n : Nat} (h7 : 7 ≤ n) (h10 : n ≤ 10) : okU n = true := by
  have : n = 7 ∨ n = 8 ∨ n = 9 ∨ n = 10 := by omega
  rcases this with rfl | rfl | rfl | rfl
  · exact okU7
  · exact okU8
  · exact okU9
  · exact okU10
theorem due_ok {n : Nat} (h7 : 7 ≤ n) (h10 : n ≤ 10) : (dueN n).length = n ∧ lsum (dueN n) = n ∧ tn (dueN n) = dueN n := by
  have : n = 7 ∨ n = 8 ∨ n = 9 ∨ n = 10 := by omega
  rcases this with rfl | rfl | rfl | rfl
  · exact ⟨by kernel_rfl, by kernel_rfl, by kernel_rfl⟩
  · exact ⟨by kernel_rfl, by kernel_rfl, by kernel_rfl⟩
  · exact ⟨by kernel_rfl, by kernel_rfl, by kernel_rfl⟩
  · exact ⟨by kernel_rfl, by kernel_rfl, by kernel_rfl⟩
theorem due_is {n : Nat} (h7 : 7 ≤ n) (h10 : n ≤ 10) {x : List Nat} (hl : x.length = n) (hs : lsum x = n) (ht : tn x = x) : x = dueN n := by
  have hlt : ∀ y ∈ x, y < x.length := by
    have h1 := tn_sum x
    rw [ht, hs, ← hl] at h1
    intro y hy
    have := List.countP_eq_length.1 h1.symm y hy
    simpa using this
  have hw := ws_tn hlt
  rw [ht, hs] at hw
  cases x with
  | nil => simp at hl; omega
  | cons c t =>
    simp only [ws, Nat.zero_mul, Nat.zero_add] at hw
    simp only [lsum] at hs
    simp only [List.length_cons] at hl
    have hm := gw_mem t 1 n (by omega) hw
    rw [show t.length = n - 1 by omega] at hm
    have hu := List.all_eq_true.1 (okU_all h7 h10) t hm
    have hc : n - lsum t = c := by omega
    rw [hc, ht] at hu
    simpa using hu
theorem tlN_due {n : Nat} (h7 : 7 ≤ n) (h10 : n ≤ 10) : tlN n [] n = [dueN n] := by
  obtain ⟨d1, d2, d3⟩ := due_ok h7 h10
  refine one_alone (tlN_sorted _ _ _) (fun x hx => ?_) ?_
  · obtain ⟨s, hxs, h1, h2, h3⟩ := tlN_mem _ _ _ _ hx
    rw [List.nil_append] at hxs
    subst hxs
    exact due_is h7 h10 h1 h2 h3
  · simpa using tlN_in n [] n (dueN n) d1 d2 (by simpa using d3)
theorem tlN_rows {n : Nat} {x : List Nat} (hx : x ∈ tlN n [] n) : x.length = n ∧ lsum x = n ∧ tn x = x := by
  obtain ⟨s, rfl, h1, h2, h3⟩ := tlN_mem _ _ _ _ hx
  exact ⟨by simpa using h1, by simpa using h2, h3⟩
theorem tlN_length {n : Nat} (h10 : n ≤ 10) : (tlN n [] n).length ≤ 1771561 := by
  by_cases h7 : 7 ≤ n
  · rw [tlN_due h7 h10]; simp
  · have h1 := tl_length n [] n h10
    rw [tl_tlN n [] n (by simp; omega), List.length_map] at h1
    have h2 : 11 ^ n ≤ 11 ^ 6 := Nat.pow_le_pow_right (by omega) (by omega)
    have h3 : (11 : Nat) ^ 6 = 1771561 := by decide
    omega
/-! The law's own questions. -/
theorem qless_loop (a b : Nat) (s t : List Nat) (hab : a < b) (hs : s.length ≤ 1000) : ∀ (p2 p1 : List Nat), p1.length + p2.length ≤ 1000 →
    Ev (fun k => laws_qLess.l0 k (ic (p1 ++ (p2 ++ a :: s))) (ic (p1 ++ (p2 ++ b :: t))) ((ic (p1 ++ (p2 ++ a :: s))).length : Int) (p1.length : Int)) true := by
  intro p2
  induction p2 with
  | nil =>
    intro p1 h
    refine evs (fun k => by rw [laws_qLess.l0]) ?_
    rw [List.nil_append, List.nil_append, ic_rd, ic_rd]
    have e1 : (ic (p1 ++ a :: s)).length = p1.length + (s.length + 1) := by simp [ic_length]
    have e2 : (ic (p1 ++ b :: t)).length = p1.length + (t.length + 1) := by simp [ic_length]
    rw [e1, e2]
    exact evp (by omega) (evp (by omega) (evp (by omega) (evp (by omega) (evn (by omega) (evr (by simp; omega))))))
  | cons c p2 ih =>
    intro p1 h
    simp only [List.length_cons] at h
    have h2 := ih (p1 ++ [c]) (by simp; omega)
    refine evs (fun k => by rw [laws_qLess.l0]) ?_
    rw [List.cons_append, List.cons_append, ic_rd, ic_rd]
    have e1 : (ic (p1 ++ c :: (p2 ++ a :: s))).length = p1.length + (p2.length + (s.length + 1) + 1) := by simp [ic_length]
    have e2 : (ic (p1 ++ c :: (p2 ++ b :: t))).length = p1.length + (p2.length + (t.length + 1) + 1) := by simp [ic_length]
    rw [show (p1 ++ [c]) ++ (p2 ++ a :: s) = p1 ++ c :: (p2 ++ a :: s) by simp, show (p1 ++ [c]) ++ (p2 ++ b :: t) = p1 ++ c :: (p2 ++ b :: t) by simp, show (((p1 ++ [c]).length : Nat) : Int) = (p1.length : Int) + 1 by simp, e1] at h2
    rw [e1, e2, w64 (x := (p1.length : Int) + 1) (by omega) (by omega)]
    exact evp (by omega) (evp (by omega) (evp (by omega) (evp (by omega) (evp rfl h2))))
theorem qless_ev {x y : List Nat} (h : lexlt x y) (hx : x.length ≤ 1000) : Ev (fun k => laws_qLess.f k (ic x) (ic y)) true := by
  obtain ⟨p, a, b, s, t, rfl, rfl, hab⟩ := h
  simp only [List.length_append, List.length_cons] at hx
  simpa [laws_qLess.f] using qless_loop a b s t hab (by omega) p [] (by simp; omega)
theorem rdL2_mid (pre post : List (List Int)) (x : List Int) : rd_L2 (pre ++ x :: post) (pre.length : Int) = x := by simp [rd_L2]
theorem sameRows_loop (whole : List (List Int)) (hr : ∀ x ∈ whole, x.length ≤ 1000000) (post : List (List Int)) : ∀ pre : List (List Int), whole = pre ++ post → whole.length ≤ 1000000000 →
    Ev (fun k => laws_qSameRows.l0 k whole whole (whole.length : Int) (pre.length : Int)) true := by
  induction post with
  | nil =>
    intro pre hw h
    refine evs (fun k => by rw [laws_qSameRows.l0]) ?_
    exact evn (by simp [hw]) (Ev.now _)
  | cons x post ih =>
    intro pre hw h
    have hl : whole.length = pre.length + (post.length + 1) := by simp [hw]
    have hx : rd_L2 whole (pre.length : Int) = x := by rw [hw]; exact rdL2_mid pre post x
    have h2 := ih (pre ++ [x]) (by simp [hw]) h
    have hxl := hr x (by rw [hw]; simp)
    refine evs (fun k => by rw [laws_qSameRows.l0]) ?_
    rw [hx, w64 (x := (pre.length : Int) + 1) (by omega) (by omega)]
    refine evp (by omega) (evp (by omega) (evp (by omega) (evp (by omega) (evb (laws_qSame_self _ (by omega)) (evp rfl ?_)))))
    simpa using h2
theorem sameRows_self (rows : List (List Int)) (hr : ∀ x ∈ rows, x.length ≤ 1000000) (h : rows.length ≤ 1000000000) : Ev (fun k => laws_qSameRows.f k rows rows) true := by
  unfold laws_qSameRows.f
  exact evp rfl (by simpa using sameRows_loop rows hr rows [] rfl h)
def istR (l : List Int) : Bool × Bool := if 1 ≤ (l.length : Int) ∧ (l.length : Int) ≤ 12 then (decide (tellC l = l), true) else (false, false)
def tcR (l : List Int) : List Int × Bool := if 1 ≤ (l.length : Int) ∧ (l.length : Int) ≤ 12 then (tellC l, true) else ([], false)
theorem istR_ev (l : List Int) : Ev (fun k => spec_IsSelfTelling.f k l) (istR l) ∧ Ev (fun k => impl_IsSelfTelling.f k l) (istR l) := by
  simp only [spec_IsSelfTelling.f, impl_IsSelfTelling.f, spec_l1In_eq, impl_in_eq, Option.bind_some, decide_eq_true_eq]
  unfold istR
  by_cases h1 : 1 ≤ (l.length : Int) ∧ (l.length : Int) ≤ 12
  · have ht := tellC_length l
    rw [if_pos h1]
    exact ⟨evp h1 (evb (teCounts_ev l (by omega)) (evb (spec_l1Same_ev _ l (by omega)) (Ev.now _))), evp h1 (evb (tellCounts_ev l (by omega)) (evb (slices_Equal_int_int_ev _ l (by omega)) (Ev.now _)))⟩
  · rw [if_neg h1]
    exact ⟨evn h1 (Ev.now _), evn h1 (Ev.now _)⟩
theorem tcR_ev (l : List Int) : Ev (fun k => spec_TellCounts.f k l) (tcR l) ∧ Ev (fun k => impl_TellCounts.f k l) (tcR l) := by
  simp only [spec_TellCounts.f, impl_TellCounts.f, spec_l1In_eq, impl_in_eq, Option.bind_some, decide_eq_true_eq]
  unfold tcR
  by_cases h1 : 1 ≤ (l.length : Int) ∧ (l.length : Int) ≤ 12
  · rw [if_pos h1]
    exact ⟨evp h1 (evb (teCounts_ev l (by omega)) (Ev.now _)), evp h1 (evb (tellCounts_ev l (by omega)) (Ev.now _))⟩
  · rw [if_neg h1]
    exact ⟨evn h1 (Ev.now _), evn h1 (Ev.now _)⟩
theorem drawn_one (l : List Int) (hl : ∀ x ∈ l, 0 ≤ x ∧ x ≤ 255) (p s n : Int) (h0 : 0 ≤ p) (h1 : p ≤ 999999999990) (hn : n ≤ 1000000) : ∃ (v : Bool) (p' s' : Int), spec_l1Cur_one.f l p s n = some (v, p', s') ∧ p ≤ p' ∧ p' ≤ p + 2 := by
  obtain ⟨v1, p1, s1, e1, a1, b1, c1, d1, f1⟩ := pick_ok l hl p s n h0 h1 hn
  refine ⟨v1 == 0, p1, s1, ?_, d1, f1⟩
  unfold spec_l1Cur_one.f
  rw [e1]
  rfl
theorem drawSelf_ok (l : List Int) (hl : ∀ x ∈ l, 0 ≤ x ∧ x ≤ 255) : ∃ v : Int, spec_DrawSelfTelling.f l = some v := by
  unfold spec_DrawSelfTelling.f
  obtain ⟨b, p1, s1, e1, c1, d1⟩ := drawn_one l hl 0 0 12 (by omega) (by omega) (by omega)
  rw [e1]
  simp only [Option.bind_some]
  cases b with
  | true =>
    obtain ⟨v, p2, s2, e2, _⟩ := among_ok l hl p1 s1 [0, 10, 11] (by simp) (by simp) (by omega) (by omega)
    rw [if_pos rfl, e2]
    exact ⟨_, rfl⟩
  | false =>
    obtain ⟨v, p2, s2, e2, _⟩ := pick_ok l hl p1 s1 8 (by omega) (by omega) (by omega)
    rw [if_neg (by simp), e2]
    exact ⟨_, rfl⟩
theorem drawIs_loop (l : List Int) (hl : ∀ x ∈ l, 0 ≤ x ∧ x ≤ 255) (d : Nat) : ∀ (L : List Int) (p s : Int), 0 ≤ p → p + 4 * (d : Int) ≤ 1000000 → L.length + d ≤ 100 → ∃ R : List Int, Ev (fun k => spec_DrawIsSelfTelling.l0 k L (d : Int) l p s) R ∧ R.length ≤ 100 := by
  induction d with
  | zero =>
    intro L p s h0 h1 hL
    refine ⟨L, evs (fun k => by rw [spec_DrawIsSelfTelling.l0]) ?_, by omega⟩
    exact evn (by omega) (Ev.now _)
  | succ d ih =>
    intro L p s h0 h1 hL
    obtain ⟨v1, p1, s1, e1, a1, b1, c1, d1, f1⟩ := pick_ok l hl p s 5 h0 (by omega) (by omega)
    obtain ⟨v2, p2, s2, e2, a2, b2, c2, d2, f2⟩ := pick_ok l hl p1 s1 9 (by omega) (by omega) (by omega)
    obtain ⟨R, e3, h3⟩ := ih (L ++ [wrap64 (v1 - wrap64 (Int.tdiv v2 8))]) p2 s2 (by omega) (by omega) (by simp; omega)
    refine ⟨R, evs (fun k => by rw [spec_DrawIsSelfTelling.l0]) ?_, h3⟩
    rw [e1, w64 (x := ((d + 1 : Nat) : Int) - 1) (by omega) (by omega), show ((d + 1 : Nat) : Int) - 1 = (d : Int) by omega]
    simp only [Option.bind_some, e2]
    exact evp (by omega) (evp (by omega) e3)
theorem drawIs_rows (n : Nat) (h : n = 4 ∨ n = 5 ∨ n = 7) : 0 < (tl n [] n).length ∧ (tl n [] n).length ≤ 1000000 := by
  have hm := tl_length n [] n (by omega)
  rcases h with rfl | rfl | rfl
  · have hin := tlN_in 4 [] 4 [1, 2, 1, 0] rfl rfl (by kernel_rfl)
    have := List.length_pos_of_mem hin
    rw [tl_tlN 4 [] 4 (by simp), List.length_map] at hm ⊢
    omega
  · have hin := tlN_in 5 [] 5 [2, 1, 2, 0, 0] rfl rfl (by kernel_rfl)
    have := List.length_pos_of_mem hin
    rw [tl_tlN 5 [] 5 (by simp), List.length_map] at hm ⊢
    omega
  · rw [tl_tlN 7 [] 7 (by simp), tlN_due (by omega) (by omega)]
    simp
theorem drawIs_ok (l : List Int) (hl : ∀ x ∈ l, 0 ≤ x ∧ x ≤ 255) : ∃ R : List Int, Ev (fun k => spec_DrawIsSelfTelling.f k l) R ∧ R.length ≤ 100 := by
  obtain ⟨b, p1, s1, e1, c1, d1⟩ := drawn_one l hl 0 0 2 (by omega) (by omega) (by omega)
  unfold spec_DrawIsSelfTelling.f
  rw [e1]
  simp only [Option.bind_some]
  cases b with
  | true =>
    obtain ⟨v, p2, s2, e2, hv, c2, d2⟩ := among_ok l hl p1 s1 [4, 5, 7] (by simp) (by simp) (by omega) (by omega)
    rw [e2]
    simp only [Option.bind_some]
    obtain ⟨n, rfl, hn⟩ : ∃ n : Nat, v = (n : Int) ∧ (n = 4 ∨ n = 5 ∨ n = 7) := by
      simp only [List.mem_cons, List.not_mem_nil, or_false] at hv
      exact ⟨v.toNat, by omega, by omega⟩
    obtain ⟨r1, r2⟩ := drawIs_rows n hn
    have hse := self_ev n (by omega) n [] n (by simp) (by simp [lsum]) (by simp)
    rw [ic_nil] at hse
    obtain ⟨q, p3, s3, e3, a3, b3, c3, d3, f3⟩ := pick_ok l hl p2 s2 ((tl n [] n).length : Int) (by omega) (by omega) (by omega)
    have hq : q < ((tl n [] n).length : Int) := by rcases c3 with rfl | h <;> omega
    refine ⟨rd_L2 (tl n [] n) q, evp trivial (evb hse ?_), ?_⟩
    · rw [e3]
      simp only [Option.bind_some]
      exact evp a3 (evp hq (Ev.now _))
    · have hmem : rd_L2 (tl n [] n) q ∈ tl n [] n := by
        have hqn : q.toNat < (tl n [] n).length := by omega
        simp only [rd_L2, List.getD_eq_getElem?_getD, List.getElem?_eq_getElem hqn, Option.getD_some]
        exact List.getElem_mem hqn
      have := (tl_all n n [] n (by simp) _ hmem).1
      omega
  | false =>
    obtain ⟨v, p2, s2, e2, a2, b2, c2, d2, f2⟩ := pick_ok l hl p1 s1 14 (by omega) (by omega) (by omega)
    obtain ⟨n, rfl⟩ : ∃ n : Nat, v = (n : Int) := ⟨v.toNat, by omega⟩
    obtain ⟨R, e3, h3⟩ := drawIs_loop l hl n [] p2 s2 (by omega) (by omega) (by simp; omega)
    rw [e2]
    simp only [Option.bind_some]
    exact ⟨R, evn (by simp) e3, h3⟩

theorem last_part (l1 : List Int) (hl1 : ∀ x ∈ l1, 0 ≤ x ∧ x ≤ 255) : Ev (fun k => laws_FnSelfTellingLists.j3 k l1) true := by
  obtain ⟨R, e1, h1⟩ := drawIs_ok l1 hl1
  obtain ⟨a1, a2⟩ := istR_ev R
  obtain ⟨a3, a4⟩ := tcR_ev R
  refine evs (fun k => by rw [laws_FnSelfTellingLists.j3]) ?_
  refine evb e1 (evb a2 (evb a1 (evb a4 (evb a3 ?_))))
  by_cases h : 1 ≤ (R.length : Int) ∧ (R.length : Int) ≤ 12
  · have hi : istR R = (decide (tellC R = R), true) := by unfold istR; rw [if_pos h]
    have ht : tcR R = (tellC R, true) := by unfold tcR; rw [if_pos h]
    have hl := tellC_length R
    rw [hi, ht]
    exact evp (by simp) (evp (by simp) (evp (by simp) (evb (laws_qSame_self _ (by simp only; omega)) (evp rfl (evp (by simp) (evp rfl (evb (laws_qSame_ev _ _ (by simp only; omega)) (evr (by simp)))))))))
  · have hi : istR R = (false, false) := by unfold istR; rw [if_neg h]
    have ht : tcR R = ([], false) := by unfold tcR; rw [if_neg h]
    rw [hi, ht]
    exact evp (by simp) (evp (by simp) (evp (by simp) (evb (laws_qSame_self _ (by simp)) (evp rfl (evp (by simp) (evn (by simp) (evr rfl)))))))
theorem rows_part (l1 : List Int) (n : Nat) (hn : 1 ≤ n) (hn2 : n ≤ 10) (N : List (List Nat)) (hN : ∀ x ∈ N, x.length = n ∧ lsum x = n ∧ tn x = x) (hs : N.Pairwise lexlt) (hlen : N.length ≤ 1000000000) (b : Bool)
    (hend : Ev (fun k => if b = true then laws_FnSelfTellingLists.j2 k l1 (n : Int) (N.map ic) (decide ((n : Int) ≥ 7)) else laws_FnSelfTellingLists.j2 k l1 (n : Int) (N.map ic) false) true) (post : List (List Nat)) : ∀ pre : List (List Nat), N = pre ++ post →
    Ev (fun k => laws_FnSelfTellingLists.l0 k l1 (n : Int) (N.map ic) b (N.map ic) ((N.map ic).length : Int) (pre.length : Int)) true := by
  induction post with
  | nil =>
    intro pre hw
    refine evs (fun k => by rw [laws_FnSelfTellingLists.l0]) ?_
    exact evn (by simp [hw]) hend
  | cons x post ih =>
    intro pre hw
    have hl : (N.map ic).length = pre.length + (post.length + 1) := by simp [hw]
    have hNl : N.length = pre.length + (post.length + 1) := by simp [hw]
    have hmap : N.map ic = pre.map ic ++ ic x :: post.map ic := by simp [hw]
    have hx : rd_L2 (N.map ic) (pre.length : Int) = ic x := by
      have := rdL2_mid (pre.map ic) (post.map ic) (ic x)
      rw [List.length_map] at this
      rw [hmap]
      exact this
    have h2 := ih (pre ++ [x]) (by simp [hw])
    rw [show (((pre ++ [x]).length : Nat) : Int) = (pre.length : Int) + 1 by simp] at h2
    obtain ⟨x1, x2, x3⟩ := hN x (by rw [hw]; simp)
    have hil : (ic x).length = n := by rw [ic_length, x1]
    have htc : tellC (ic x) = ic x := by rw [tellC_ic x (by omega), x3]
    have hi : istR (ic x) = (true, true) := by unfold istR; rw [if_pos (by omega), htc]; simp
    have ht : tcR (ic x) = (ic x, true) := by unfold tcR; rw [if_pos (by omega), htc]
    have e1 := (istR_ev (ic x)).2
    have e2 := (tcR_ev (ic x)).2
    rw [hi] at e1
    rw [ht] at e2
    have e3 : Ev (fun k => laws_qSum.f k (ic x)) ((n : Nat) : Int) := by
      have := laws_qSum_all x (by omega) (by omega)
      rw [x2] at this
      exact this
    refine evs (fun k => by rw [laws_FnSelfTellingLists.l0]) ?_
    rw [hx, w64 (x := (pre.length : Int) + 1) (by omega) (by omega)]
    refine evp (by omega) (evp (by omega) (evp (by omega) (evb e1 (evb e2 (evp rfl (evp rfl (evp rfl (evb (laws_qSame_self _ (by simp only; omega)) (evp rfl (evp (by omega) (evb e3 (evp rfl ?_))))))))))))
    by_cases hp : pre = []
    · subst hp
      exact evn (by simp) h2
    · obtain ⟨pre', y, rfl⟩ : ∃ pre' y, pre = pre' ++ [y] := ⟨pre.dropLast, pre.getLast hp, (List.dropLast_concat_getLast hp).symm⟩
      have hy : rd_L2 (N.map ic) (pre'.length : Int) = ic y := by
        have := rdL2_mid (pre'.map ic) (ic x :: post.map ic) (ic y)
        rw [List.length_map] at this
        rw [hmap]
        simpa using this
      have hlt : lexlt y x := by
        rw [hw, List.append_assoc] at hs
        have h5 : (y :: x :: post).Pairwise lexlt := (List.pairwise_append.1 hs).2.1
        exact (List.pairwise_cons.1 h5).1 x (by simp)
      obtain ⟨y1, _, _⟩ := hN y (by rw [hw]; simp)
      have ep : (((pre' ++ [y]).length : Nat) : Int) = (pre'.length : Int) + 1 := by simp
      simp only [List.length_append, List.length_singleton] at hl hNl
      rw [ep, w64 (x := (pre'.length : Int) + 1 - 1) (by omega) (by omega), show (pre'.length : Int) + 1 - 1 = (pre'.length : Int) by omega, hy]
      rw [ep] at h2
      exact evp (by omega) (evp (by omega) (evp (by omega) (evb (qless_ev hlt (by omega)) (evp rfl h2))))
theorem due_part (l1 : List Int) (hl1 : ∀ x ∈ l1, 0 ≤ x ∧ x ≤ 255) (n : Nat) (h7 : 7 ≤ n) (h10 : n ≤ 10) : Ev (fun k => laws_FnSelfTellingLists.j2 k l1 (n : Int) ([dueN n].map ic) true) true := by
  have hlast := last_part l1 hl1
  have hdl := (due_ok h7 h10).1
  have hd : ((((List.replicate n (0 : Int)).set (0 : Int).toNat ((n : Int) - 4)).set (1 : Int).toNat 2).set (2 : Int).toNat 1).set ((n : Int) - 4).toNat 1 = ic (dueN n) := by
    have : n = 7 ∨ n = 8 ∨ n = 9 ∨ n = 10 := by omega
    rcases this with rfl | rfl | rfl | rfl <;> rfl
  refine evs (fun k => by rw [laws_FnSelfTellingLists.j2]) ?_
  refine evp rfl (evp (by omega) (evp (by omega) ?_))
  simp only [Option.bind_some, List.length_replicate, Int.toNat_natCast]
  rw [w64 (x := (n : Int) - 4) (by omega) (by omega), hd]
  refine evp (by omega) (evp (by omega) (evp (by omega) (evp (by omega) (evp (by omega) (evp (by simp) (evp (by simp) ?_))))))
  rw [show rd_L2 ([dueN n].map ic) 0 = ic (dueN n) from rfl]
  exact evb (laws_qSame_self _ (by rw [ic_length]; omega)) (evp rfl hlast)
theorem FnSelfTellingLists : laws_FnSelfTellingLists.Pure := by
  intro l0 l1 _ _ w0 _ _ w1
  have hb : ∀ l : List Int, (∀ x ∈ l, (Lit.int .u8 x).wf = true) → ∀ x ∈ l, 0 ≤ x ∧ x ≤ 255 := by
    intro l h x hx
    have := h x hx
    simpa [Lit.wf, IntKind.min, IntKind.max, IntKind.signed, IntKind.bits] using this
  have hl0 := hb l0 w0
  have hl1 := hb l1 w1
  refine Ev.rounds (g := fun k => laws_FnSelfTellingLists.f k l0 l1) ?_
  unfold laws_FnSelfTellingLists.f
  obtain ⟨t, ht⟩ : ∃ t, laws_big.f l0 l1 = some t := by
    unfold laws_big.f
    split <;> exact ⟨_, rfl⟩
  rw [ht]
  simp only [Option.bind_some]
  cases t with
  | true => exact evp rfl (Ev.now _)
  | false =>
    refine evn (by simp) ?_
    obtain ⟨a, ha⟩ := drawSelf_ok l0 hl0
    rw [ha]
    simp only [Option.bind_some]
    have hlast := last_part l1 hl1
    have hno : ∀ (x : Int) (R : List (List Int)), Ev (fun k => laws_FnSelfTellingLists.j2 k l1 x R false) true := fun x R => evs (fun k => by rw [laws_FnSelfTellingLists.j2]) (evn (by simp) hlast)
    by_cases h : 1 ≤ a ∧ a ≤ 10
    · obtain ⟨n, rfl⟩ : ∃ n : Nat, a = (n : Int) := ⟨a.toNat, by omega⟩
      have hmap := tl_tlN n [] n (by simp; omega)
      have hlen := tlN_length (n := n) (by omega)
      have hspec : Ev (fun k => spec_SelfTelling.f k (n : Int)) ((tlN n [] n).map ic, true) := by
        simp only [spec_SelfTelling.f, spec_l1In_eq, Option.bind_some, decide_eq_true_eq]
        have := self_ev n (by omega) n [] n (by simp) (by simp [lsum]) (by simp)
        rw [hmap, ic_nil] at this
        exact evp h (evb this (Ev.now _))
      have himpl : Ev (fun k => impl_SelfTelling.f k (n : Int)) ((tlN n [] n).map ic, true) := by
        have hp : 11 ^ n ≤ 11 ^ 10 := Nat.pow_le_pow_right (by omega) (by omega)
        have hq : (11 : Nat) ^ 10 = 25937424601 := by decide
        have := on_ev n (by omega) n [] n [] (by simp) (by omega) (by simp; omega)
        rw [hmap, ic_nil, List.nil_append] at this
        unfold impl_SelfTelling.f
        exact evp h.1 (evp h.2 (evb this (Ev.now _)))
      refine evb himpl (evb hspec (evn (by simp) (evb (sameRows_self _ (fun x hx => ?_) (by rw [List.length_map]; omega)) ?_)))
      · obtain ⟨y, hy, rfl⟩ := List.mem_map.1 hx
        have := (tlN_rows hy).1
        rw [ic_length]
        omega
      · refine evs (fun k => by rw [laws_FnSelfTellingLists.j0]) ?_
        refine evn (by simp) ?_
        refine rows_part l1 n (by omega) (by omega) (tlN n [] n) (fun x hx => tlN_rows hx) (tlN_sorted _ _ _) (by omega) true (evp rfl ?_) (tlN n [] n) [] rfl
        by_cases h7 : 7 ≤ n
        · rw [tlN_due h7 (by omega), show decide ((n : Int) ≥ 7) = true from decide_eq_true (by omega)]
          exact due_part l1 hl1 n h7 (by omega)
        · rw [show decide ((n : Int) ≥ 7) = false from decide_eq_false (by omega)]
          exact hno _ _
    · have hspec : Ev (fun k => spec_SelfTelling.f k a) ([], false) := by
        simp only [spec_SelfTelling.f, spec_l1In_eq, Option.bind_some, decide_eq_true_eq]
        exact evn h (evr rfl)
      have himpl : Ev (fun k => impl_SelfTelling.f k a) ([], false) := by
        unfold impl_SelfTelling.f
        by_cases h1 : 1 ≤ a
        · exact evp h1 (evn (fun h2 => h ⟨h1, h2⟩) (evr rfl))
        · exact evn h1 (evr rfl)
      refine evb himpl (evb hspec (evn (by simp) (evb (sameRows_self _ (by simp) (by simp)) ?_)))
      refine evs (fun k => by rw [laws_FnSelfTellingLists.j0]) ?_
      refine evn (by simp) (evs (fun k => by rw [laws_FnSelfTellingLists.l0]) (evn (by simp) (evn (by simp) (hno _ _))))

end Go.Proofs.Ytiedpgebceeplaa.Pure
