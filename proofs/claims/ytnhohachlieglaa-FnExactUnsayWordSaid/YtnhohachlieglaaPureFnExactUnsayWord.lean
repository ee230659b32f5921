/- For every list of at most 2^20 numbers, UnsayWord of the program and of the reference agree, the list is not changed, and what the program returns is memory of its own. -/
import Derived.Test.YtnhohachlieglaaPFnExactUnsayWordx5
import Derived.Test.YtnhohachlieglaaWMore
set_option linter.unusedVariables false
set_option linter.unusedSimpArgs false
namespace Go.Proofs.Ytnhohachlieglaa.Pure
open Go.RowKit Go.Proofs.Ytnhohachlieglaa.PFnExactUnsayWord Go.Proofs.YtnhohachlieglaaW.PrintWords Go.Proofs.YtnhohachlieglaaW.PrintLast

theorem w64 {x : Int} (h1 : -9223372036854775808 ≤ x) (h2 : x ≤ 9223372036854775807) : wrap64 x = x := by unfold wrap64; omega

theorem w64n (n : Nat) (h : n ≤ 9223372036854775807) : wrap64 (n : Int) = (n : Int) := w64 (by omega) (by omega)

theorem evp {α : Type} {c : Prop} [Decidable c] {a b : Nat → Option α} {r : α} (h : c) (k : Ev a r) : Ev (fun n => if c then a n else b n) r := Ev.congr (fun _ => if_pos h) k
theorem evn {α : Type} {c : Prop} [Decidable c] {a b : Nat → Option α} {r : α} (h : ¬ c) (k : Ev b r) : Ev (fun n => if c then a n else b n) r := Ev.congr (fun _ => if_neg h) k
theorem evr {α : Type} {x r : α} (h : x = r) : Ev (fun _ => some x) r := h ▸ Ev.now x
theorem evb {α β : Type} {g : Nat → Option α} {f : Nat → α → Option β} {a : α} {r : β} (h : Ev g a) (k : Ev (fun n => f n a) r) : Ev (fun n => (g n).bind fun x => f n x) r := Ev.bind h k
theorem evs {α : Type} {g f : Nat → Option α} {r : α} (h : ∀ k, g (k + 1) = f k) (k : Ev f r) : Ev g r := Ev.step h k
theorem evu {α : Type} {g : Nat → Option α} {r s : α} (h : Ev g r) (k : Ev g s) : r = s := by
  obtain ⟨K, h⟩ := h
  obtain ⟨L, k⟩ := k
  have := (h (K + L) (by omega)).symm.trans (k (K + L) (by omega))
  injection this

theorem rd_mid (pre post : List Int) (x : Int) : rd (pre ++ x :: post) (pre.length : Int) = x := by simp [rd]
theorem rd_mid' (pre post : List Int) (x i : Int) (h : i = pre.length) : rd (pre ++ x :: post) i = x := by subst h; exact rd_mid pre post x
theorem set_mid {α : Type} (pre post : List α) (x y : α) : (pre ++ x :: post).set pre.length y = pre ++ y :: post := by simp
theorem set_midI {α : Type} (pre post : List α) (x y : α) (i : Int) (h : i = pre.length) : (pre ++ x :: post).set i.toNat y = pre ++ y :: post := by subst h; simp
theorem rd_nat (xs : List Int) (i : Nat) : rd xs (i : Int) = xs.getD i 0 := by simp [rd]
theorem rd_get (xs : List Int) (i : Nat) (h : i < xs.length) : rd xs (i : Int) = xs[i] := by simp [rd, h]
theorem rd_mem (xs : List Int) (i : Int) (h0 : 0 ≤ i) (h : i < xs.length) : rd xs i ∈ xs := by
  have hi : i.toNat < xs.length := by omega
  simp only [rd, List.getD_eq_getElem?_getD, List.getElem?_eq_getElem hi, Option.getD_some]
  exact List.getElem_mem hi
/-- m, m + 1, .. -/
def iota (m : Int) : Nat → List Int
  | 0 => []
  | n + 1 => m :: iota (m + 1) n
theorem iota_length (m : Int) (n : Nat) : (iota m n).length = n := by induction n generalizing m with
  | zero => rfl
  | succ n ih => simp [iota, ih]
/-- A list is cut in two. -/
theorem cut_at {α : Type} (xs : List α) (i : Nat) (h : i < xs.length) : ∃ pre x post, xs = pre ++ x :: post ∧ pre.length = i := by
  refine ⟨xs.take i, xs[i], xs.drop (i + 1), ?_, by simp; omega⟩
  simp
theorem wf64 {x : Int} (h : (Lit.int .i64 x).wf = true) : -9223372036854775808 ≤ x ∧ x ≤ 9223372036854775807 := by
  have h2 : (decide (IntKind.i64.min ≤ x) && decide (x ≤ IntKind.i64.max)) = true := h
  rw [show IntKind.i64.min = -9223372036854775808 from rfl, show IntKind.i64.max = 9223372036854775807 from rfl] at h2
  simpa using h2

theorem impl_in_eq (a b c : Int) : impl_in.f a b c = some (decide (b ≤ a ∧ a ≤ c)) := by
  unfold impl_in.f
  by_cases h : b ≤ a <;> simp [h]
theorem spec_l1In_eq (a b c : Int) : spec_l1In.f a b c = some (decide (b ≤ a ∧ a ≤ c)) := by
  unfold spec_l1In.f
  by_cases h : b ≤ a <;> simp [h]

theorem l1All_loop (lo hi : Int) (whole : List Int) (post : List Int) : ∀ pre : List Int, whole = pre ++ post → whole.length ≤ 4611686018427387904 →
    Ev (fun k => spec_l1All.l0 k lo hi whole (whole.length : Int) (pre.length : Int)) (post.all fun x => decide (lo ≤ x ∧ x ≤ hi)) := by
  induction post with
  | nil =>
    intro pre hw h
    refine evs (fun k => by rw [spec_l1All.l0]) ?_
    exact evn (by simp [hw]) (evr (by simp))
  | cons y post ih =>
    intro pre hw h
    have hl : whole.length = pre.length + (post.length + 1) := by simp [hw]
    have hx : rd whole (pre.length : Int) = y := by rw [hw, rd_mid]
    refine evs (fun k => by rw [spec_l1All.l0]) ?_
    rw [hx]
    simp only [spec_l1In_eq, Option.bind_some, decide_eq_true_eq]
    refine evp (by omega) (evp (by omega) (evp (by omega) ?_))
    by_cases he : lo ≤ y ∧ y ≤ hi
    · refine evp he ?_
      have h2 := ih (pre ++ [y]) (by simp [hw]) h
      rw [w64 (by omega) (by omega)]
      have e : ((y :: post).all fun x => decide (lo ≤ x ∧ x ≤ hi)) = (post.all fun x => decide (lo ≤ x ∧ x ≤ hi)) := by
        rw [List.all_cons, decide_eq_true he, Bool.true_and]
      rw [e]
      simpa using h2
    · refine evn he (evr ?_)
      rw [List.all_cons, decide_eq_false he, Bool.false_and]
theorem l1All_ev (l : List Int) (lo hi : Int) (h : l.length ≤ 4611686018427387904) : Ev (fun k => spec_l1All.f k l lo hi) (l.all fun x => decide (lo ≤ x ∧ x ≤ hi)) := by
  unfold spec_l1All.f
  simpa using l1All_loop lo hi l l [] rfl h

def goodC (l : List Int) : Bool := decide (l.length ≤ 400) && l.all fun x => decide (1 ≤ x ∧ x ≤ 9)
theorem teGood_ev (l : List Int) (h : l.length ≤ 4611686018427387904) : Ev (fun k => spec_teGood.f k l) (goodC l) := by
  unfold spec_teGood.f goodC
  by_cases hl : (l.length : Int) ≤ 400
  · refine evp hl (evb (l1All_ev l 1 9 h) (evr ?_))
    rw [decide_eq_true (by omega : l.length ≤ 400), Bool.true_and]
  · refine evn hl (evr ?_)
    rw [decide_eq_false (by omega : ¬ l.length ≤ 400), Bool.false_and]
theorem isSaid_eq (l : List Int) : impl_isSaid.f l = some (goodC l) := by
  unfold impl_isSaid.f impl_areIn.f goodC
  have e : decide ((0 : Int) ≤ (l.length : Int) ∧ (l.length : Int) ≤ 400) = decide (l.length ≤ 400) := by
    by_cases h : l.length ≤ 400
    · rw [decide_eq_true h, decide_eq_true (by omega)]
    · rw [decide_eq_false h, decide_eq_false (by omega)]
  rw [e]
  rfl
theorem goodC_len {l : List Int} (h : goodC l = true) : l.length ≤ 400 := by
  unfold goodC at h
  simp only [Bool.and_eq_true, decide_eq_true_eq] at h
  exact h.1

theorem pigeon (n : Nat) : ∀ f : Nat → Nat, (∀ i, i ≤ n → f i < n) → ∃ i j, i < j ∧ j ≤ n ∧ f i = f j := by
  induction n with
  | zero => intro f h; exact absurd (h 0 (Nat.le_refl _)) (by omega)
  | succ n ih =>
    intro f h
    by_cases hc : ∃ i, i ≤ n ∧ f i = f (n + 1)
    · obtain ⟨i, hi, he⟩ := hc
      exact ⟨i, n + 1, by omega, Nat.le_refl _, he⟩
    · have hv := h (n + 1) (Nat.le_refl _)
      have hne : ∀ i, i ≤ n → f i ≠ f (n + 1) := fun i hi he => hc ⟨i, hi, he⟩
      obtain ⟨i, j, hij, hj, he⟩ := ih (fun i => if f i = n then f (n + 1) else f i) (fun i hi => by
        have h1 := h i (by omega)
        have h2 := hne i hi
        show (if f i = n then f (n + 1) else f i) < n
        split <;> omega)
      refine ⟨i, j, hij, by omega, ?_⟩
      have h1 := hne i (by omega)
      have h2 := hne j hj
      (try simp only at he)
      split at he <;> split at he <;> omega
theorem least_of {P : Nat → Prop} (h : ∃ k, P k) : ∃ k, P k ∧ ∀ j, j < k → ¬ P j := by
  obtain ⟨k, hk⟩ := h
  induction k using Nat.strongRecOn with
  | _ k ih =>
    by_cases hc : ∃ j, j < k ∧ P j
    · obtain ⟨j, hj, hp⟩ := hc
      exact ih j hj hp
    · exact ⟨k, hk, fun j hj hp => hc ⟨j, hj, hp⟩⟩
theorem mod_of_dvd_sub {a n : Nat} (h1 : 1 ≤ a) (h : n ∣ a - 1) : a % n = 1 % n := by
  obtain ⟨q, hq⟩ := h
  have : a = n * q + 1 := by omega
  rw [this, Nat.mul_add_mod]
theorem pow_back (b n : Nat) (hb : 0 < b) (hn : 0 < n) (hc : Nat.Coprime n b) : ∃ k, 1 ≤ k ∧ k ≤ n ∧ b ^ k % n = 1 % n := by
  obtain ⟨i, j, hij, hj, he⟩ := pigeon n (fun i => b ^ i % n) (fun i _ => Nat.mod_lt _ hn)
  refine ⟨j - i, by omega, by omega, mod_of_dvd_sub (Nat.pow_pos hb) ?_⟩
  have h1 := Nat.sub_mod_eq_zero_of_mod_eq he.symm
  have h2 := Nat.dvd_of_mod_eq_zero h1
  have h3 : b ^ j - b ^ i = b ^ i * (b ^ (j - i) - 1) := by
    rw [Nat.mul_sub, ← Nat.pow_add, Nat.mul_one]
    congr 2
    omega
  rw [h3] at h2
  exact Nat.Coprime.dvd_of_dvd_mul_left (Nat.Coprime.pow_right _ hc) h2
theorem tmod_cast (a b : Nat) : Int.tmod (a : Int) (b : Int) = ((a % b : Nat) : Int) := (Int.ofNat_tmod a b).symm
theorem tdiv_cast (a b : Nat) : Int.tdiv (a : Int) (b : Int) = ((a / b : Nat) : Int) := (Int.ofNat_tdiv a b).symm
theorem natOf {a : Int} (h : 0 ≤ a) : ∃ n : Nat, a = (n : Int) := ⟨a.toNat, by omega⟩

theorem unsay_inner (l : List Int) (i : Nat) (y : Int) (v : Nat) (hi : i + 1 < l.length) (hlen : l.length ≤ 400) (hy : rd l ((i + 1 : Nat) : Int) = y) (hv : rd l (i : Int) = (v : Int)) (hv9 : v ≤ 9) (r : List Int × Bool) (c : Nat) :
    ∀ (t : Nat) (out : List Int), t + c = v → out.length + c ≤ 100000 → Ev (fun k => spec_UnsayWord.l0 k l (out ++ List.replicate c y) ((i + 2 : Nat) : Int)) r → Ev (fun k => spec_UnsayWord.l1 k l out (i : Int) (t : Int)) r := by
  have e1 : wrap64 ((i : Int) + 1) = ((i + 1 : Nat) : Int) := by rw [w64 (by omega) (by omega)]; omega
  have e3 : wrap64 ((i : Int) + 2) = ((i + 2 : Nat) : Int) := by rw [w64 (by omega) (by omega)]; omega
  induction c with
  | zero =>
    intro t out ht ho h
    refine evs (fun k => by rw [spec_UnsayWord.l1]) ?_
    rw [hv, e3]
    refine evp (by omega) (evp (by omega) (evn (by omega) ?_))
    simpa using h
  | succ c ih =>
    intro t out ht ho h
    have e4 : wrap64 ((t : Int) + 1) = ((t + 1 : Nat) : Int) := by rw [w64 (by omega) (by omega)]; omega
    refine evs (fun k => by rw [spec_UnsayWord.l1]) ?_
    rw [hv, e1, e4, hy]
    refine evp (by omega) (evp (by omega) (evp (by omega) (evp (by omega) (evp (by omega) (evp (by omega) ?_)))))
    refine ih (t + 1) (out ++ [y]) (by omega) (by simp; omega) ?_
    rw [List.append_assoc, List.singleton_append, ← List.replicate_succ]
    exact h
theorem repeat_one (y : Int) (v : Nat) (h : v ≤ 9) : slices_Repeat_int_int.f [y] (v : Int) = some (List.replicate v y) := by
  unfold slices_Repeat_int_int.f
  rw [if_pos (by rfl), if_pos (by omega), Int.toNat_natCast]
  simp [rd]
theorem unsay_loop (l : List Int) (hlen : l.length ≤ 400) (hg : ∀ x ∈ l, 1 ≤ x ∧ x ≤ 9) (d : Nat) : ∀ (i : Nat) (out : List Int), i + 2 * d = l.length → out.length ≤ 9 * i →
    ∃ r : List Int × Bool, r.1.length ≤ 100000 ∧ Ev (fun k => spec_UnsayWord.l0 k l out (i : Int)) r ∧ Ev (fun k => impl_UnsayWord.l0 k l out (i : Int)) r := by
  induction d with
  | zero =>
    intro i out hi ho
    by_cases h4 : (out.length : Int) > 400
    · refine ⟨([], false), by simp, ?_, ?_⟩
      · refine evs (fun k => by rw [spec_UnsayWord.l0]) ?_
        exact evn (by omega) (evp h4 (Ev.now _))
      · refine evs (fun k => by rw [impl_UnsayWord.l0]) ?_
        exact evn (by omega) (evp h4 (Ev.now _))
    · refine ⟨(out, true), by simp only; omega, ?_, ?_⟩
      · refine evs (fun k => by rw [spec_UnsayWord.l0]) ?_
        exact evn (by omega) (evn h4 (Ev.now _))
      · refine evs (fun k => by rw [impl_UnsayWord.l0]) ?_
        exact evn (by omega) (evn h4 (Ev.now _))
  | succ d ih =>
    intro i out hi ho
    have e1 : wrap64 ((i : Int) + 1) = ((i + 1 : Nat) : Int) := by rw [w64 (by omega) (by omega)]; omega
    have e3 : wrap64 ((i : Int) + 2) = ((i + 2 : Nat) : Int) := by rw [w64 (by omega) (by omega)]; omega
    have hv := hg _ (rd_mem l (i : Int) (by omega) (by omega))
    obtain ⟨v, hv2⟩ := natOf (a := rd l (i : Int)) (by omega)
    obtain ⟨y, hy⟩ : ∃ y, rd l ((i + 1 : Nat) : Int) = y := ⟨_, rfl⟩
    rw [hv2] at hv
    obtain ⟨r, hr, h1, h2⟩ := ih (i + 2) (out ++ List.replicate v y) (by omega) (by simp; omega)
    have h3 := unsay_inner l i y v (by omega) hlen hy hv2 (by omega) r v 0 out (by omega) (by omega) h1
    by_cases h0 : (i : Int) > 0
    · have e2 : wrap64 ((i : Int) - 1) = ((i - 1 : Nat) : Int) := by rw [w64 (by omega) (by omega)]; omega
      by_cases he : y = rd l ((i - 1 : Nat) : Int)
      · refine ⟨([], false), by simp, ?_, ?_⟩
        · refine evs (fun k => by rw [spec_UnsayWord.l0]) ?_
          rw [e1, e2, hy, ← he]
          refine evp (by omega) (evp h0 (evp (by omega) (evp (by omega) (evp (by omega) (evp (by omega) ?_)))))
          refine evs (fun k => by rw [spec_UnsayWord.j2]) ?_
          exact evp (by simp) (Ev.now _)
        · refine evs (fun k => by rw [impl_UnsayWord.l0]) ?_
          rw [e1, e2, hy]
          exact evp (by omega) (evp h0 (evp (by omega) (evp (by omega) (evp (by omega) (evp (by omega) (evp he (Ev.now _)))))))
      · refine ⟨r, hr, ?_, ?_⟩
        · refine evs (fun k => by rw [spec_UnsayWord.l0]) ?_
          rw [e1, e2, hy]
          refine evp (by omega) (evp h0 (evp (by omega) (evp (by omega) (evp (by omega) (evp (by omega) ?_)))))
          refine evs (fun k => by rw [spec_UnsayWord.j2]) ?_
          exact evn (by simpa using he) h3
        · refine evs (fun k => by rw [impl_UnsayWord.l0]) ?_
          rw [e1, e2, e3, hy, hv2, repeat_one y v (by omega)]
          refine evp (by omega) (evp h0 (evp (by omega) (evp (by omega) (evp (by omega) (evp (by omega) (evn he (evp (by omega) ?_)))))))
          exact evp (by simp; omega) h2
    · refine ⟨r, hr, ?_, ?_⟩
      · refine evs (fun k => by rw [spec_UnsayWord.l0]) ?_
        refine evp (by omega) (evn h0 ?_)
        refine evs (fun k => by rw [spec_UnsayWord.j2]) ?_
        exact evn (by simp) h3
      · refine evs (fun k => by rw [impl_UnsayWord.l0]) ?_
        rw [e1, e3, hy, hv2, repeat_one y v (by omega)]
        refine evp (by omega) (evn h0 (evp (by omega) (evp (by omega) (evp (by omega) ?_))))
        exact evp (by simp; omega) h2
theorem unsay_both (l : List Int) (hl : l.length ≤ 1048576) : ∃ r : List Int × Bool, r.1.length ≤ 100000 ∧ Ev (fun k => spec_UnsayWord.f k l) r ∧ Ev (fun k => impl_UnsayWord.f k l) r := by
  have no : Ev (fun k => spec_UnsayWord.j0 k l true) ([], false) ∧ Ev (fun k => impl_UnsayWord.j0 k l true) ([], false) := by
    constructor
    · refine evs (fun k => by rw [spec_UnsayWord.j0]) ?_
      exact evp rfl (Ev.now _)
    · refine evs (fun k => by rw [impl_UnsayWord.j0]) ?_
      exact evp rfl (Ev.now _)
  simp only [spec_UnsayWord.f, impl_UnsayWord.f, isSaid_eq, Option.bind_some]
  by_cases hg : goodC l = true
  · by_cases hp : ((l.length : Int) % 2) = 1
    · have hb : (((l.length : Int) % 2) == 1) = true := by simpa using hp
      rw [hb]
      exact ⟨([], false), by simp, evb (teGood_ev l (by omega)) (evp hg no.1), evp hg no.2⟩
    · have hb : (((l.length : Int) % 2) == 1) = false := by simpa using hp
      rw [hb]
      have hall : ∀ x ∈ l, 1 ≤ x ∧ x ≤ 9 := by
        unfold goodC at hg
        simp only [Bool.and_eq_true, List.all_eq_true, decide_eq_true_eq] at hg
        exact hg.2
      obtain ⟨r, hr, h1, h2⟩ := unsay_loop l (goodC_len hg) hall (l.length / 2) 0 [] (by omega) (by simp)
      refine ⟨r, hr, evb (teGood_ev l (by omega)) (evp hg ?_), evp hg ?_⟩
      · refine evs (fun k => by rw [spec_UnsayWord.j0]) ?_
        exact evn (by simp) h1
      · refine evs (fun k => by rw [impl_UnsayWord.j0]) ?_
        exact evn (by simp) h2
  · exact ⟨([], false), by simp, evb (teGood_ev l (by omega)) (evn hg no.1), evn hg no.2⟩

theorem laws_eqIntS_loop (post : List Int) : ∀ (pre post' : List Int), post'.length = post.length → (pre ++ post).length ≤ 4611686018427387904 →
    Ev (fun k => laws_eqIntS.l0 k (pre ++ post) (pre ++ post') (pre.length : Int)) (decide (post = post')) := by
  induction post with
  | nil =>
    intro pre post' hl h
    obtain rfl : post' = [] := List.eq_nil_of_length_eq_zero hl
    refine evs (fun k => by rw [laws_eqIntS.l0]) ?_
    exact evn (by simp) (evr (by simp))
  | cons x post ih =>
    intro pre post' hl h
    obtain ⟨y, post', rfl⟩ : ∃ y z, post' = y :: z := by cases post' with
      | nil => simp at hl
      | cons y z => exact ⟨y, z, rfl⟩
    refine evs (fun k => by rw [laws_eqIntS.l0]) ?_
    refine evp (by simp; omega) (evp (by omega) (evp (by simp; omega) ?_))
    rw [rd_mid, rd_mid]
    by_cases he : x = y
    · subst he
      refine evp rfl ?_
      have h2 := ih (pre ++ [x]) post' (by simpa using hl) (by simpa using h)
      simp only [List.append_assoc, List.singleton_append, List.length_append, List.length_singleton] at h2 h
      rw [w64 (by omega) (by simp at h; omega)]
      simpa using h2
    · exact evn he (evr (by simp [he]))
theorem laws_eqIntS_ev (l l' : List Int) (h : l.length ≤ 4611686018427387904) : Ev (fun k => laws_eqIntS.f k l l') (decide (l = l')) := by
  unfold laws_eqIntS.f
  by_cases hl : l.length = l'.length
  · exact evp (by omega) (by simpa using laws_eqIntS_loop l [] l' hl.symm (by simpa using h))
  · exact evn (by omega) (evr (by symm; rw [decide_eq_false_iff_not]; exact fun e => hl (by rw [e])))
theorem laws_eqIntS_self (l : List Int) (h : l.length ≤ 4611686018427387904) : Ev (fun k => laws_eqIntS.f k l l) true := by simpa using laws_eqIntS_ev l l h

theorem markIntS_loop (post : List Int) : ∀ (pre : List Int) (m : Int), 0 ≤ m → m + post.length ≤ 4611686018427387904 → (pre ++ post).length ≤ 4611686018427387904 →
    Ev (fun k => laws_markIntS.l0 k (pre ++ post) m (pre.length : Int)) (m + post.length, pre ++ iota m post.length) := by
  induction post with
  | nil =>
    intro pre m _ _ _
    refine evs (fun k => by rw [laws_markIntS.l0]) ?_
    exact evn (by simp) (evr (by simp [iota]))
  | cons x post ih =>
    intro pre m h0 h1 h
    refine evs (fun k => by rw [laws_markIntS.l0]) ?_
    have hl : (pre.length : Int) < ((pre ++ x :: post).length : Int) := by simp; omega
    simp only [List.length_cons] at h1
    refine evp hl (evp (by omega) ?_)
    have h2 := ih (pre ++ [m]) (m + 1) (by omega) (by omega) (by simpa using h)
    simp only [List.append_assoc, List.singleton_append, List.length_append, List.length_singleton] at h2 h
    rw [w64 (x := (pre.length : Int) + 1) (by omega) (by simp at h; omega), w64 (x := m + 1) (by omega) (by omega), set_midI _ _ _ _ _ rfl]
    simp only [List.length_cons, iota]
    have e : m + ((post.length + 1 : Nat) : Int) = m + 1 + post.length := by omega
    rw [e]
    simpa using h2
theorem markIntS_ev (l : List Int) (m : Int) (h0 : 0 ≤ m) (h1 : m + l.length ≤ 4611686018427387904) : Ev (fun k => laws_markIntS.f k l m) (m + l.length, iota m l.length) := by
  unfold laws_markIntS.f
  simpa using markIntS_loop l [] m h0 h1 (by simp; omega)
theorem heldIntS_loop (n : Nat) : ∀ (pre : List Int) (m : Int), 0 ≤ m → m + n ≤ 4611686018427387904 → pre.length + n ≤ 4611686018427387904 →
    Ev (fun k => laws_heldIntS.l0 k (pre ++ iota m n) m (pre.length : Int)) (m + n) := by
  induction n with
  | zero =>
    intro pre m _ _ _
    refine evs (fun k => by rw [laws_heldIntS.l0]) ?_
    exact evn (by simp [iota]) (evr (by simp))
  | succ n ih =>
    intro pre m h0 h1 h
    refine evs (fun k => by rw [laws_heldIntS.l0]) ?_
    simp only [iota]
    refine evp (by simp; omega) (evp (by omega) (evp (rd_mid _ _ _) ?_))
    have h2 := ih (pre ++ [m]) (m + 1) (by omega) (by omega) (by simp; omega)
    simp only [List.append_assoc, List.singleton_append, List.length_append, List.length_singleton] at h2
    rw [w64 (x := (pre.length : Int) + 1) (by omega) (by omega), w64 (x := m + 1) (by omega) (by omega)]
    have e : m + ((n + 1 : Nat) : Int) = m + 1 + n := by omega
    rw [e]
    simpa using h2
theorem heldIntS_ev (n : Nat) (m : Int) (h0 : 0 ≤ m) (h1 : m + n ≤ 4611686018427387904) : Ev (fun k => laws_heldIntS.f k (iota m n) m) (m + n) := by
  unfold laws_heldIntS.f
  simpa using heldIntS_loop n [] m h0 h1 (by simp; omega)

theorem toIntS_loop (post : List Int) : ∀ (pre z : List Int), z.length = post.length → (pre ++ post).length ≤ 4611686018427387904 →
    Ev (fun k => laws_toIntS.l0 k (pre ++ post) (pre ++ z) (pre.length : Int)) (pre ++ post) := by
  induction post with
  | nil =>
    intro pre z hz h
    obtain rfl : z = [] := List.eq_nil_of_length_eq_zero hz
    refine evs (fun k => by rw [laws_toIntS.l0]) ?_
    exact evn (by simp) (Ev.now _)
  | cons x post ih =>
    intro pre z hz h
    obtain ⟨y, z, rfl⟩ : ∃ y z', z = y :: z' := by cases z with
      | nil => simp at hz
      | cons y z => exact ⟨y, z, rfl⟩
    refine evs (fun k => by rw [laws_toIntS.l0]) ?_
    refine evp (by simp; omega) (evp (by omega) (evp (by simp; omega) ?_))
    have h2 := ih (pre ++ [x]) z (by simpa using hz) (by simpa using h)
    simp only [List.append_assoc, List.singleton_append, List.length_append, List.length_singleton] at h2 h
    rw [rd_mid, set_midI _ _ _ _ _ rfl, w64 (by omega) (by simp at h; omega)]
    simpa using h2
theorem toIntS_ev (l : List Int) (h : l.length ≤ 35184372088832) : Ev (fun k => laws_toIntS.f k l) l := by
  unfold laws_toIntS.f
  refine evp (by omega) (evp (by omega) ?_)
  simpa using toIntS_loop l [] (List.replicate l.length 0) (by simp) (by simp; omega)

theorem FnExactUnsayWord : laws_FnExactUnsayWord.Pure := by
  intro l _ _ _
  refine Ev.rounds (g := fun k => laws_FnExactUnsayWord.f k l) ?_
  unfold laws_FnExactUnsayWord.f
  by_cases hbig : (l.length : Int) > 1048576
  · exact evp hbig (Ev.now _)
  obtain ⟨r, hr, hs, hi⟩ := unsay_both l (by omega)
  have ht := toIntS_ev l (by omega)
  refine evn hbig (evb ht (evb hs (evb ht (evb hi (evb (laws_eqIntS_self _ (by omega)) (evp rfl ?_))))))
  refine evs (fun k => by rw [laws_FnExactUnsayWord.j0]) ?_
  refine evn (by simp) (evb ht (evb (laws_eqIntS_self _ (by omega)) (evp rfl (evb (markIntS_ev _ 1 (by omega) (by omega)) (evn (by simp only; omega) (evb (laws_eqIntS_self _ (by omega)) (evp rfl ?_)))))))
  refine evs (fun k => by rw [laws_FnExactUnsayWord.j1]) ?_
  refine evn (by simp) (evb (markIntS_ev _ 1 (by omega) (by omega)) (evb (heldIntS_ev _ 1 (by omega) (by omega)) (evn (by omega) (evp rfl ?_))))
  refine evb ht (evb hi (evb (laws_eqIntS_self _ (by omega)) (evp rfl ?_)))
  refine evs (fun k => by rw [laws_FnExactUnsayWord.j2]) ?_
  exact evn (by simp) (evb (heldIntS_ev _ 1 (by omega) (by omega)) (evn (by omega) (evp rfl (Ev.now _))))

end Go.Proofs.Ytnhohachlieglaa.Pure
