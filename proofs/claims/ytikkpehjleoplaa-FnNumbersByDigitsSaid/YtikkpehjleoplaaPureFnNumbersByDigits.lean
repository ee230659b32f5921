/- For all codes: numbers that their digit sums or products divide are told, the next ones follow at once, and those that are both together are all found. -/
import Derived.Test.YtikkpehjleoplaaPFnNumbersByDigitsx5
import Derived.Test.YtikkpehjleoplaaWMore
set_option linter.unusedVariables false
set_option linter.unusedSimpArgs false
namespace Go.Proofs.Ytikkpehjleoplaa.Pure
open Go.RowKit Go.Proofs.Ytikkpehjleoplaa.PFnNumbersByDigits Go.Proofs.YtikkpehjleoplaaW.PrintWords Go.Proofs.YtikkpehjleoplaaW.PrintLast

theorem w64 {x : Int} (h1 : -9223372036854775808 ≤ x) (h2 : x ≤ 9223372036854775807) : wrap64 x = x := by unfold wrap64; omega

theorem w64n (n : Nat) (h : n ≤ 9223372036854775807) : wrap64 (n : Int) = (n : Int) := w64 (by omega) (by omega)

theorem evp {α : Type} {c : Prop} [Decidable c] {a b : Nat → Option α} {r : α} (h : c) (k : Ev a r) : Ev (fun n => if c then a n else b n) r := Ev.congr (fun _ => if_pos h) k
theorem evn {α : Type} {c : Prop} [Decidable c] {a b : Nat → Option α} {r : α} (h : ¬ c) (k : Ev b r) : Ev (fun n => if c then a n else b n) r := Ev.congr (fun _ => if_neg h) k
theorem evr {α : Type} {x r : α} (h : x = r) : Ev (fun _ => some x) r := h ▸ Ev.now x
theorem evb {α β : Type} {g : Nat → Option α} {f : Nat → α → Option β} {a : α} {r : β} (h : Ev g a) (k : Ev (fun n => f n a) r) : Ev (fun n => (g n).bind fun x => f n x) r := Ev.bind h k
theorem evs {α : Type} {g f : Nat → Option α} {r : α} (h : ∀ k, g (k + 1) = f k) (k : Ev f r) : Ev g r := Ev.step h k
theorem evu {α : Type} {g : Nat → Option α} {r s : α} (h : Ev g r) (k : Ev g s) : r = s := by
  obtain ⟨K, h⟩ := h
  obtain ⟨L, k⟩ := k
  have := (h (K + L) (by omega)).symm.trans (k (K + L) (by omega))
  injection this

theorem rd_mid (pre post : List Int) (x : Int) : rd (pre ++ x :: post) (pre.length : Int) = x := by simp [rd]
theorem rd_mid' (pre post : List Int) (x i : Int) (h : i = pre.length) : rd (pre ++ x :: post) i = x := by subst h; exact rd_mid pre post x
theorem set_mid {α : Type} (pre post : List α) (x y : α) : (pre ++ x :: post).set pre.length y = pre ++ y :: post := by simp
theorem set_midI {α : Type} (pre post : List α) (x y : α) (i : Int) (h : i = pre.length) : (pre ++ x :: post).set i.toNat y = pre ++ y :: post := by subst h; simp
theorem rd_nat (xs : List Int) (i : Nat) : rd xs (i : Int) = xs.getD i 0 := by simp [rd]
theorem rd_get (xs : List Int) (i : Nat) (h : i < xs.length) : rd xs (i : Int) = xs[i] := by simp [rd, h]
theorem rd_mem (xs : List Int) (i : Int) (h0 : 0 ≤ i) (h : i < xs.length) : rd xs i ∈ xs := by
  have hi : i.toNat < xs.length := by omega
  simp only [rd, List.getD_eq_getElem?_getD, List.getElem?_eq_getElem hi, Option.getD_some]
  exact List.getElem_mem hi
/-- m, m + 1, .. -/
def iota (m : Int) : Nat → List Int
  | 0 => []
  | n + 1 => m :: iota (m + 1) n
theorem iota_length (m : Int) (n : Nat) : (iota m n).length = n := by induction n generalizing m with
  | zero => rfl
  | succ n ih => simp [iota, ih]
/-- A list is cut in two. -/
theorem cut_at {α : Type} (xs : List α) (i : Nat) (h : i < xs.length) : ∃ pre x post, xs = pre ++ x :: post ∧ pre.length = i := by
  refine ⟨xs.take i, xs[i], xs.drop (i + 1), ?_, by simp; omega⟩
  simp
theorem wf64 {x : Int} (h : (Lit.int .i64 x).wf = true) : -9223372036854775808 ≤ x ∧ x ≤ 9223372036854775807 := by
  have h2 : (decide (IntKind.i64.min ≤ x) && decide (x ≤ IntKind.i64.max)) = true := h
  rw [show IntKind.i64.min = -9223372036854775808 from rfl, show IntKind.i64.max = 9223372036854775807 from rfl] at h2
  simpa using h2

def ic (l : List Nat) : List Int := l.map (fun x : Nat => (x : Int))
theorem ic_nil : ic [] = [] := rfl
theorem ic_cons (x : Nat) (l : List Nat) : ic (x :: l) = (x : Int) :: ic l := rfl
theorem ic_append (l m : List Nat) : ic (l ++ m) = ic l ++ ic m := by simp [ic]
theorem ic_length (l : List Nat) : (ic l).length = l.length := by simp [ic]
theorem ic_drop (l : List Nat) (k : Nat) : (ic l).drop k = ic (l.drop k) := by simp [ic, List.map_drop]
def digs (n b : Nat) : Nat → Nat → List Nat
  | 0, _ => []
  | k + 1, a => a * b / n :: digs n b k (a * b % n)
theorem digs_length (n b k : Nat) : ∀ a, (digs n b k a).length = k := by
  induction k with
  | zero => intro a; rfl
  | succ k ih => intro a; simp [digs, ih]

def lsd (b : Nat) : Nat → Nat → List Nat
  | 0, _ => []
  | f + 1, n => if n = 0 then [] else n % b :: lsd b f (n / b)
theorem lsd_zero (b f : Nat) : lsd b f 0 = [] := by cases f <;> simp [lsd]
theorem lsd_fuel {b : Nat} (hb : 2 ≤ b) (n : Nat) : ∀ f g : Nat, n ≤ f → n ≤ g → lsd b f n = lsd b g n := by
  induction n using Nat.strongRecOn with
  | _ n ih =>
    intro f g hf hg
    by_cases h : n = 0
    · subst h
      rw [lsd_zero, lsd_zero]
    · obtain ⟨f, rfl⟩ : ∃ x, f = x + 1 := ⟨f - 1, by omega⟩
      obtain ⟨g, rfl⟩ : ∃ x, g = x + 1 := ⟨g - 1, by omega⟩
      have hlt : n / b < n := Nat.div_lt_self (by omega) (by omega)
      simp only [lsd, if_neg h]
      rw [ih (n / b) hlt f g (by omega) (by omega)]
/-- The least place in front; nothing for 0. -/
def low (b n : Nat) : List Nat := lsd b n n
theorem low_zero (b : Nat) : low b 0 = [] := rfl
theorem low_succ {b n : Nat} (hb : 2 ≤ b) (hn : 1 ≤ n) : low b n = n % b :: low b (n / b) := by
  obtain ⟨m, rfl⟩ : ∃ x, n = x + 1 := ⟨n - 1, by omega⟩
  have hlt : (m + 1) / b < m + 1 := Nat.div_lt_self (by omega) (by omega)
  show lsd b (m + 1) (m + 1) = _
  simp only [lsd]
  rw [if_neg (by omega)]
  show _ = _ :: lsd b _ _
  rw [lsd_fuel hb ((m + 1) / b) m ((m + 1) / b) (by omega) (Nat.le_refl _)]
/-- The digits of a number, the greatest place in front. -/
def dgl (b n : Nat) : List Nat := if n = 0 then [0] else (low b n).reverse
def val (b : Nat) (v : Nat) : List Nat → Nat
  | [] => v
  | d :: l => val b (v * b + d) l
theorem val_append (b v : Nat) (l m : List Nat) : val b v (l ++ m) = val b (val b v l) m := by
  induction l generalizing v with
  | nil => rfl
  | cons d l ih => exact ih _
theorem val_ge {b : Nat} (hb : 1 ≤ b) (l : List Nat) : ∀ v : Nat, v ≤ val b v l := by
  induction l with
  | nil => intro v; exact Nat.le_refl _
  | cons d l ih =>
    intro v
    have h := ih (v * b + d)
    have h2 : v * 1 ≤ v * b := Nat.mul_le_mul_left _ hb
    simp only [val]
    omega
theorem low_lt {b : Nat} (hb : 2 ≤ b) (n : Nat) : ∀ d ∈ low b n, d < b := by
  induction n using Nat.strongRecOn with
  | _ n ih =>
    by_cases h : n = 0
    · subst h
      simp [low_zero]
    · have hlt : n / b < n := Nat.div_lt_self (by omega) (by omega)
      rw [low_succ hb (by omega)]
      intro d hd
      rcases List.mem_cons.1 hd with rfl | hd
      · exact Nat.mod_lt _ (by omega)
      · exact ih _ hlt d hd
theorem low_val {b : Nat} (hb : 2 ≤ b) (n : Nat) : val b 0 (low b n).reverse = n := by
  induction n using Nat.strongRecOn with
  | _ n ih =>
    by_cases h : n = 0
    · subst h
      rfl
    · have hlt : n / b < n := Nat.div_lt_self (by omega) (by omega)
      rw [low_succ hb (by omega), List.reverse_cons, val_append, ih _ hlt]
      simp only [val]
      have := Nat.div_add_mod n b
      rw [Nat.mul_comm (n / b) b]
      omega
theorem dgl_val {b : Nat} (hb : 2 ≤ b) (n : Nat) : val b 0 (dgl b n) = n := by
  unfold dgl
  by_cases h : n = 0
  · subst h
    rw [if_pos rfl]
    simp [val]
  · rw [if_neg h, low_val hb]
theorem dgl_lt {b : Nat} (hb : 2 ≤ b) (n : Nat) : ∀ d ∈ dgl b n, d < b := by
  unfold dgl
  by_cases h : n = 0
  · subst h
    rw [if_pos rfl]
    intro d hd
    rw [List.mem_singleton.1 hd]
    omega
  · rw [if_neg h]
    intro d hd
    exact low_lt hb n d (List.mem_reverse.1 hd)
theorem low_len {b : Nat} (hb : 2 ≤ b) (k : Nat) : ∀ n : Nat, n < 2 ^ k → (low b n).length ≤ k := by
  induction k with
  | zero =>
    intro n hn
    have : n = 0 := by rw [Nat.pow_zero] at hn; omega
    subst this
    simp [low_zero]
  | succ k ih =>
    intro n hn
    by_cases h : n = 0
    · subst h
      simp [low_zero]
    · rw [low_succ hb (by omega), List.length_cons]
      have h2 : n / b < 2 ^ k := by
        refine Nat.div_lt_of_lt_mul ?_
        rw [Nat.pow_succ] at hn
        have : 2 * 2 ^ k ≤ b * 2 ^ k := Nat.mul_le_mul_right _ hb
        omega
      have := ih _ h2
      omega
theorem dgl_len {b : Nat} (hb : 2 ≤ b) (n : Nat) (hn : n ≤ 1000000000000) : 1 ≤ (dgl b n).length ∧ (dgl b n).length ≤ 40 := by
  unfold dgl
  by_cases h : n = 0
  · subst h
    rw [if_pos rfl]
    simp
  · rw [if_neg h, List.length_reverse]
    refine ⟨?_, low_len hb 40 n (by omega)⟩
    rw [low_succ hb (by omega), List.length_cons]
    omega
def lsum : List Nat → Nat
  | [] => 0
  | d :: l => d + lsum l
def lmul : List Nat → Nat
  | [] => 1
  | d :: l => d * lmul l
/-- The digit sum and the digit product. -/
def dsum (b n : Nat) : Nat := lsum (dgl b n)
def dmul (b n : Nat) : Nat := lmul (dgl b n)
theorem lsum_zero (l : List Nat) (b : Nat) (h : lsum l = 0) : val b 0 l = 0 := by
  induction l with
  | nil => rfl
  | cons d l ih =>
    simp only [lsum] at h
    have hd : d = 0 := by omega
    subst hd
    simp only [val, Nat.zero_mul, Nat.add_zero]
    exact ih (by omega)
theorem dsum_pos {b : Nat} (hb : 2 ≤ b) (n : Nat) (hn : 1 ≤ n) : 1 ≤ dsum b n := by
  have h := dgl_val hb n
  have h2 := lsum_zero (dgl b n) b
  unfold dsum
  by_cases h3 : lsum (dgl b n) = 0
  · have := h2 h3
    omega
  · omega
theorem lsum_le {b : Nat} (hb : 1 ≤ b) (l : List Nat) : ∀ v : Nat, v + lsum l ≤ val b v l := by
  induction l with
  | nil => intro v; simp [lsum, val]
  | cons d l ih =>
    intro v
    have h := ih (v * b + d)
    have h2 : v * 1 ≤ v * b := Nat.mul_le_mul_left _ hb
    simp only [lsum, val]
    omega
theorem lmul_le {b : Nat} (l : List Nat) : ∀ v : Nat, (∀ d ∈ l, d < b) → v * lmul l ≤ val b v l := by
  induction l with
  | nil => intro v _; simp [lmul, val]
  | cons d l ih =>
    intro v h
    have h1 := h d (by simp)
    have h2 : v * d ≤ v * b := Nat.mul_le_mul_left _ (by omega)
    have h3 := ih (v * b + d) (fun x hx => h x (by simp [hx]))
    have h4 : v * d * lmul l ≤ (v * b + d) * lmul l := Nat.mul_le_mul_right _ (by omega)
    simp only [lmul, val]
    rw [← Nat.mul_assoc]
    omega
theorem dsum_le {b : Nat} (hb : 2 ≤ b) (n : Nat) : dsum b n ≤ n := by
  have h := lsum_le (b := b) (by omega) (dgl b n) 0
  rw [dgl_val hb] at h
  unfold dsum
  omega
theorem dmul_le {b : Nat} (hb : 2 ≤ b) (n : Nat) : dmul b n ≤ n := by
  have h := dgl_val hb n
  have hl := dgl_lt hb n
  unfold dmul
  cases hd : dgl b n with
  | nil =>
    unfold dgl at hd
    split at hd
    · cases hd
    · rename_i hn
      rw [low_succ hb (by omega)] at hd
      simp at hd
  | cons d l =>
    rw [hd] at h hl
    have h2 := lmul_le (b := b) l d (fun x hx => hl x (by simp [hx]))
    simp only [val, Nat.zero_mul, Nat.zero_add] at h
    simp only [lmul]
    omega
theorem val_mono {b : Nat} (hb : 1 ≤ b) (l : List Nat) (j v : Nat) : val b v (l.take j) ≤ val b v l := by
  have h := val_ge hb (l.drop j) (val b v (l.take j))
  rw [← val_append, List.take_append_drop] at h
  exact h
theorem lmul_take {b : Nat} (hb : 2 ≤ b) (n j : Nat) : lmul ((dgl b n).take j) ≤ n + 1 := by
  have h := dgl_val hb n
  have hl := dgl_lt hb n
  have hm := val_mono (b := b) (by omega) (dgl b n) j 0
  cases hd : (dgl b n).take j with
  | nil => simp [lmul]
  | cons d l =>
    rw [hd] at hm
    have hl2 : ∀ x ∈ (dgl b n).take j, x < b := fun x hx => hl x (List.mem_of_mem_take hx)
    rw [hd] at hl2
    have h2 := lmul_le (b := b) l d (fun x hx => hl2 x (by simp [hx]))
    simp only [val, Nat.zero_mul, Nat.zero_add] at hm
    simp only [lmul]
    omega

theorem ic_reverse (l : List Nat) : ic l.reverse = (ic l).reverse := by simp [ic]
theorem ic_rd (pre post : List Nat) (x : Nat) : rd (ic (pre ++ x :: post)) (pre.length : Int) = (x : Int) := by
  rw [ic_append, ic_cons, show ((pre.length : Nat) : Int) = (((ic pre).length : Nat) : Int) by simp [ic], rd_mid]

theorem impl_in_eq (a b c : Int) : impl_in.f a b c = some (decide (b ≤ a ∧ a ≤ c)) := by
  unfold impl_in.f
  by_cases h : b ≤ a <;> simp [h]
theorem spec_l1In_eq (a b c : Int) : spec_l1In.f a b c = some (decide (b ≤ a ∧ a ≤ c)) := by
  unfold spec_l1In.f
  by_cases h : b ≤ a <;> simp [h]

theorem impl_isBase_eq (b : Int) : impl_isBase.f b = some (decide (2 ≤ b ∧ b ≤ 16)) := by simp only [impl_isBase.f, impl_in_eq, Option.bind_some]
theorem spec_dgBase_eq (b : Int) : spec_dgBase.f b = some (decide (2 ≤ b ∧ b ≤ 16)) := by simp only [spec_dgBase.f, spec_l1In_eq, Option.bind_some]

theorem impl_isNumber_eq (n b : Int) : impl_isNumber.f n b = some (decide ((0 ≤ n ∧ n ≤ 1000000000000) ∧ 2 ≤ b ∧ b ≤ 16)) := by
  simp only [impl_isNumber.f, impl_in_eq, impl_isBase_eq, Option.bind_some, decide_eq_true_eq]
  by_cases h : 0 ≤ n ∧ n ≤ 1000000000000 <;> simp [h]
theorem spec_dgAsked_eq (n b : Int) : spec_dgAsked.f n b = some (decide ((0 ≤ n ∧ n ≤ 1000000000000) ∧ 2 ≤ b ∧ b ≤ 16)) := by
  simp only [spec_dgAsked.f, spec_dgNumber.f, spec_l1In_eq, spec_dgBase_eq, Option.bind_some, decide_eq_true_eq]
  by_cases h : 0 ≤ n ∧ n ≤ 1000000000000 <;> simp [h]

theorem pigeon (n : Nat) : ∀ f : Nat → Nat, (∀ i, i ≤ n → f i < n) → ∃ i j, i < j ∧ j ≤ n ∧ f i = f j := by
  induction n with
  | zero => intro f h; exact absurd (h 0 (Nat.le_refl _)) (by omega)
  | succ n ih =>
    intro f h
    by_cases hc : ∃ i, i ≤ n ∧ f i = f (n + 1)
    · obtain ⟨i, hi, he⟩ := hc
      exact ⟨i, n + 1, by omega, Nat.le_refl _, he⟩
    · have hv := h (n + 1) (Nat.le_refl _)
      have hne : ∀ i, i ≤ n → f i ≠ f (n + 1) := fun i hi he => hc ⟨i, hi, he⟩
      obtain ⟨i, j, hij, hj, he⟩ := ih (fun i => if f i = n then f (n + 1) else f i) (fun i hi => by
        have h1 := h i (by omega)
        have h2 := hne i hi
        show (if f i = n then f (n + 1) else f i) < n
        split <;> omega)
      refine ⟨i, j, hij, by omega, ?_⟩
      have h1 := hne i (by omega)
      have h2 := hne j hj
      (try simp only at he)
      split at he <;> split at he <;> omega
theorem least_of {P : Nat → Prop} (h : ∃ k, P k) : ∃ k, P k ∧ ∀ j, j < k → ¬ P j := by
  obtain ⟨k, hk⟩ := h
  induction k using Nat.strongRecOn with
  | _ k ih =>
    by_cases hc : ∃ j, j < k ∧ P j
    · obtain ⟨j, hj, hp⟩ := hc
      exact ih j hj hp
    · exact ⟨k, hk, fun j hj hp => hc ⟨j, hj, hp⟩⟩
theorem mod_of_dvd_sub {a n : Nat} (h1 : 1 ≤ a) (h : n ∣ a - 1) : a % n = 1 % n := by
  obtain ⟨q, hq⟩ := h
  have : a = n * q + 1 := by omega
  rw [this, Nat.mul_add_mod]
theorem pow_back (b n : Nat) (hb : 0 < b) (hn : 0 < n) (hc : Nat.Coprime n b) : ∃ k, 1 ≤ k ∧ k ≤ n ∧ b ^ k % n = 1 % n := by
  obtain ⟨i, j, hij, hj, he⟩ := pigeon n (fun i => b ^ i % n) (fun i _ => Nat.mod_lt _ hn)
  refine ⟨j - i, by omega, by omega, mod_of_dvd_sub (Nat.pow_pos hb) ?_⟩
  have h1 := Nat.sub_mod_eq_zero_of_mod_eq he.symm
  have h2 := Nat.dvd_of_mod_eq_zero h1
  have h3 : b ^ j - b ^ i = b ^ i * (b ^ (j - i) - 1) := by
    rw [Nat.mul_sub, ← Nat.pow_add, Nat.mul_one]
    congr 2
    omega
  rw [h3] at h2
  exact Nat.Coprime.dvd_of_dvd_mul_left (Nat.Coprime.pow_right _ hc) h2
theorem tmod_cast (a b : Nat) : Int.tmod (a : Int) (b : Int) = ((a % b : Nat) : Int) := (Int.ofNat_tmod a b).symm
theorem tdiv_cast (a b : Nat) : Int.tdiv (a : Int) (b : Int) = ((a / b : Nat) : Int) := (Int.ofNat_tdiv a b).symm
theorem natOf {a : Int} (h : 0 ≤ a) : ∃ n : Nat, a = (n : Int) := ⟨a.toNat, by omega⟩

theorem reverse_loop (n : Nat) : ∀ (mid pre post : List Int), mid.length ≤ n → pre.length = post.length → (pre ++ mid ++ post).length ≤ 1000000000000 →
    Ev (fun k => slices_Reverse_int_int.l0 k (pre ++ mid ++ post) (pre.length : Int) ((pre.length : Int) + (mid.length : Int) - 1)) (pre ++ mid.reverse ++ post) := by
  induction n with
  | zero =>
    intro mid pre post hm _ _
    obtain rfl : mid = [] := List.eq_nil_of_length_eq_zero (by omega)
    refine evs (fun k => by rw [slices_Reverse_int_int.l0]) ?_
    exact evn (by simp; omega) (evr (by simp))
  | succ n ih =>
    intro mid pre post hm hp hl
    cases mid with
    | nil =>
      refine evs (fun k => by rw [slices_Reverse_int_int.l0]) ?_
      exact evn (by simp; omega) (evr (by simp))
    | cons a t =>
      by_cases ht : t = []
      · subst ht
        refine evs (fun k => by rw [slices_Reverse_int_int.l0]) ?_
        exact evn (by simp) (evr (by simp))
      · obtain ⟨m, b, rfl⟩ : ∃ m b, t = m ++ [b] := ⟨t.dropLast, t.getLast ht, (List.dropLast_concat_getLast ht).symm⟩
        simp only [List.length_append, List.length_cons, List.length_nil] at hm hl
        have e0 : pre ++ (a :: (m ++ [b])) ++ post = pre ++ a :: (m ++ b :: post) := by simp
        have e1 : pre ++ (a :: (m ++ [b])) ++ post = (pre ++ a :: m) ++ b :: post := by simp
        have hj : ((pre.length : Int) + (((a :: (m ++ [b])).length : Nat) : Int) - 1) = (((pre ++ a :: m).length : Nat) : Int) := by simp; omega
        have r1 : rd (pre ++ (a :: (m ++ [b])) ++ post) (((pre ++ a :: m).length : Nat) : Int) = b := by rw [e1, rd_mid]
        have r0 : rd (pre ++ (a :: (m ++ [b])) ++ post) ((pre.length : Nat) : Int) = a := by rw [e0, rd_mid]
        have hset : ((pre ++ (a :: (m ++ [b])) ++ post).set (pre.length : Int).toNat b).set (((pre ++ a :: m).length : Nat) : Int).toNat a = (pre ++ [b]) ++ m ++ (a :: post) := by
          rw [e0, Int.toNat_natCast, Int.toNat_natCast, set_mid]
          have e2 : pre ++ b :: (m ++ b :: post) = (pre ++ b :: m) ++ b :: post := by simp
          have e3 : (pre ++ a :: m).length = (pre ++ b :: m).length := by simp
          rw [e2, e3, set_mid]
          simp
        have h := ih m (pre ++ [b]) (a :: post) (by omega) (by simp; omega) (by simp; omega)
        have hj2 : (((pre ++ a :: m).length : Nat) : Int) = (pre.length : Int) + (m.length : Int) + 1 := by simp; omega
        have hlen : (((pre ++ (a :: (m ++ [b])) ++ post).length : Nat) : Int) = (pre.length : Int) + (m.length : Int) + 2 + (post.length : Int) := by simp; omega
        refine evs (fun k => by rw [slices_Reverse_int_int.l0]) ?_
        rw [hj, r1, r0, hset, hlen, hj2, w64 (x := (pre.length : Int) + 1) (by omega) (by omega), w64 (x := (pre.length : Int) + (m.length : Int) + 1 - 1) (by omega) (by omega)]
        refine evp (by omega) (evp (by omega) (evp (by omega) (evp (by omega) (evp (by omega) ?_))))
        have e4 : (((pre ++ [b]).length : Nat) : Int) = (pre.length : Int) + 1 := by simp
        rw [e4, show (pre.length : Int) + 1 + (m.length : Int) - 1 = (pre.length : Int) + (m.length : Int) + 1 - 1 by omega] at h
        have e5 : (pre ++ [b]) ++ m.reverse ++ (a :: post) = pre ++ (a :: (m ++ [b])).reverse ++ post := by simp
        rw [e5] at h
        exact h
theorem reverse_ev (l : List Int) (h : l.length ≤ 1000000000000) : Ev (fun k => slices_Reverse_int_int.f k l) l.reverse := by
  unfold slices_Reverse_int_int.f
  rw [w64 (by omega) (by omega)]
  have := reverse_loop l.length l [] [] (Nat.le_refl _) rfl (by simpa using h)
  simpa using this

theorem spec_dgOf_loop (b : Nat) (hb : 2 ≤ b) (n : Nat) : ∀ acc : List Nat, acc.length + (low b n).length ≤ 1000000 → n ≤ 1000000000000 → Ev (fun k => spec_dgOf.l0 k (n : Int) (b : Int) (ic acc)) (ic ((low b n).reverse ++ acc)) := by
  induction n using Nat.strongRecOn with
  | _ n ih =>
    intro acc hl hn
    refine evs (fun k => by rw [spec_dgOf.l0]) ?_
    by_cases h : n = 0
    · subst h
      exact evn (by omega) (evr (by simp [low_zero]))
    · have hlt : n / b < n := Nat.div_lt_self (by omega) (by omega)
      rw [low_succ hb (by omega), List.length_cons] at hl
      have h2 := ih (n / b) hlt (n % b :: acc) (by simp only [List.length_cons]; omega) (by omega)
      rw [tmod_cast, tdiv_cast, w64n (n / b) (by omega), low_succ hb (by omega)]
      refine evp (by omega) (evn (by omega) ?_)
      simp only [Option.bind_some]
      refine evp (by simp only [List.length_cons, List.length_nil, ic_length]; omega) ?_
      simpa [ic] using h2
theorem spec_dgOf_ev (b n : Nat) (hb : 2 ≤ b) (hn : n ≤ 1000000000000) : Ev (fun k => spec_dgOf.f k (n : Int) (b : Int)) (ic (dgl b n)) := by
  unfold spec_dgOf.f
  by_cases h : n = 0
  · subst h
    exact evp (by omega) (evr (by simp [dgl, ic]))
  · have hl := low_len hb 40 n (by omega)
    have h2 := spec_dgOf_loop b hb n [] (by simp; omega) hn
    unfold dgl
    rw [if_neg h]
    exact evn (by omega) (by simpa [ic] using h2)
theorem impl_digitsOf_loop (b : Nat) (hb : 2 ≤ b) (n : Nat) : ∀ acc : List Nat, acc.length + (low b n).length ≤ 1000000 → n ≤ 1000000000000 → Ev (fun k => impl_digitsOf.l0 k (n : Int) (b : Int) (ic acc)) (ic (acc ++ low b n).reverse) := by
  induction n using Nat.strongRecOn with
  | _ n ih =>
    intro acc hl hn
    refine evs (fun k => by rw [impl_digitsOf.l0]) ?_
    by_cases h : n = 0
    · subst h
      refine evn (by omega) (evb (reverse_ev (ic acc) (by rw [ic_length]; omega)) (evr ?_))
      rw [low_zero, List.append_nil, ic_reverse]
    · have hlt : n / b < n := Nat.div_lt_self (by omega) (by omega)
      rw [low_succ hb (by omega), List.length_cons] at hl
      have h2 := ih (n / b) hlt (acc ++ [n % b]) (by simp only [List.length_append, List.length_cons, List.length_nil]; omega) (by omega)
      rw [tmod_cast, tdiv_cast, w64n (n / b) (by omega), low_succ hb (by omega)]
      refine evp (by omega) (evn (by omega) (evp (by rw [ic_length]; omega) ?_))
      rw [ic_append, List.append_assoc] at h2
      simpa [ic] using h2
theorem impl_digitsOf_ev (b n : Nat) (hb : 2 ≤ b) (hn : n ≤ 1000000000000) : Ev (fun k => impl_digitsOf.f k (n : Int) (b : Int)) (ic (dgl b n)) := by
  unfold impl_digitsOf.f
  have hdv : n / b ≤ n := Nat.div_le_self _ _
  have hl := low_len hb 40 (n / b) (by omega)
  have h2 := impl_digitsOf_loop b hb (n / b) [n % b] (by simp only [List.length_cons, List.length_nil]; omega) (by omega)
  rw [tmod_cast, tdiv_cast, w64n (n / b) (by omega)]
  refine evn (by omega) ?_
  unfold dgl
  by_cases h : n = 0
  · subst h
    rw [if_pos rfl]
    rw [Nat.zero_div, low_zero] at h2 
    simpa [ic, Nat.zero_mod] using h2
  · rw [if_neg h, low_succ hb (by omega)]
    simpa [ic] using h2

theorem spec_dgSum_loop (post : List Nat) : ∀ (pre : List Nat) (a : Nat), (pre ++ post).length ≤ 1000000000000 → a + lsum post ≤ 1000000000000000000 →
    Ev (fun k => spec_dgSum.l0 k (a : Int) (ic (pre ++ post)) ((pre ++ post).length : Int) (pre.length : Int)) ((a + lsum post : Nat) : Int) := by
  induction post with
  | nil =>
    intro pre a h1 h2
    refine evs (fun k => by rw [spec_dgSum.l0]) ?_
    exact evn (by simp) (evr (by simp [lsum]))
  | cons d post ih =>
    intro pre a h1 h2
    simp only [lsum] at h2
    have hl : (pre ++ d :: post).length = pre.length + (post.length + 1) := by simp
    have h3 := ih (pre ++ [d]) (a + d) (by simp at h1 ⊢; omega) (by omega)
    rw [List.append_assoc, List.singleton_append] at h3
    refine evs (fun k => by rw [spec_dgSum.l0]) ?_
    rw [ic_rd, ic_length, hl, w64 (x := (a : Int) + (d : Int)) (by omega) (by omega), w64 (x := (pre.length : Int) + 1) (by omega) (by omega)]
    refine evp (by omega) (evp (by omega) (evp (by omega) ?_))
    rw [hl] at h3
    have e1 : (((pre ++ [d]).length : Nat) : Int) = (pre.length : Int) + 1 := by simp
    have e2 : ((a + d : Nat) : Int) = (a : Int) + (d : Int) := by omega
    rw [e1, e2] at h3
    have e3 : a + lsum (d :: post) = a + d + lsum post := by simp only [lsum]; omega
    rw [e3]
    exact h3
theorem spec_dgSum_all (l : List Nat) (h1 : l.length ≤ 1000000000000) (h2 : lsum l ≤ 1000000000000000000) : Ev (fun k => spec_dgSum.l0 k 0 (ic l) ((ic l).length : Int) 0) ((lsum l : Nat) : Int) := by
  have h := spec_dgSum_loop l [] 0 (by simpa using h1) (by omega)
  rw [ic_length]
  simpa using h

theorem impl_digitSum_loop (post : List Nat) : ∀ (pre : List Nat) (a : Nat), (pre ++ post).length ≤ 1000000000000 → a + lsum post ≤ 1000000000000000000 →
    Ev (fun k => impl_digitSum.l0 k (a : Int) (ic (pre ++ post)) ((pre ++ post).length : Int) (pre.length : Int)) ((a + lsum post : Nat) : Int) := by
  induction post with
  | nil =>
    intro pre a h1 h2
    refine evs (fun k => by rw [impl_digitSum.l0]) ?_
    exact evn (by simp) (evr (by simp [lsum]))
  | cons d post ih =>
    intro pre a h1 h2
    simp only [lsum] at h2
    have hl : (pre ++ d :: post).length = pre.length + (post.length + 1) := by simp
    have h3 := ih (pre ++ [d]) (a + d) (by simp at h1 ⊢; omega) (by omega)
    rw [List.append_assoc, List.singleton_append] at h3
    refine evs (fun k => by rw [impl_digitSum.l0]) ?_
    rw [ic_rd, ic_length, hl, w64 (x := (a : Int) + (d : Int)) (by omega) (by omega), w64 (x := (pre.length : Int) + 1) (by omega) (by omega)]
    refine evp (by omega) (evp (by omega) (evp (by omega) ?_))
    rw [hl] at h3
    have e1 : (((pre ++ [d]).length : Nat) : Int) = (pre.length : Int) + 1 := by simp
    have e2 : ((a + d : Nat) : Int) = (a : Int) + (d : Int) := by omega
    rw [e1, e2] at h3
    have e3 : a + lsum (d :: post) = a + d + lsum post := by simp only [lsum]; omega
    rw [e3]
    exact h3
theorem impl_digitSum_all (l : List Nat) (h1 : l.length ≤ 1000000000000) (h2 : lsum l ≤ 1000000000000000000) : Ev (fun k => impl_digitSum.l0 k 0 (ic l) ((ic l).length : Int) 0) ((lsum l : Nat) : Int) := by
  have h := impl_digitSum_loop l [] 0 (by simpa using h1) (by omega)
  rw [ic_length]
  simpa using h

theorem dgl_sum_le {b : Nat} (hb : 2 ≤ b) (n : Nat) : lsum (dgl b n) ≤ n := dsum_le hb n
theorem spec_dgSum_ev (b n : Nat) (hb : 2 ≤ b) (hn : n ≤ 1000000000000) : Ev (fun k => spec_dgSum.f k (ic (dgl b n))) ((dsum b n : Nat) : Int) := by
  have hl := dgl_len hb n hn
  have hs := dgl_sum_le hb n
  exact spec_dgSum_all (dgl b n) (by omega) (by omega)
theorem impl_digitSum_ev (b n : Nat) (hb : 2 ≤ b) (hn : n ≤ 1000000000000) : Ev (fun k => impl_digitSum.f k (n : Int) (b : Int)) ((dsum b n : Nat) : Int) := by
  have hl := dgl_len hb n hn
  have hs := dgl_sum_le hb n
  exact evb (impl_digitsOf_ev b n hb hn) (impl_digitSum_all (dgl b n) (by omega) (by omega))

theorem spec_dgProduct_loop (post : List Nat) : ∀ (pre : List Nat) (a : Nat), (pre ++ post).length ≤ 1000000000000 → (∀ j, a * lmul (post.take j) ≤ 1000000000000000000) →
    Ev (fun k => spec_dgProduct.l0 k (a : Int) (ic (pre ++ post)) ((pre ++ post).length : Int) (pre.length : Int)) ((a * lmul post : Nat) : Int) := by
  induction post with
  | nil =>
    intro pre a h1 h2
    refine evs (fun k => by rw [spec_dgProduct.l0]) ?_
    exact evn (by simp) (evr (by simp [lmul]))
  | cons d post ih =>
    intro pre a h1 h2
    have hl : (pre ++ d :: post).length = pre.length + (post.length + 1) := by simp
    have h4 := h2 1
    simp only [List.take_succ_cons, List.take_zero, lmul, Nat.mul_one] at h4
    have h3 := ih (pre ++ [d]) (a * d) (by simp at h1 ⊢; omega) (fun j => by
      have h5 := h2 (j + 1)
      simp only [List.take_succ_cons, lmul] at h5
      rw [Nat.mul_assoc]
      exact h5)
    rw [List.append_assoc, List.singleton_append] at h3
    refine evs (fun k => by rw [spec_dgProduct.l0]) ?_
    have e2 : (a : Int) * (d : Int) = ((a * d : Nat) : Int) := (Int.natCast_mul _ _).symm
    rw [ic_rd, ic_length, hl, e2, w64n (a * d) (by omega), w64 (x := (pre.length : Int) + 1) (by omega) (by omega)]
    refine evp (by omega) (evp (by omega) (evp (by omega) ?_))
    rw [hl] at h3
    have e1 : (((pre ++ [d]).length : Nat) : Int) = (pre.length : Int) + 1 := by simp
    rw [e1] at h3
    have e3 : a * lmul (d :: post) = a * d * lmul post := by simp only [lmul, Nat.mul_assoc]
    rw [e3]
    exact h3
theorem spec_dgProduct_all (l : List Nat) (h1 : l.length ≤ 1000000000000) (h2 : ∀ j, lmul (l.take j) ≤ 1000000000000000000) : Ev (fun k => spec_dgProduct.l0 k 1 (ic l) ((ic l).length : Int) 0) ((lmul l : Nat) : Int) := by
  have h := spec_dgProduct_loop l [] 1 (by simpa using h1) (fun j => by rw [Nat.one_mul]; exact h2 j)
  rw [ic_length]
  simpa using h

theorem impl_digitProduct_loop (post : List Nat) : ∀ (pre : List Nat) (a : Nat), (pre ++ post).length ≤ 1000000000000 → (∀ j, a * lmul (post.take j) ≤ 1000000000000000000) →
    Ev (fun k => impl_digitProduct.l0 k (a : Int) (ic (pre ++ post)) ((pre ++ post).length : Int) (pre.length : Int)) ((a * lmul post : Nat) : Int) := by
  induction post with
  | nil =>
    intro pre a h1 h2
    refine evs (fun k => by rw [impl_digitProduct.l0]) ?_
    exact evn (by simp) (evr (by simp [lmul]))
  | cons d post ih =>
    intro pre a h1 h2
    have hl : (pre ++ d :: post).length = pre.length + (post.length + 1) := by simp
    have h4 := h2 1
    simp only [List.take_succ_cons, List.take_zero, lmul, Nat.mul_one] at h4
    have h3 := ih (pre ++ [d]) (a * d) (by simp at h1 ⊢; omega) (fun j => by
      have h5 := h2 (j + 1)
      simp only [List.take_succ_cons, lmul] at h5
      rw [Nat.mul_assoc]
      exact h5)
    rw [List.append_assoc, List.singleton_append] at h3
    refine evs (fun k => by rw [impl_digitProduct.l0]) ?_
    have e2 : (a : Int) * (d : Int) = ((a * d : Nat) : Int) := (Int.natCast_mul _ _).symm
    rw [ic_rd, ic_length, hl, e2, w64n (a * d) (by omega), w64 (x := (pre.length : Int) + 1) (by omega) (by omega)]
    refine evp (by omega) (evp (by omega) (evp (by omega) ?_))
    rw [hl] at h3
    have e1 : (((pre ++ [d]).length : Nat) : Int) = (pre.length : Int) + 1 := by simp
    rw [e1] at h3
    have e3 : a * lmul (d :: post) = a * d * lmul post := by simp only [lmul, Nat.mul_assoc]
    rw [e3]
    exact h3
theorem impl_digitProduct_all (l : List Nat) (h1 : l.length ≤ 1000000000000) (h2 : ∀ j, lmul (l.take j) ≤ 1000000000000000000) : Ev (fun k => impl_digitProduct.l0 k 1 (ic l) ((ic l).length : Int) 0) ((lmul l : Nat) : Int) := by
  have h := impl_digitProduct_loop l [] 1 (by simpa using h1) (fun j => by rw [Nat.one_mul]; exact h2 j)
  rw [ic_length]
  simpa using h

theorem spec_dgProduct_ev (b n : Nat) (hb : 2 ≤ b) (hn : n ≤ 1000000000000) : Ev (fun k => spec_dgProduct.f k (ic (dgl b n))) ((dmul b n : Nat) : Int) := by
  have hl := dgl_len hb n hn
  exact spec_dgProduct_all (dgl b n) (by omega) (fun j => by have := lmul_take hb n j; omega)
theorem impl_digitProduct_ev (b n : Nat) (hb : 2 ≤ b) (hn : n ≤ 1000000000000) : Ev (fun k => impl_digitProduct.f k (n : Int) (b : Int)) ((dmul b n : Nat) : Int) := by
  have hl := dgl_len hb n hn
  exact evb (impl_digitsOf_ev b n hb hn) (impl_digitProduct_all (dgl b n) (by omega) (fun j => by have := lmul_take hb n j; omega))

def harsh (b n : Nat) : Bool := decide (1 ≤ n ∧ n % dsum b n = 0)
theorem impl_isHarshad_ev (b n : Nat) (hb : 2 ≤ b) (hn : n ≤ 1000000000000) : Ev (fun k => impl_isHarshad.f k (n : Int) (b : Int)) (harsh b n) := by
  unfold impl_isHarshad.f harsh
  by_cases h : 1 ≤ n
  · have hp := dsum_pos hb n h
    refine evp (by omega) (evb (impl_digitSum_ev b n hb hn) (evn (by omega) (evr ?_)))
    rw [tmod_cast]
    by_cases h2 : n % dsum b n = 0
    · rw [h2]
      simp [h]
    · simp only [h2, and_false, decide_false]
      exact beq_eq_false_iff_ne.2 (by omega)
  · exact evn (by omega) (evr (by simp [h]))
theorem spec_prHarshad_ev (b n : Nat) (hb : 2 ≤ b) (hn : n ≤ 1000000000000) : Ev (fun k => spec_prHarshad.f k (n : Int) (b : Int)) (harsh b n) := by
  unfold spec_prHarshad.f harsh
  by_cases h : 1 ≤ n
  · have hp := dsum_pos hb n h
    refine evp (by omega) (evb (spec_dgOf_ev b n hb hn) (evb (spec_dgSum_ev b n hb hn) (evn (by omega) (evr ?_))))
    rw [tmod_cast]
    by_cases h2 : n % dsum b n = 0
    · rw [h2]
      simp [h]
    · simp only [h2, and_false, decide_false]
      exact beq_eq_false_iff_ne.2 (by omega)
  · exact evn (by omega) (evr (by simp [h]))
theorem nextHarshad_loop (b : Nat) (hb : 2 ≤ b) (d : Nat) : ∀ x : Nat, x + d = 1000000000001 → ∃ r : Int × Bool, Ev (fun k => impl_NextHarshad.l0 k (x : Int) (b : Int)) r ∧ Ev (fun k => spec_NextHarshad.l0 k (x : Int) (b : Int)) r ∧
    (r.2 = true → ∃ m : Nat, r.1 = (m : Int) ∧ x ≤ m ∧ m ≤ 1000000000000 ∧ harsh b m = true ∧ ∀ y, x ≤ y → y < m → harsh b y = false) := by
  induction d with
  | zero =>
    intro x hx
    refine ⟨(0, false), evs (fun k => by rw [impl_NextHarshad.l0]) ?_, evs (fun k => by rw [spec_NextHarshad.l0]) ?_, fun h => by simp at h⟩
    · exact evn (by omega) (Ev.now _)
    · exact evn (by omega) (Ev.now _)
  | succ d ih =>
    intro x hx
    have hi := impl_isHarshad_ev b x hb (by omega)
    have hs := spec_prHarshad_ev b x hb (by omega)
    by_cases h : harsh b x = true
    · refine ⟨((x : Int), true), evs (fun k => by rw [impl_NextHarshad.l0]) ?_, evs (fun k => by rw [spec_NextHarshad.l0]) ?_, fun _ => ⟨x, rfl, Nat.le_refl _, by omega, h, fun y h1 h2 => by omega⟩⟩
      · exact evp (by omega) (evb hi (evp h (Ev.now _)))
      · exact evp (by omega) (evb hs (evp h (Ev.now _)))
    · obtain ⟨r, h1, h2, h3⟩ := ih (x + 1) (by omega)
      refine ⟨r, evs (fun k => by rw [impl_NextHarshad.l0]) ?_, evs (fun k => by rw [spec_NextHarshad.l0]) ?_, fun hr => ?_⟩
      · rw [w64 (x := (x : Int) + 1) (by omega) (by omega)]
        exact evp (by omega) (evb hi (evn h h1))
      · rw [w64 (x := (x : Int) + 1) (by omega) (by omega)]
        exact evp (by omega) (evb hs (evn h h2))
      · obtain ⟨m, g1, g2, g3, g4, g5⟩ := h3 hr
        refine ⟨m, g1, by omega, g3, g4, fun y h4 h5 => ?_⟩
        by_cases hy : y = x
        · subst hy
          simpa using h
        · exact g5 y (by omega) h5

theorem low_byte (x : Int) : 0 ≤ Go.bits .and .u64 ((IntKind.u64.wrap x) / 1099511627776) 255 ∧ Go.bits .and .u64 ((IntKind.u64.wrap x) / 1099511627776) 255 ≤ 255 := by
  have h0 : 0 ≤ IntKind.u64.wrap x ∧ IntKind.u64.wrap x < 18446744073709551616 := by rw [IntKind.wrap_u64]; omega
  obtain ⟨y, hy⟩ := Int.eq_ofNat_of_zero_le (show 0 ≤ IntKind.u64.wrap x / 1099511627776 by omega)
  rw [hy]
  have h1 := bits_and_u64_nat y 255 (by omega) (by omega)
  have e : y &&& 255 = y % 256 := Nat.and_two_pow_sub_one_eq_mod y 8
  rw [e] at h1
  rw [show ((255 : Int)) = ((255 : Nat) : Int) from rfl, h1]
  omega
theorem next_ok (l : List Int) (hl : ∀ x ∈ l, 0 ≤ x ∧ x ≤ 255) (p s : Int) (h0 : 0 ≤ p) (h1 : p ≤ 1000000000000) :
    ∃ v s' : Int, spec_l1Cur_next.f l p s = some (v, p + 1, s') ∧ 0 ≤ v ∧ v ≤ 255 := by
  unfold spec_l1Cur_next.f
  rw [w64 (x := p + 1) (by omega) (by omega)]
  by_cases hp : p < (l.length : Int)
  · have hm := hl _ (rd_mem l p h0 hp)
    rw [if_pos hp, if_pos h0]
    by_cases hq : p + 1 ≤ (l.length : Int)
    · rw [if_pos hq]
      refine ⟨_, _, rfl, ?_⟩
      rw [w64 (by omega) (by omega)]
      exact hm
    · omega
  · rw [if_neg hp]
    by_cases hq : p + 1 ≤ (l.length : Int)
    · omega
    · rw [if_neg hq]
      refine ⟨_, _, rfl, ?_⟩
      have h := low_byte (IntKind.u64.wrap (IntKind.u64.wrap (s * 6364136223846793005)) + 1442695040888963407)
      rw [w64 (by omega) (by omega)]
      exact h
theorem pick_ok (l : List Int) (hl : ∀ x ∈ l, 0 ≤ x ∧ x ≤ 255) (p s n : Int) (h0 : 0 ≤ p) (h1 : p ≤ 999999999990) (hn : n ≤ 1000000) :
    ∃ v p' s' : Int, spec_l1Cur_pick.f l p s n = some (v, p', s') ∧ 0 ≤ v ∧ v ≤ 1000000 ∧ (v = 0 ∨ v < n) ∧ p ≤ p' ∧ p' ≤ p + 2 := by
  unfold spec_l1Cur_pick.f
  by_cases h : n ≤ 1
  · rw [if_pos h]
    exact ⟨0, p, s, rfl, by omega, by omega, by omega, by omega, by omega⟩
  · rw [if_neg h]
    obtain ⟨v, s1, e1, h2, h3⟩ := next_ok l hl p s h0 (by omega)
    rw [e1]
    simp only [Option.bind_some]
    by_cases h4 : n > 200
    · rw [if_pos h4]
      obtain ⟨v2, s2, e2, h5, h6⟩ := next_ok l hl (p + 1) s1 (by omega) (by omega)
      rw [e2]
      simp only [Option.bind_some]
      rw [if_neg (by omega), w64 (x := v * 256) (by omega) (by omega), w64 (by omega) (by omega)]
      have h7 := Int.tmod_nonneg n (show 0 ≤ v * 256 + v2 by omega)
      have h8 := Int.tmod_lt_of_pos (v * 256 + v2) (show 0 < n by omega)
      exact ⟨_, _, _, rfl, h7, by omega, Or.inr h8, by omega, by omega⟩
    · rw [if_neg h4, if_neg (by omega)]
      have h7 := Int.tmod_nonneg n (show 0 ≤ v by omega)
      have h8 := Int.tmod_lt_of_pos v (show 0 < n by omega)
      exact ⟨_, _, _, rfl, h7, by omega, Or.inr h8, by omega, by omega⟩
theorem among_ok (l : List Int) (hl : ∀ x ∈ l, 0 ≤ x ∧ x ≤ 255) (p s : Int) (m : List Int) (hm : m ≠ []) (hm2 : m.length ≤ 1000000) (h0 : 0 ≤ p) (h1 : p ≤ 999999999990) :
    ∃ v p' s' : Int, spec_l1Cur_among.f l p s m = some (v, p', s') ∧ v ∈ m ∧ p ≤ p' ∧ p' ≤ p + 2 := by
  unfold spec_l1Cur_among.f
  have hpos := List.length_pos_iff.2 hm
  obtain ⟨v, p', s', e1, h2, h3, h4, h5, h6⟩ := pick_ok l hl p s m.length h0 h1 (by omega)
  rw [e1]
  simp only [Option.bind_some]
  rw [if_pos h2, if_pos (by omega)]
  exact ⟨_, _, _, rfl, rd_mem m v h2 (by omega), h5, h6⟩

theorem base_ok (l : List Int) (hl : ∀ x ∈ l, 0 ≤ x ∧ x ≤ 255) (p s : Int) (h0 : 0 ≤ p) (h1 : p ≤ 999999999990) : ∃ v p' s' : Int, spec_l1Cur_base.f l p s = some (v, p', s') ∧ p ≤ p' ∧ p' ≤ p + 2 := by
  unfold spec_l1Cur_base.f
  obtain ⟨v, p', s', e, _, h2, h3⟩ := among_ok l hl p s [10, 10, 10, 2, 3, 5, 7, 16, 12, 10, 10, 16, 1, 17, 0] (by simp) (by simp) h0 h1
  rw [e]
  exact ⟨_, _, _, rfl, h2, h3⟩

theorem one_ok (l : List Int) (hl : ∀ x ∈ l, 0 ≤ x ∧ x ≤ 255) (p s n : Int) (h0 : 0 ≤ p) (h1 : p ≤ 999999999990) (hn : n ≤ 1000000) : ∃ (v : Bool) (p' s' : Int), spec_l1Cur_one.f l p s n = some (v, p', s') ∧ p ≤ p' ∧ p' ≤ p + 2 := by
  obtain ⟨v1, p1, s1, e1, a1, b1, c1, d1, f1⟩ := pick_ok l hl p s n h0 h1 hn
  unfold spec_l1Cur_one.f
  rw [e1]
  exact ⟨_, _, _, rfl, d1, f1⟩
theorem sureNumber_loop (l : List Int) (hl : ∀ x ∈ l, 0 ≤ x ∧ x ≤ 255) (d : Nat) : ∀ x p s : Int, 0 ≤ p → p + 2 * (d : Int) ≤ 100000000 → ∃ v p' s' : Int, Ev (fun k => spec_l1Cur_sureNumber.l0 k x (d : Int) l p s) (v, p', s') ∧ p ≤ p' ∧ p' ≤ p + 2 * (d : Int) := by
  induction d with
  | zero =>
    intro x p s h0 h1
    exact ⟨x, p, s, evs (fun k => by rw [spec_l1Cur_sureNumber.l0]) (evn (by omega) (Ev.now _)), by omega, by omega⟩
  | succ d ih =>
    intro x p s h0 h1
    obtain ⟨v, p1, s1, e1, _, _, _, h2, h3⟩ := pick_ok l hl p s 10 h0 (by omega) (by omega)
    obtain ⟨v', p2, s2, e2, h4, h5⟩ := ih (wrap64 (wrap64 (x * 10) + v)) p1 s1 (by omega) (by omega)
    refine ⟨v', p2, s2, evs (fun k => by rw [spec_l1Cur_sureNumber.l0]) (evp (by omega) ?_), by omega, by omega⟩
    simp only [e1, Option.bind_some]
    rw [w64 (x := (((d + 1 : Nat)) : Int) - 1) (by omega) (by omega), show (((d + 1 : Nat)) : Int) - 1 = (d : Int) by omega]
    exact e2
theorem sureNumber_ok (l : List Int) (hl : ∀ x ∈ l, 0 ≤ x ∧ x ≤ 255) (p s : Int) (h0 : 0 ≤ p) (h1 : p ≤ 90000000) : ∃ v p' s' : Int, Ev (fun k => spec_l1Cur_sureNumber.f k l p s) (v, p', s') ∧ p ≤ p' ∧ p' ≤ p + 30 := by
  obtain ⟨v1, p1, s1, e1, a1, b1, c1, d1, f1⟩ := pick_ok l hl p s 8 (by omega) (by omega) (by omega)
  simp only [spec_l1Cur_sureNumber.f, e1, Option.bind_some]
  by_cases h0 : v1 = 0
  · obtain ⟨v2, p2, s2, e2, a2, b2, c2, d2, f2⟩ := pick_ok l hl p1 s1 256 (by omega) (by omega) (by omega)
    refine ⟨v2, p2, s2, evp h0 ?_, by omega, by omega⟩
    simp only [e2, Option.bind_some]
    exact Ev.now _
  · by_cases h1 : v1 = 1
    · obtain ⟨v, p2, s2, e2, _, h2, h3⟩ := among_ok l hl p1 s1 [0, 1, 9, 10, 99, 100, 153, 370, 1000, 6174, 9999, 999999999999, 1000000000000] (by simp) (by simp) (by omega) (by omega)
      refine ⟨v, p2, s2, evn h0 (evp h1 ?_), by omega, by omega⟩
      simp only [e2, Option.bind_some]
      exact Ev.now _
    · by_cases h2 : v1 = 2
      · obtain ⟨v2, p2, s2, e2, a2, b2, c2, d2, f2⟩ := pick_ok l hl p1 s1 256 (by omega) (by omega) (by omega)
        obtain ⟨v3, p3, s3, e3, a3, b3, c3, d3, f3⟩ := pick_ok l hl p2 s2 256 (by omega) (by omega) (by omega)
        refine ⟨wrap64 (v2 * v3), p3, s3, evn h0 (evn h1 (evp h2 ?_)), by omega, by omega⟩
        simp only [e2, e3, Option.bind_some]
        exact Ev.now _
      · obtain ⟨v2, p2, s2, e2, a2, b2, c2, d2, f2⟩ := pick_ok l hl p1 s1 11 (by omega) (by omega) (by omega)
        obtain ⟨d, rfl⟩ := natOf (a := v2) a2
        obtain ⟨v3, p3, s3, e3, h4, h5⟩ := sureNumber_loop l hl (1 + d) 0 p2 s2 (by omega) (by omega)
        refine ⟨v3, p3, s3, evn h0 (evn h1 (evn h2 ?_)), by omega, by omega⟩
        simp only [e2, Option.bind_some]
        rw [w64 (x := (1 : Int) + (d : Int)) (by omega) (by omega)]
        simpa using e3
theorem number_ok (l : List Int) (hl : ∀ x ∈ l, 0 ≤ x ∧ x ≤ 255) (p s : Int) (h0 : 0 ≤ p) (h1 : p ≤ 80000000) : ∃ v p' s' : Int, Ev (fun k => spec_l1Cur_number.f k l p s) (v, p', s') ∧ p ≤ p' ∧ p' ≤ p + 40 := by
  obtain ⟨v1, p1, s1, e1, d1, f1⟩ := one_ok l hl p s 20 (by omega) (by omega) (by omega)
  simp only [spec_l1Cur_number.f, e1, Option.bind_some]
  by_cases h0 : v1 = true
  · obtain ⟨v, p2, s2, e2, _, h2, h3⟩ := among_ok l hl p1 s1 [(-1), 1000000000001, 4611686018427387904, (-4611686018427387904)] (by simp) (by simp) (by omega) (by omega)
    refine ⟨v, p2, s2, evp h0 ?_, by omega, by omega⟩
    simp only [e2, Option.bind_some]
    exact Ev.now _
  · obtain ⟨v, p2, s2, e2, h2, h3⟩ := sureNumber_ok l hl p1 s1 (by omega) (by omega)
    exact ⟨v, p2, s2, evn h0 (evb e2 (Ev.now _)), by omega, by omega⟩

theorem laws_qSame_loop (post : List Int) : ∀ (pre post' : List Int), post'.length = post.length → (pre ++ post).length ≤ 4611686018427387904 →
    Ev (fun k => laws_qSame.l0 k (pre ++ post) (pre ++ post') ((pre ++ post).length : Int) (pre.length : Int)) (decide (post = post')) := by
  induction post with
  | nil =>
    intro pre post' hl h
    obtain rfl : post' = [] := List.eq_nil_of_length_eq_zero hl
    refine evs (fun k => by rw [laws_qSame.l0]) ?_
    exact evn (by simp) (evr (by simp))
  | cons x post ih =>
    intro pre post' hl h
    obtain ⟨y, post', rfl⟩ : ∃ y z, post' = y :: z := by cases post' with
      | nil => simp at hl
      | cons y z => exact ⟨y, z, rfl⟩
    refine evs (fun k => by rw [laws_qSame.l0]) ?_
    refine evp (by simp; omega) (evp (by omega) (evp (by simp; omega) (evp (by simp; omega) ?_)))
    rw [rd_mid, rd_mid]
    by_cases he : x = y
    · subst he
      refine evp rfl ?_
      have h2 := ih (pre ++ [x]) post' (by simpa using hl) (by simpa using h)
      simp only [List.append_assoc, List.singleton_append] at h2
      rw [w64 (by omega) (by simp at h; omega)]
      simpa using h2
    · exact evn he (evr (by simp [he]))
theorem laws_qSame_ev (l l' : List Int) (h : l.length ≤ 4611686018427387904) : Ev (fun k => laws_qSame.f k l l') (decide (l = l')) := by
  unfold laws_qSame.f
  by_cases hl : l.length = l'.length
  · exact evp (by omega) (by simpa using laws_qSame_loop l [] l' hl.symm (by simpa using h))
  · exact evn (by omega) (evr (by symm; rw [decide_eq_false_iff_not]; exact fun e => hl (by rw [e])))
theorem laws_qSame_self (l : List Int) (h : l.length ≤ 4611686018427387904) : Ev (fun k => laws_qSame.f k l l) true := by simpa using laws_qSame_ev l l h

theorem harshad_impl (b n : Nat) (hb : 2 ≤ b) (hb2 : b ≤ 16) (hn : n ≤ 1000000000000) : Ev (fun k => impl_IsHarshad.f k (n : Int) (b : Int)) (harsh b n, true) := by
  simp only [impl_IsHarshad.f, impl_isNumber_eq, Option.bind_some, decide_eq_true_eq]
  exact evp (by omega) (evb (impl_isHarshad_ev b n hb hn) (Ev.now _))
theorem sum_impl (b n : Nat) (hb : 2 ≤ b) (hb2 : b ≤ 16) (hn : n ≤ 1000000000000) : Ev (fun k => impl_DigitSum.f k (n : Int) (b : Int)) ((dsum b n : Int), true) := by
  simp only [impl_DigitSum.f, impl_isNumber_eq, Option.bind_some, decide_eq_true_eq]
  exact evp (by omega) (evb (impl_digitSum_ev b n hb hn) (Ev.now _))
theorem mul_impl (b n : Nat) (hb : 2 ≤ b) (hb2 : b ≤ 16) (hn : n ≤ 1000000000000) : Ev (fun k => impl_DigitProduct.f k (n : Int) (b : Int)) ((dmul b n : Int), true) := by
  simp only [impl_DigitProduct.f, impl_isNumber_eq, Option.bind_some, decide_eq_true_eq]
  exact evp (by omega) (evb (impl_digitProduct_ev b n hb hn) (Ev.now _))
/-- The numbers from x on that are told by both sums and products. -/
def SP (b most : Nat) (L : List Nat) : Prop := (∀ x ∈ L, 1 ≤ x ∧ x ≤ most ∧ dsum b x * dmul b x = x) ∧ L.Pairwise (· < ·)
theorem sp_loop (b most : Nat) (hb : 2 ≤ b) (hm : most ≤ 20000) (d : Nat) : ∀ (x : Nat) (L : List Nat), 1 ≤ x → x + d = most + 1 → SP b most L → (∀ y ∈ L, y < x) → L.length < x → ∃ R : List Nat, SP b most R ∧ R.length ≤ 20001 ∧
    Ev (fun k => impl_SumProductNumbers.l0 k (b : Int) (most : Int) (ic L) (x : Int)) (ic R, true) ∧ Ev (fun k => spec_SumProductNumbers.l0 k (b : Int) (most : Int) (ic L) (x : Int)) (ic R, true) := by
  induction d with
  | zero =>
    intro x L h1 h2 h3 h4 h5
    refine ⟨L, h3, by omega, evs (fun k => by rw [impl_SumProductNumbers.l0]) ?_, evs (fun k => by rw [spec_SumProductNumbers.l0]) ?_⟩
    · exact evn (by omega) (Ev.now _)
    · exact evn (by omega) (Ev.now _)
  | succ d ih =>
    intro x L h1 h2 h3 h4 h5
    have hs := dsum_le hb x
    have hp := dmul_le hb x
    have hmul : dsum b x * dmul b x ≤ 20000 * 20000 := Nat.mul_le_mul (by omega) (by omega)
    have e1 : wrap64 ((dsum b x : Int) * (dmul b x : Int)) = ((dsum b x * dmul b x : Nat) : Int) := by rw [← Int.natCast_mul, w64n _ (by omega)]
    have hlen := ic_length L
    by_cases h : dsum b x * dmul b x = x
    · obtain ⟨R, g1, g2, g3, g4⟩ := ih (x + 1) (L ++ [x]) (by omega) (by omega) ⟨fun y hy => by
          rcases List.mem_append.1 hy with hy | hy
          · exact h3.1 y hy
          · obtain rfl := List.mem_singleton.1 hy
            exact ⟨h1, by omega, h⟩, List.pairwise_append.2 ⟨h3.2, by simp, fun y hy z hz => by
          obtain rfl := List.mem_singleton.1 hz
          exact h4 y hy⟩⟩ (fun y hy => by
          rcases List.mem_append.1 hy with hy | hy
          · have := h4 y hy; omega
          · obtain rfl := List.mem_singleton.1 hy
            omega) (by simp; omega)
      rw [ic_append, ic_cons, ic_nil] at g3 g4
      refine ⟨R, g1, g2, evs (fun k => by rw [impl_SumProductNumbers.l0]) ?_, evs (fun k => by rw [spec_SumProductNumbers.l0]) ?_⟩
      · refine evp (by omega) (evb (impl_digitSum_ev b x hb (by omega)) (evb (impl_digitProduct_ev b x hb (by omega)) ?_))
        rw [e1, w64 (x := (x : Int) + 1) (by omega) (by omega)]
        exact evp (by omega) (evp (by omega) g3)
      · refine evp (by omega) (evb (spec_dgOf_ev b x hb (by omega)) (evb (spec_dgSum_ev b x hb (by omega)) (evb (spec_dgProduct_ev b x hb (by omega)) ?_)))
        rw [e1, w64 (x := (x : Int) + 1) (by omega) (by omega)]
        exact evp (by omega) (evp (by omega) g4)
    · obtain ⟨R, g1, g2, g3, g4⟩ := ih (x + 1) L (by omega) (by omega) h3 (fun y hy => by have := h4 y hy; omega) (by omega)
      refine ⟨R, g1, g2, evs (fun k => by rw [impl_SumProductNumbers.l0]) ?_, evs (fun k => by rw [spec_SumProductNumbers.l0]) ?_⟩
      · refine evp (by omega) (evb (impl_digitSum_ev b x hb (by omega)) (evb (impl_digitProduct_ev b x hb (by omega)) ?_))
        rw [e1, w64 (x := (x : Int) + 1) (by omega) (by omega)]
        exact evn (by omega) g3
      · refine evp (by omega) (evb (spec_dgOf_ev b x hb (by omega)) (evb (spec_dgSum_ev b x hb (by omega)) (evb (spec_dgProduct_ev b x hb (by omega)) ?_)))
        rw [e1, w64 (x := (x : Int) + 1) (by omega) (by omega)]
        exact evn (by omega) g4
theorem drawSP_ok (l : List Int) (hl : ∀ x ∈ l, 0 ≤ x ∧ x ≤ 255) : ∃ b m : Int, spec_DrawSumProductNumbers.f l = some (b, m) := by
  obtain ⟨v1, p1, s1, e1, a1, b1, c1, d1, f1⟩ := pick_ok l hl 0 0 256 (by omega) (by omega) (by omega)
  obtain ⟨v2, p2, s2, e2, a2, b2, c2, d2, f2⟩ := pick_ok l hl p1 s1 8 (by omega) (by omega) (by omega)
  obtain ⟨v3, p3, s3, e3, d3, f3⟩ := one_ok l hl p2 s2 10 (by omega) (by omega) (by omega)
  simp only [spec_DrawSumProductNumbers.f, e1, e2, e3, Option.bind_some]
  by_cases h : v3 = true
  · rw [if_pos h]
    obtain ⟨v4, p4, s4, e4, _, d4, f4⟩ := among_ok l hl p3 s3 [(-1), 0, 20000, 20001] (by simp) (by simp) (by omega) (by omega)
    obtain ⟨v5, p5, s5, e5, d5, f5⟩ := base_ok l hl p4 s4 (by omega) (by omega)
    simp only [e4, e5, Option.bind_some]
    exact ⟨_, _, rfl⟩
  · rw [if_neg h]
    obtain ⟨v5, p5, s5, e5, d5, f5⟩ := base_ok l hl p3 s3 (by omega) (by omega)
    simp only [e5, Option.bind_some]
    exact ⟨_, _, rfl⟩
theorem l1_ok (b most : Nat) (hb : 2 ≤ b) (hb2 : b ≤ 16) (hm : most ≤ 20000) (R : List Nat) (hR : SP b most R) (hl : R.length ≤ 20001) (post : List Nat) : ∀ pre : List Nat, R = pre ++ post →
    Ev (fun k => laws_FnNumbersByDigits.l1 k (b : Int) (ic R) (ic R) ((ic R).length : Int) (pre.length : Int)) true := by
  have hlen := ic_length R
  induction post with
  | nil =>
    intro pre hp
    rw [List.append_nil] at hp
    subst hp
    refine evs (fun k => by rw [laws_FnNumbersByDigits.l1]) ?_
    exact evn (by omega) (Ev.now _)
  | cons x post ih =>
    intro pre hp
    have hx := hR.1 x (by rw [hp]; simp)
    have hl2 : R.length = pre.length + (post.length + 1) := by rw [hp]; simp
    have hrd : rd (ic R) (pre.length : Int) = (x : Int) := by rw [hp, ic_rd]
    have hnext := ih (pre ++ [x]) (by rw [hp]; simp)
    have e2 : (((pre ++ [x]).length : Nat) : Int) = (pre.length : Int) + 1 := by simp
    rw [e2] at hnext
    have hh : harsh b x = true := by
      have hd : dsum b x ∣ x := ⟨dmul b x, hx.2.2.symm⟩
      simp only [harsh, decide_eq_true_eq]
      exact ⟨hx.1, Nat.mod_eq_zero_of_dvd hd⟩
    refine evs (fun k => by rw [laws_FnNumbersByDigits.l1]) ?_
    rw [hrd, w64 (x := (pre.length : Int) + 1) (by omega) (by omega), w64 (x := (pre.length : Int) - 1) (by omega) (by omega)]
    rw [hlen] at hnext ⊢
    refine evp (by omega) (evp (by omega) (evp (by omega) (evb (sum_impl b x hb hb2 (by omega)) (evb (mul_impl b x hb hb2 (by omega)) (evb (harshad_impl b x hb hb2 (by omega)) (evp rfl (evp rfl (evp rfl (evp (by rw [← Int.natCast_mul, hx.2.2, w64n _ (by omega)]) (evp hh ?_))))))))))
    by_cases h0 : (pre.length : Int) > 0
    · have hr : rd (ic R) ((pre.length : Int) - 1) < (x : Int) := by
        have hm : ∃ y ∈ pre, rd (ic R) ((pre.length : Int) - 1) = (y : Int) := by
          have hp0 : pre.length - 1 < pre.length := by omega
          refine ⟨pre[pre.length - 1], List.getElem_mem _, ?_⟩
          rw [show (pre.length : Int) - 1 = ((pre.length - 1 : Nat) : Int) by omega, rd_get _ _ (by omega)]
          simp only [ic, List.getElem_map]
          subst hp
          rw [List.getElem_append_left hp0]
        obtain ⟨y, hy, e⟩ := hm
        rw [e]
        have hs := hR.2
        rw [hp] at hs
        have := (List.pairwise_append.1 hs).2.2 y hy x (by simp)
        omega
      exact evp h0 (evp (by omega) (evp (by omega) (evn (by omega) hnext)))
    · exact evn h0 hnext
theorem j5_ok (l : List Int) (hl : ∀ x ∈ l, 0 ≤ x ∧ x ≤ 255) : Ev (fun k => laws_FnNumbersByDigits.j5 k l) true := by
  obtain ⟨b, m, e⟩ := drawSP_ok l hl
  refine evs (fun k => by rw [laws_FnNumbersByDigits.j5]) ?_
  simp only [e, Option.bind_some]
  have key : ∃ (R : List Nat) (t : Bool), R.length ≤ 20001 ∧ (R = [] ∨ (2 ≤ b ∧ b ≤ 16 ∧ 0 ≤ m ∧ m ≤ 20000 ∧ SP b.toNat m.toNat R)) ∧ Ev (fun k => impl_SumProductNumbers.f k b m) (ic R, t) ∧ Ev (fun k => spec_SumProductNumbers.f k b m) (ic R, t) := by
    simp only [impl_SumProductNumbers.f, spec_SumProductNumbers.f, impl_isBase_eq, spec_dgBase_eq, impl_in_eq, spec_l1In_eq, Option.bind_some, decide_eq_true_eq]
    have n1 : Ev (fun k => impl_SumProductNumbers.j0 k b m true) (ic [], false) := by
      refine evs (fun k => by rw [impl_SumProductNumbers.j0]) ?_
      exact evp rfl (evr rfl)
    have n2 : Ev (fun k => spec_SumProductNumbers.j0 k b m true) (ic [], false) := by
      refine evs (fun k => by rw [spec_SumProductNumbers.j0]) ?_
      exact evp rfl (evr rfl)
    by_cases h : 2 ≤ b ∧ b ≤ 16
    · by_cases h2 : 0 ≤ m ∧ m ≤ 20000
      · obtain ⟨b, rfl⟩ := natOf (a := b) (by omega)
        obtain ⟨m, rfl⟩ := natOf (a := m) (by omega)
        obtain ⟨R, g1, g2, g3, g4⟩ := sp_loop b m (by omega) (by omega) m 1 [] (by omega) (by omega) ⟨by simp, by simp⟩ (by simp) (by simp)
        rw [ic_nil] at g3 g4
        refine ⟨R, true, g2, Or.inr ⟨h.1, h.2, h2.1, h2.2, by simpa using g1⟩, evp h ?_, evp h ?_⟩
        · refine evs (fun k => by rw [impl_SumProductNumbers.j0]) ?_
          exact evn (by simp [h2]) g3
        · refine evs (fun k => by rw [spec_SumProductNumbers.j0]) ?_
          exact evn (by simp [h2]) g4
      · refine ⟨[], false, by simp, Or.inl rfl, evp h ?_, evp h ?_⟩
        · simpa [h2] using n1
        · simpa [h2] using n2
    · exact ⟨[], false, by simp, Or.inl rfl, evn h n1, evn h n2⟩
  obtain ⟨R, t, h1, h2, h3, h4⟩ := key
  refine evb h3 (evb h4 (evn (by simp) (evb (laws_qSame_self _ (by simp only [ic_length]; omega)) ?_)))
  refine evs (fun k => by rw [laws_FnNumbersByDigits.j6]) ?_
  refine evn (by simp) ?_
  rcases h2 with rfl | ⟨h5, h6, h7, h8, h9⟩
  · refine evs (fun k => by rw [laws_FnNumbersByDigits.l1]) ?_
    exact evn (by simp [ic]) (Ev.now _)
  · obtain ⟨b, rfl⟩ := natOf (a := b) (by omega)
    rw [Int.toNat_natCast] at h9
    exact l1_ok b m.toNat (by omega) (by omega) (by omega) R h9 h1 R [] rfl
theorem j3_ok (l : List Int) (hl : ∀ x ∈ l, 0 ≤ x ∧ x ≤ 255) (b n : Nat) (hb : 2 ≤ b) (hb2 : b ≤ 16) (hn : n ≤ 1000000000000) (z : Bool) (hz : z = decide (0 < dmul b n ∧ n % dmul b n = 0)) : Ev (fun k => laws_FnNumbersByDigits.j3 k l (n : Int) (b : Int) (harsh b n) true z) true := by
  refine evs (fun k => by rw [laws_FnNumbersByDigits.j3]) ?_
  refine evp rfl ?_
  refine evs (fun k => by rw [laws_FnNumbersByDigits.j4]) ?_
  by_cases h : (n : Int) > 0
  · have hp := dsum_pos hb n (by omega)
    refine evp (decide_eq_true h) (evb (sum_impl b n hb hb2 hn) (evb (mul_impl b n hb hb2 hn) (evp rfl (evp rfl (evn (by simp only; omega) ?_)))))
    simp only [tmod_cast]
    refine evn ?_ ?_
    · have e : harsh b n = (((n % dsum b n : Nat) : Int) == 0) := by
        unfold harsh
        by_cases h2 : n % dsum b n = 0
        · rw [h2]
          simp
          omega
        · have e3 : (((n % dsum b n : Nat) : Int) == 0) = false := beq_eq_false_iff_ne.2 (by omega)
          rw [e3]
          simp [h2]
      rw [← e]
      simp
    · by_cases h3 : (dmul b n : Int) > 0
      · refine evp h3 (evn (by omega) (evn ?_ (j5_ok l hl)))
        rw [hz]
        by_cases h2 : n % dmul b n = 0
        · rw [h2]
          simp
          omega
        · have e3 : (((n % dmul b n : Nat) : Int) == 0) = false := beq_eq_false_iff_ne.2 (by omega)
          rw [e3]
          simp [h2]
      · refine evn h3 (evn ?_ (j5_ok l hl))
        rw [hz]
        have : ¬ 0 < dmul b n := by omega
        simp [this]
  · exact evn (by simp; omega) (j5_ok l hl)
theorem l0_ok (l : List Int) (hl : ∀ x ∈ l, 0 ≤ x ∧ x ≤ 255) (b n : Nat) (hb : 2 ≤ b) (hb2 : b ≤ 16) (hn : n ≤ 1000000000000) (z : Bool) (hz : z = decide (0 < dmul b n ∧ n % dmul b n = 0)) (m : Nat) (hm : m ≤ 1000000000000) (hno : ∀ y, n + 1 ≤ y → y < m → harsh b y = false) (d : Nat) :
    ∀ x : Nat, n + 1 ≤ x → x + d = m → Ev (fun k => laws_FnNumbersByDigits.l0 k l (n : Int) (b : Int) (m : Int) (harsh b n) true z (x : Int)) true := by
  induction d with
  | zero =>
    intro x h1 h2
    refine evs (fun k => by rw [laws_FnNumbersByDigits.l0]) ?_
    exact evn (by omega) (j3_ok l hl b n hb hb2 hn z hz)
  | succ d ih =>
    intro x h1 h2
    have h3 := hno x h1 (by omega)
    have h4 := harshad_impl b x hb hb2 (by omega)
    rw [h3] at h4
    refine evs (fun k => by rw [laws_FnNumbersByDigits.l0]) ?_
    rw [w64 (x := (x : Int) + 1) (by omega) (by omega)]
    exact evp (by omega) (evb h4 (evp rfl (evn (by simp) (ih (x + 1) (by omega) (by omega)))))
theorem FnNumbersByDigits : laws_FnNumbersByDigits.Pure := by
  intro l0 l1 _ _ w0 _ _ w1
  have hb : ∀ l : List Int, (∀ x ∈ l, (Lit.int .u8 x).wf = true) → ∀ x ∈ l, 0 ≤ x ∧ x ≤ 255 := by
    intro l h x hx
    have := h x hx
    simpa [Lit.wf, IntKind.min, IntKind.max, IntKind.signed, IntKind.bits] using this
  have hl0 := hb l0 w0
  have hl1 := hb l1 w1
  refine Ev.rounds (g := fun k => laws_FnNumbersByDigits.f k l0 l1) ?_
  unfold laws_FnNumbersByDigits.f
  obtain ⟨t, ht⟩ : ∃ t, laws_big.f l0 l1 = some t := by
    unfold laws_big.f
    split <;> exact ⟨_, rfl⟩
  rw [ht]
  simp only [Option.bind_some]
  cases t with
  | true => exact evp rfl (Ev.now _)
  | false =>
    refine evn (by simp) ?_
    obtain ⟨n, p, s, e1, h1, h2⟩ := number_ok l0 hl0 0 0 (by omega) (by omega)
    obtain ⟨b, p2, s2, e2, h3, h4⟩ := base_ok l0 hl0 p s (by omega) (by omega)
    have hd0 : Ev (fun k => spec_DrawProductRun.f k l0) (n, b) := by
      refine evb e1 ?_
      simp only [e2, Option.bind_some]
      exact Ev.now _
    have hd : Ev (fun k => spec_DrawNextHarshad.f k l0) (n, b) := evb hd0 (Ev.now _)
    refine evb hd ?_
    by_cases h : (0 ≤ n ∧ n ≤ 1000000000000) ∧ 2 ≤ b ∧ b ≤ 16
    · obtain ⟨n, rfl⟩ := natOf (a := n) (by omega)
      obtain ⟨b, rfl⟩ := natOf (a := b) (by omega)
      have hb : 2 ≤ b := by omega
      have hb2 : b ≤ 16 := by omega
      have hn : n ≤ 1000000000000 := by omega
      obtain ⟨r, ri, rs, hr⟩ := nextHarshad_loop b hb (1000000000000 - n) (n + 1) (by omega)
      have g1 : Ev (fun k => impl_NextHarshad.f k (n : Int) (b : Int)) r := by
        simp only [impl_NextHarshad.f, impl_isNumber_eq, Option.bind_some, decide_eq_true_eq]
        rw [w64 (by omega) (by omega)]
        exact evp h ri
      have g2 : Ev (fun k => spec_NextHarshad.f k (n : Int) (b : Int)) r := by
        simp only [spec_NextHarshad.f, spec_dgAsked_eq, Option.bind_some, decide_eq_true_eq]
        rw [w64 (by omega) (by omega)]
        exact evp h rs
      have g3 := harshad_impl b n hb hb2 hn
      have g4 : Ev (fun k => spec_IsHarshad.f k (n : Int) (b : Int)) (harsh b n, true) := by
        simp only [spec_IsHarshad.f, spec_dgAsked_eq, Option.bind_some, decide_eq_true_eq]
        exact evp h (evb (spec_prHarshad_ev b n hb hn) (Ev.now _))
      obtain ⟨z, hz⟩ : ∃ z, z = decide (0 < dmul b n ∧ n % dmul b n = 0) := ⟨_, rfl⟩
      have hz2 : 0 < dmul b n → (((n % dmul b n : Nat) : Int) == 0) = z := by
        intro h5
        rw [hz]
        by_cases h2 : n % dmul b n = 0
        · rw [h2]
          simp
          omega
        · have e3 : (((n % dmul b n : Nat) : Int) == 0) = false := beq_eq_false_iff_ne.2 (by omega)
          rw [e3]
          simp [h2]
      have hz3 : ¬ 0 < dmul b n → z = false := by
        intro h5
        rw [hz]
        simp [h5]
      have g5 : Ev (fun k => impl_IsZuckerman.f k (n : Int) (b : Int)) (z, true) := by
        simp only [impl_IsZuckerman.f, impl_isNumber_eq, Option.bind_some, decide_eq_true_eq]
        refine evp h (evb (impl_digitProduct_ev b n hb hn) ?_)
        simp only [tmod_cast]
        by_cases h5 : 0 < dmul b n
        · exact evp (by omega) (evn (by omega) (evr (by rw [hz2 h5])))
        · exact evn (by omega) (evr (by rw [hz3 h5]))
      have g6 : Ev (fun k => spec_IsZuckerman.f k (n : Int) (b : Int)) (z, true) := by
        simp only [spec_IsZuckerman.f, spec_dgAsked_eq, Option.bind_some, decide_eq_true_eq]
        refine evp h (evb (spec_dgOf_ev b n hb hn) (evb (spec_dgProduct_ev b n hb hn) ?_))
        simp only [tmod_cast]
        by_cases h5 : 0 < dmul b n
        · exact evp (by omega) (evn (by omega) (evr (by rw [hz2 h5])))
        · exact evn (by omega) (evr (by rw [hz3 h5]))
      refine evb g1 (evb g2 (evb g3 (evb g4 (evb g5 (evb g6 (evn (by simp) (evp rfl (evn (by simp) (evn (by simp) (evn (by simp) (evn (by simp) (evn (by simp) ?_))))))))))))
      by_cases hr2 : r.2 = true
      · obtain ⟨m, k1, k2, k3, k4, k5⟩ := hr hr2
        obtain ⟨r1, r2⟩ := r
        simp only at hr2 k1
        subst hr2 k1
        refine evp rfl ?_
        refine evs (fun k => by rw [laws_FnNumbersByDigits.j0]) ?_
        have h5 := harshad_impl b m hb hb2 k3
        rw [k4] at h5
        refine evn (by simp) (evp rfl (evb h5 (evp rfl (evp rfl ?_))))
        have e5 : decide ((m : Int) ≤ (n : Int)) = false := decide_eq_false (by omega)
        rw [e5]
        refine evs (fun k => by rw [laws_FnNumbersByDigits.j1]) ?_
        rw [w64 (x := (n : Int) + 1) (by omega) (by omega)]
        exact evn (by simp) (l0_ok l1 hl1 b n hb hb2 hn z hz m k3 k5 (m - (n + 1)) (n + 1) (by omega) (by omega))
      · refine evn hr2 ?_
        refine evs (fun k => by rw [laws_FnNumbersByDigits.j0]) ?_
        exact evn (by simp) (evn hr2 (j3_ok l1 hl1 b n hb hb2 hn z hz))
    · have g1 : Ev (fun k => impl_NextHarshad.f k n b) (0, false) := by
        simp only [impl_NextHarshad.f, impl_isNumber_eq, Option.bind_some, decide_eq_true_eq]
        exact evn h (Ev.now _)
      have g2 : Ev (fun k => spec_NextHarshad.f k n b) (0, false) := by
        simp only [spec_NextHarshad.f, spec_dgAsked_eq, Option.bind_some, decide_eq_true_eq]
        exact evn h (Ev.now _)
      have g3 : Ev (fun k => impl_IsHarshad.f k n b) (false, false) := by
        simp only [impl_IsHarshad.f, impl_isNumber_eq, Option.bind_some, decide_eq_true_eq]
        exact evn h (Ev.now _)
      have g4 : Ev (fun k => spec_IsHarshad.f k n b) (false, false) := by
        simp only [spec_IsHarshad.f, spec_dgAsked_eq, Option.bind_some, decide_eq_true_eq]
        exact evn h (Ev.now _)
      have g5 : Ev (fun k => impl_IsZuckerman.f k n b) (false, false) := by
        simp only [impl_IsZuckerman.f, impl_isNumber_eq, Option.bind_some, decide_eq_true_eq]
        exact evn h (Ev.now _)
      have g6 : Ev (fun k => spec_IsZuckerman.f k n b) (false, false) := by
        simp only [spec_IsZuckerman.f, spec_dgAsked_eq, Option.bind_some, decide_eq_true_eq]
        exact evn h (Ev.now _)
      refine evb g1 (evb g2 (evb g3 (evb g4 (evb g5 (evb g6 (evn (by simp) (evp rfl (evn (by simp) (evn (by simp) (evn (by simp) (evn (by simp) (evn (by simp) ?_))))))))))))
      refine evn (by simp) ?_
      refine evs (fun k => by rw [laws_FnNumbersByDigits.j0]) ?_
      refine evn (by simp) (evn (by simp) ?_)
      refine evs (fun k => by rw [laws_FnNumbersByDigits.j3]) ?_
      refine evn (by simp) ?_
      refine evs (fun k => by rw [laws_FnNumbersByDigits.j4]) ?_
      exact evn (by simp) (j5_ok l1 hl1)

end Go.Proofs.Ytikkpehjleoplaa.Pure
