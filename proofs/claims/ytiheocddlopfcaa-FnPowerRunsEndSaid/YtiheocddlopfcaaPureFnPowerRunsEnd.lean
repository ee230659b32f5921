/- For all codes: runs of power sums end in one of the told cycles, numbers with enough digits fall, and equal digits go the same way. -/
import Derived.Test.YtiheocddlopfcaaPFnPowerRunsEndx7
import Derived.Test.YtiheocddlopfcaaWMore
set_option linter.unusedVariables false
set_option linter.unusedSimpArgs false
namespace Go.Proofs.Ytiheocddlopfcaa.Pure
open Go.RowKit Go.Proofs.Ytiheocddlopfcaa.PFnPowerRunsEnd Go.Proofs.YtiheocddlopfcaaW.PrintWords Go.Proofs.YtiheocddlopfcaaW.PrintLast

theorem w64 {x : Int} (h1 : -9223372036854775808 ≤ x) (h2 : x ≤ 9223372036854775807) : wrap64 x = x := by unfold wrap64; omega

theorem w64n (n : Nat) (h : n ≤ 9223372036854775807) : wrap64 (n : Int) = (n : Int) := w64 (by omega) (by omega)

theorem evp {α : Type} {c : Prop} [Decidable c] {a b : Nat → Option α} {r : α} (h : c) (k : Ev a r) : Ev (fun n => if c then a n else b n) r := Ev.congr (fun _ => if_pos h) k
theorem evn {α : Type} {c : Prop} [Decidable c] {a b : Nat → Option α} {r : α} (h : ¬ c) (k : Ev b r) : Ev (fun n => if c then a n else b n) r := Ev.congr (fun _ => if_neg h) k
theorem evr {α : Type} {x r : α} (h : x = r) : Ev (fun _ => some x) r := h ▸ Ev.now x
theorem evb {α β : Type} {g : Nat → Option α} {f : Nat → α → Option β} {a : α} {r : β} (h : Ev g a) (k : Ev (fun n => f n a) r) : Ev (fun n => (g n).bind fun x => f n x) r := Ev.bind h k
theorem evc {α β : Type} {x : Option α} {a : α} {f : Nat → α → Option β} {r : β} (h : x = some a) (k : Ev (fun n => f n a) r) : Ev (fun n => x.bind fun y => f n y) r := by subst h; exact k
theorem evs {α : Type} {g f : Nat → Option α} {r : α} (h : ∀ k, g (k + 1) = f k) (k : Ev f r) : Ev g r := Ev.step h k
theorem rd_mid (pre post : List Int) (x : Int) : rd (pre ++ x :: post) (pre.length : Int) = x := by simp [rd]
theorem set_mid {α : Type} (pre post : List α) (x y : α) : (pre ++ x :: post).set pre.length y = pre ++ y :: post := by simp
theorem rd_nat (xs : List Int) (i : Nat) : rd xs (i : Int) = xs.getD i 0 := by simp [rd]
theorem rd_get (xs : List Int) (i : Nat) (h : i < xs.length) : rd xs (i : Int) = xs[i] := by simp [rd, h]
theorem rd_mem (xs : List Int) (i : Int) (h0 : 0 ≤ i) (h : i < xs.length) : rd xs i ∈ xs := by
  have hi : i.toNat < xs.length := by omega
  simp only [rd, List.getD_eq_getElem?_getD, List.getElem?_eq_getElem hi, Option.getD_some]
  exact List.getElem_mem hi
def ic (l : List Nat) : List Int := l.map (fun x : Nat => (x : Int))
theorem ic_cons (x : Nat) (l : List Nat) : ic (x :: l) = (x : Int) :: ic l := rfl
theorem ic_append (l m : List Nat) : ic (l ++ m) = ic l ++ ic m := by simp [ic]
theorem ic_length (l : List Nat) : (ic l).length = l.length := by simp [ic]
theorem ic_drop (l : List Nat) (k : Nat) : (ic l).drop k = ic (l.drop k) := by simp [ic, List.map_drop]
def lsd (b : Nat) : Nat → Nat → List Nat
  | 0, _ => []
  | f + 1, n => if n = 0 then [] else n % b :: lsd b f (n / b)
theorem lsd_zero (b f : Nat) : lsd b f 0 = [] := by cases f <;> simp [lsd]
theorem lsd_fuel {b : Nat} (hb : 2 ≤ b) (n : Nat) : ∀ f g : Nat, n ≤ f → n ≤ g → lsd b f n = lsd b g n := by
  induction n using Nat.strongRecOn with
  | _ n ih =>
    intro f g hf hg
    by_cases h : n = 0
    · subst h
      rw [lsd_zero, lsd_zero]
    · obtain ⟨f, rfl⟩ : ∃ x, f = x + 1 := ⟨f - 1, by omega⟩
      obtain ⟨g, rfl⟩ : ∃ x, g = x + 1 := ⟨g - 1, by omega⟩
      have hlt : n / b < n := Nat.div_lt_self (by omega) (by omega)
      simp only [lsd, if_neg h]
      rw [ih (n / b) hlt f g (by omega) (by omega)]
def low (b n : Nat) : List Nat := lsd b n n
theorem low_zero (b : Nat) : low b 0 = [] := rfl
theorem low_succ {b n : Nat} (hb : 2 ≤ b) (hn : 1 ≤ n) : low b n = n % b :: low b (n / b) := by
  obtain ⟨m, rfl⟩ : ∃ x, n = x + 1 := ⟨n - 1, by omega⟩
  have hlt : (m + 1) / b < m + 1 := Nat.div_lt_self (by omega) (by omega)
  show lsd b (m + 1) (m + 1) = _
  simp only [lsd]
  rw [if_neg (by omega)]
  show _ = _ :: lsd b _ _
  rw [lsd_fuel hb ((m + 1) / b) m ((m + 1) / b) (by omega) (Nat.le_refl _)]
def dgl (b n : Nat) : List Nat := if n = 0 then [0] else (low b n).reverse
def val (b : Nat) (v : Nat) : List Nat → Nat
  | [] => v
  | d :: l => val b (v * b + d) l
theorem val_append (b v : Nat) (l m : List Nat) : val b v (l ++ m) = val b (val b v l) m := by
  induction l generalizing v with
  | nil => rfl
  | cons d l ih => exact ih _
theorem val_ge {b : Nat} (hb : 1 ≤ b) (l : List Nat) : ∀ v : Nat, v ≤ val b v l := by
  induction l with
  | nil => intro v; exact Nat.le_refl _
  | cons d l ih =>
    intro v
    have h := ih (v * b + d)
    have h2 : v * 1 ≤ v * b := Nat.mul_le_mul_left _ hb
    simp only [val]
    omega
theorem low_lt {b : Nat} (hb : 2 ≤ b) (n : Nat) : ∀ d ∈ low b n, d < b := by
  induction n using Nat.strongRecOn with
  | _ n ih =>
    by_cases h : n = 0
    · subst h
      simp [low_zero]
    · have hlt : n / b < n := Nat.div_lt_self (by omega) (by omega)
      rw [low_succ hb (by omega)]
      intro d hd
      rcases List.mem_cons.1 hd with rfl | hd
      · exact Nat.mod_lt _ (by omega)
      · exact ih _ hlt d hd
theorem low_val {b : Nat} (hb : 2 ≤ b) (n : Nat) : val b 0 (low b n).reverse = n := by
  induction n using Nat.strongRecOn with
  | _ n ih =>
    by_cases h : n = 0
    · subst h
      rfl
    · have hlt : n / b < n := Nat.div_lt_self (by omega) (by omega)
      rw [low_succ hb (by omega), List.reverse_cons, val_append, ih _ hlt]
      simp only [val]
      have := Nat.div_add_mod n b
      rw [Nat.mul_comm (n / b) b]
      omega
theorem dgl_val {b : Nat} (hb : 2 ≤ b) (n : Nat) : val b 0 (dgl b n) = n := by
  unfold dgl
  by_cases h : n = 0
  · subst h
    rw [if_pos rfl]
    simp [val]
  · rw [if_neg h, low_val hb]
theorem dgl_lt {b : Nat} (hb : 2 ≤ b) (n : Nat) : ∀ d ∈ dgl b n, d < b := by
  unfold dgl
  by_cases h : n = 0
  · subst h
    rw [if_pos rfl]
    intro d hd
    rw [List.mem_singleton.1 hd]
    omega
  · rw [if_neg h]
    intro d hd
    exact low_lt hb n d (List.mem_reverse.1 hd)
theorem low_len {b : Nat} (hb : 2 ≤ b) (k : Nat) : ∀ n : Nat, n < 2 ^ k → (low b n).length ≤ k := by
  induction k with
  | zero =>
    intro n hn
    have : n = 0 := by rw [Nat.pow_zero] at hn; omega
    subst this
    simp [low_zero]
  | succ k ih =>
    intro n hn
    by_cases h : n = 0
    · subst h
      simp [low_zero]
    · rw [low_succ hb (by omega), List.length_cons]
      have h2 : n / b < 2 ^ k := by
        refine Nat.div_lt_of_lt_mul ?_
        rw [Nat.pow_succ] at hn
        have : 2 * 2 ^ k ≤ b * 2 ^ k := Nat.mul_le_mul_right _ hb
        omega
      have := ih _ h2
      omega
theorem dgl_len1 {b : Nat} (hb : 2 ≤ b) (n : Nat) (hn : n ≤ 1000000000001) : 1 ≤ (dgl b n).length ∧ (dgl b n).length ≤ 40 := by
  unfold dgl
  by_cases h : n = 0
  · subst h
    rw [if_pos rfl]
    simp
  · rw [if_neg h, List.length_reverse]
    refine ⟨?_, low_len hb 40 n (by omega)⟩
    rw [low_succ hb (by omega), List.length_cons]
    omega
theorem dgl_len {b : Nat} (hb : 2 ≤ b) (n : Nat) (hn : n ≤ 1000000000000) : 1 ≤ (dgl b n).length ∧ (dgl b n).length ≤ 40 := dgl_len1 hb n (by omega)
theorem ic_reverse (l : List Nat) : ic l.reverse = (ic l).reverse := by simp [ic]
theorem ic_rd (pre post : List Nat) (x : Nat) : rd (ic (pre ++ x :: post)) (pre.length : Int) = (x : Int) := by
  rw [ic_append, ic_cons, show ((pre.length : Nat) : Int) = (((ic pre).length : Nat) : Int) by simp [ic], rd_mid]

def Ev2 {α : Type} (g : Nat → Nat → Option α) (r : α) : Prop := ∃ K, ∀ i j, K ≤ i → K ≤ j → g i j = some r
theorem Ev2.diag {α : Type} {g : Nat → Nat → Option α} {r : α} (h : Ev2 g r) : Ev (fun k => g k k) r := by
  obtain ⟨K, h⟩ := h
  exact ⟨K, fun k hk => h k k hk hk⟩
theorem Ev2.step {α β : Type} {g : Nat → Nat → Option α} {a : Nat → Option β} {f : Nat → Nat → β → Option α} {y : β} {r : α} (h : ∀ i j, g i (j + 1) = (a i).bind fun z => f i j z) (ha : Ev a y) (hf : Ev2 (fun i j => f i j y) r) : Ev2 g r := by
  obtain ⟨K, ha⟩ := ha
  obtain ⟨L, hf⟩ := hf
  refine ⟨K + L + 1, fun i j hi hj => ?_⟩
  obtain ⟨j, rfl⟩ : ∃ m, j = m + 1 := ⟨j - 1, by omega⟩
  rw [h, ha i (by omega), Option.bind_some]
  exact hf i j (by omega) (by omega)
theorem Ev2.done {α : Type} {g : Nat → Nat → Option α} {r : α} (h : ∀ i j, g i (j + 1) = some r) : Ev2 g r := by
  refine ⟨1, fun i j hi hj => ?_⟩
  obtain ⟨j, rfl⟩ : ∃ m, j = m + 1 := ⟨j - 1, by omega⟩
  exact h i j
theorem Ev2.congr_ {α : Type} {g f : Nat → Nat → Option α} {r s : α} (h : ∀ i j, g i j = f i j) (hf : Ev2 f r) (e : r = s := by first | rfl | simp) : Ev2 g s := by
  subst e
  obtain ⟨L, hf⟩ := hf
  exact ⟨L, fun i j hi hj => by rw [h]; exact hf i j hi hj⟩

def leastI (l : List Int) : Int := l.foldl min (l.headD 0)
theorem foldmin_le (l : List Int) : ∀ a : Int, l.foldl min a ≤ a ∧ (∀ x ∈ l, l.foldl min a ≤ x) ∧ (l.foldl min a = a ∨ l.foldl min a ∈ l) := by
  induction l with
  | nil => intro a; simp
  | cons y l ih =>
    intro a
    obtain ⟨h1, h2, h3⟩ := ih (min a y)
    simp only [List.foldl_cons]
    refine ⟨by omega, fun x hx => ?_, ?_⟩
    · rcases List.mem_cons.1 hx with rfl | hx
      · omega
      · exact h2 x hx
    · rcases h3 with h3 | h3
      · by_cases h : a ≤ y
        · left; omega
        · right; rw [h3, show min a y = y by omega]; exact List.mem_cons_self
      · right; exact List.mem_cons_of_mem _ h3
theorem leastI_le (l : List Int) (x : Int) (h : x ∈ l) : leastI l ≤ x := (foldmin_le l _).2.1 x h
theorem leastI_mem (l : List Int) (h : l ≠ []) : leastI l ∈ l := by
  cases l with
  | nil => exact absurd rfl h
  | cons a l =>
    rcases (foldmin_le (a :: l) ((a :: l).headD 0)).2.2 with h2 | h2
    · unfold leastI
      rw [h2]
      exact List.mem_cons_self
    · exact h2
theorem impl_in_eq (a b c : Int) : impl_in.f a b c = some (decide (b ≤ a ∧ a ≤ c)) := by
  unfold impl_in.f
  by_cases h : b ≤ a <;> simp [h]
theorem spec_l1In_eq (a b c : Int) : spec_l1In.f a b c = some (decide (b ≤ a ∧ a ≤ c)) := by
  unfold spec_l1In.f
  by_cases h : b ≤ a <;> simp [h]

theorem impl_isBase_eq (b : Int) : impl_isBase.f b = some (decide (2 ≤ b ∧ b ≤ 16)) := by simp only [impl_isBase.f, impl_in_eq, Option.bind_some]
theorem spec_dgBase_eq (b : Int) : spec_dgBase.f b = some (decide (2 ≤ b ∧ b ≤ 16)) := by simp only [spec_dgBase.f, spec_l1In_eq, Option.bind_some]

theorem impl_isNumber_eq (n b : Int) : impl_isNumber.f n b = some (decide ((0 ≤ n ∧ n ≤ 1000000000000) ∧ 2 ≤ b ∧ b ≤ 16)) := by
  simp only [impl_isNumber.f, impl_in_eq, impl_isBase_eq, Option.bind_some, decide_eq_true_eq]
  by_cases h : 0 ≤ n ∧ n ≤ 1000000000000 <;> simp [h]
theorem spec_dgAsked_eq (n b : Int) : spec_dgAsked.f n b = some (decide ((0 ≤ n ∧ n ≤ 1000000000000) ∧ 2 ≤ b ∧ b ≤ 16)) := by
  simp only [spec_dgAsked.f, spec_dgNumber.f, spec_l1In_eq, spec_dgBase_eq, Option.bind_some, decide_eq_true_eq]
  by_cases h : 0 ≤ n ∧ n ≤ 1000000000000 <;> simp [h]

theorem pigeon (n : Nat) : ∀ f : Nat → Nat, (∀ i, i ≤ n → f i < n) → ∃ i j, i < j ∧ j ≤ n ∧ f i = f j := by
  induction n with
  | zero => intro f h; exact absurd (h 0 (Nat.le_refl _)) (by omega)
  | succ n ih =>
    intro f h
    by_cases hc : ∃ i, i ≤ n ∧ f i = f (n + 1)
    · obtain ⟨i, hi, he⟩ := hc
      exact ⟨i, n + 1, by omega, Nat.le_refl _, he⟩
    · have hv := h (n + 1) (Nat.le_refl _)
      have hne : ∀ i, i ≤ n → f i ≠ f (n + 1) := fun i hi he => hc ⟨i, hi, he⟩
      obtain ⟨i, j, hij, hj, he⟩ := ih (fun i => if f i = n then f (n + 1) else f i) (fun i hi => by
        have h1 := h i (by omega)
        have h2 := hne i hi
        show (if f i = n then f (n + 1) else f i) < n
        split <;> omega)
      refine ⟨i, j, hij, by omega, ?_⟩
      have h1 := hne i (by omega)
      have h2 := hne j hj
      (try simp only at he)
      split at he <;> split at he <;> omega
theorem least_of {P : Nat → Prop} (h : ∃ k, P k) : ∃ k, P k ∧ ∀ j, j < k → ¬ P j := by
  obtain ⟨k, hk⟩ := h
  induction k using Nat.strongRecOn with
  | _ k ih =>
    by_cases hc : ∃ j, j < k ∧ P j
    · obtain ⟨j, hj, hp⟩ := hc
      exact ih j hj hp
    · exact ⟨k, hk, fun j hj hp => hc ⟨j, hj, hp⟩⟩
theorem tmod_cast (a b : Nat) : Int.tmod (a : Int) (b : Int) = ((a % b : Nat) : Int) := (Int.ofNat_tmod a b).symm
theorem tdiv_cast (a b : Nat) : Int.tdiv (a : Int) (b : Int) = ((a / b : Nat) : Int) := (Int.ofNat_tdiv a b).symm
theorem natOf {a : Int} (h : 0 ≤ a) : ∃ n : Nat, a = (n : Int) := ⟨a.toNat, by omega⟩

theorem reverse_loop (n : Nat) : ∀ (mid pre post : List Int), mid.length ≤ n → pre.length = post.length → (pre ++ mid ++ post).length ≤ 1000000000000 →
    Ev (fun k => slices_Reverse_int_int.l0 k (pre ++ mid ++ post) (pre.length : Int) ((pre.length : Int) + (mid.length : Int) - 1)) (pre ++ mid.reverse ++ post) := by
  induction n with
  | zero =>
    intro mid pre post hm _ _
    obtain rfl : mid = [] := List.eq_nil_of_length_eq_zero (by omega)
    refine evs (fun k => by rw [slices_Reverse_int_int.l0]) ?_
    exact evn (by simp; omega) (evr (by simp))
  | succ n ih =>
    intro mid pre post hm hp hl
    cases mid with
    | nil =>
      refine evs (fun k => by rw [slices_Reverse_int_int.l0]) ?_
      exact evn (by simp; omega) (evr (by simp))
    | cons a t =>
      by_cases ht : t = []
      · subst ht
        refine evs (fun k => by rw [slices_Reverse_int_int.l0]) ?_
        exact evn (by simp) (evr (by simp))
      · obtain ⟨m, b, rfl⟩ : ∃ m b, t = m ++ [b] := ⟨t.dropLast, t.getLast ht, (List.dropLast_concat_getLast ht).symm⟩
        simp only [List.length_append, List.length_cons, List.length_nil] at hm hl
        have e0 : pre ++ (a :: (m ++ [b])) ++ post = pre ++ a :: (m ++ b :: post) := by simp
        have e1 : pre ++ (a :: (m ++ [b])) ++ post = (pre ++ a :: m) ++ b :: post := by simp
        have hj : ((pre.length : Int) + (((a :: (m ++ [b])).length : Nat) : Int) - 1) = (((pre ++ a :: m).length : Nat) : Int) := by simp; omega
        have r1 : rd (pre ++ (a :: (m ++ [b])) ++ post) (((pre ++ a :: m).length : Nat) : Int) = b := by rw [e1, rd_mid]
        have r0 : rd (pre ++ (a :: (m ++ [b])) ++ post) ((pre.length : Nat) : Int) = a := by rw [e0, rd_mid]
        have hset : ((pre ++ (a :: (m ++ [b])) ++ post).set (pre.length : Int).toNat b).set (((pre ++ a :: m).length : Nat) : Int).toNat a = (pre ++ [b]) ++ m ++ (a :: post) := by
          rw [e0, Int.toNat_natCast, Int.toNat_natCast, set_mid]
          have e2 : pre ++ b :: (m ++ b :: post) = (pre ++ b :: m) ++ b :: post := by simp
          have e3 : (pre ++ a :: m).length = (pre ++ b :: m).length := by simp
          rw [e2, e3, set_mid]
          simp
        have h := ih m (pre ++ [b]) (a :: post) (by omega) (by simp; omega) (by simp; omega)
        have hj2 : (((pre ++ a :: m).length : Nat) : Int) = (pre.length : Int) + (m.length : Int) + 1 := by simp; omega
        have hlen : (((pre ++ (a :: (m ++ [b])) ++ post).length : Nat) : Int) = (pre.length : Int) + (m.length : Int) + 2 + (post.length : Int) := by simp; omega
        refine evs (fun k => by rw [slices_Reverse_int_int.l0]) ?_
        rw [hj, r1, r0, hset, hlen, hj2, w64 (x := (pre.length : Int) + 1) (by omega) (by omega), w64 (x := (pre.length : Int) + (m.length : Int) + 1 - 1) (by omega) (by omega)]
        refine evp (by omega) (evp (by omega) (evp (by omega) (evp (by omega) (evp (by omega) ?_))))
        have e4 : (((pre ++ [b]).length : Nat) : Int) = (pre.length : Int) + 1 := by simp
        rw [e4, show (pre.length : Int) + 1 + (m.length : Int) - 1 = (pre.length : Int) + (m.length : Int) + 1 - 1 by omega] at h
        have e5 : (pre ++ [b]) ++ m.reverse ++ (a :: post) = pre ++ (a :: (m ++ [b])).reverse ++ post := by simp
        rw [e5] at h
        exact h
theorem reverse_ev (l : List Int) (h : l.length ≤ 1000000000000) : Ev (fun k => slices_Reverse_int_int.f k l) l.reverse := by
  unfold slices_Reverse_int_int.f
  rw [w64 (by omega) (by omega)]
  have := reverse_loop l.length l [] [] (Nat.le_refl _) rfl (by simpa using h)
  simpa using this

theorem impl_digitsOf_loop (b : Nat) (hb : 2 ≤ b) (n : Nat) : ∀ acc : List Nat, acc.length + (low b n).length ≤ 1000000 → n ≤ 1000000000001 → Ev (fun k => impl_digitsOf.l0 k (n : Int) (b : Int) (ic acc)) (ic (acc ++ low b n).reverse) := by
  induction n using Nat.strongRecOn with
  | _ n ih =>
    intro acc hl hn
    refine evs (fun k => by rw [impl_digitsOf.l0]) ?_
    by_cases h : n = 0
    · subst h
      refine evn (by omega) (evb (reverse_ev (ic acc) (by rw [ic_length]; omega)) (evr ?_))
      rw [low_zero, List.append_nil, ic_reverse]
    · have hlt : n / b < n := Nat.div_lt_self (by omega) (by omega)
      rw [low_succ hb (by omega), List.length_cons] at hl
      have h2 := ih (n / b) hlt (acc ++ [n % b]) (by simp only [List.length_append, List.length_cons, List.length_nil]; omega) (by omega)
      rw [tmod_cast, tdiv_cast, w64n (n / b) (by omega), low_succ hb (by omega)]
      refine evp (by omega) (evn (by omega) (evp (by rw [ic_length]; omega) ?_))
      rw [ic_append, List.append_assoc] at h2
      simpa [ic] using h2
theorem impl_digitsOf_ev1 (b n : Nat) (hb : 2 ≤ b) (hn : n ≤ 1000000000001) : Ev (fun k => impl_digitsOf.f k (n : Int) (b : Int)) (ic (dgl b n)) := by
  unfold impl_digitsOf.f
  have hdv : n / b ≤ n := Nat.div_le_self _ _
  have hl := low_len hb 40 (n / b) (by omega)
  have h2 := impl_digitsOf_loop b hb (n / b) [n % b] (by simp only [List.length_cons, List.length_nil]; omega) (by omega)
  rw [tmod_cast, tdiv_cast, w64n (n / b) (by omega)]
  refine evn (by omega) ?_
  unfold dgl
  by_cases h : n = 0
  · subst h
    rw [if_pos rfl]
    rw [Nat.zero_div, low_zero] at h2 
    simpa [ic, Nat.zero_mod] using h2
  · rw [if_neg h, low_succ hb (by omega)]
    simpa [ic] using h2
theorem impl_digitsOf_ev (b n : Nat) (hb : 2 ≤ b) (hn : n ≤ 1000000000000) : Ev (fun k => impl_digitsOf.f k (n : Int) (b : Int)) (ic (dgl b n)) := impl_digitsOf_ev1 b n hb (by omega)

def its (f : Nat → Nat) : Nat → Nat → Nat
  | 0, n => n
  | i + 1, n => its f i (f n)
theorem its_succ (f : Nat → Nat) (i n : Nat) : its f (i + 1) n = f (its f i n) := by
  induction i generalizing n with
  | zero => rfl
  | succ i ih => exact ih (f n)
theorem its_add (f : Nat → Nat) (i j n : Nat) : its f (i + j) n = its f i (its f j n) := by
  induction i with
  | zero => rw [Nat.zero_add]; rfl
  | succ i ih => rw [Nat.add_right_comm, its_succ, its_succ, ih]
def runto (f : Nat → Nat) (n : Nat) : Nat → List Nat
  | 0 => []
  | k + 1 => runto f n k ++ [its f k n]
theorem runto_len (f : Nat → Nat) (n k : Nat) : (runto f n k).length = k := by
  induction k with
  | zero => rfl
  | succ k ih => simp [runto, ih]
theorem runto_mem (f : Nat → Nat) (n k x : Nat) : x ∈ runto f n k ↔ ∃ i, i < k ∧ its f i n = x := by
  induction k with
  | zero => simp [runto]
  | succ k ih =>
    simp only [runto, List.mem_append, List.mem_singleton, ih]
    constructor
    · rintro (⟨i, h, rfl⟩ | rfl)
      · exact ⟨i, by omega, rfl⟩
      · exact ⟨k, by omega, rfl⟩
    · rintro ⟨i, h, rfl⟩
      by_cases e : i = k
      · subst e; exact .inr rfl
      · exact .inl ⟨i, by omega, rfl⟩
theorem runto_get (f : Nat → Nat) (n k i : Nat) (h : i < k) : (runto f n k)[i]? = some (its f i n) := by
  induction k with
  | zero => omega
  | succ k ih =>
    simp only [runto]
    by_cases e : i = k
    · subst e
      rw [List.getElem?_append_right (by rw [runto_len]; omega), runto_len, Nat.sub_self]
      rfl
    · rw [List.getElem?_append_left (by rw [runto_len]; omega), ih (by omega)]
structure Comes (f : Nat → Nat) (n len t : Nat) : Prop where
  lt : t < len
  back : its f len n = its f t n
  new : ∀ i j, i < j → j < len → its f i n ≠ its f j n
theorem comes_of {f : Nat → Nat} {n B : Nat} (hB : ∀ i, its f i n < B) : ∃ len t, len ≤ B ∧ Comes f n len t := by
  obtain ⟨i, j, hij, hj, e⟩ := pigeon B (fun i => its f i n) (fun i _ => hB i)
  have hex : ∃ k, ∃ i, i < k ∧ its f i n = its f k n := ⟨j, i, hij, e⟩
  obtain ⟨k, ⟨t, ht, he⟩, hmin⟩ := least_of hex
  have hkj : k ≤ j := by
    rcases Nat.lt_or_ge j k with h | h
    · exact absurd ⟨i, hij, e⟩ (hmin j h)
    · exact h
  exact ⟨k, t, by omega, ht, he.symm, fun a b hab hb h => hmin b hb ⟨a, hab, h⟩⟩
theorem Comes.mem {f : Nat → Nat} {n len t : Nat} (h : Comes f n len t) : ∀ i, its f i n ∈ runto f n len := by
  intro i
  induction i with
  | zero => exact (runto_mem f n len _).2 ⟨0, by have := h.lt; omega, rfl⟩
  | succ i ih =>
    obtain ⟨j, hj, e⟩ := (runto_mem f n len _).1 ih
    rw [its_succ, ← e, ← its_succ f j n]
    by_cases h2 : j + 1 < len
    · exact (runto_mem f n len _).2 ⟨j + 1, h2, rfl⟩
    · have : j + 1 = len := by omega
      rw [this, h.back]
      exact (runto_mem f n len _).2 ⟨t, h.lt, rfl⟩
theorem Comes.not_mem {f : Nat → Nat} {n len t : Nat} (h : Comes f n len t) (k : Nat) (hk : k < len) : its f k n ∉ runto f n k := by
  intro hm
  obtain ⟨i, hi, e⟩ := (runto_mem f n k _).1 hm
  exact h.new i k hi hk e
theorem idxOf_runto {f : Nat → Nat} {n len t : Nat} (h : Comes f n len t) : (runto f n len).idxOf (its f len n) = t := by
  have hlt := h.lt
  have hl := runto_len f n len
  have hm : its f len n ∈ runto f n len := h.mem len
  have hi : (runto f n len).idxOf (its f len n) < (runto f n len).length := List.idxOf_lt_length_iff.2 hm
  have hg : (runto f n len)[(runto f n len).idxOf (its f len n)]'hi = its f len n := List.getElem_idxOf hi
  generalize hq : (runto f n len).idxOf (its f len n) = q at *
  have hg2 := runto_get f n len q (by omega)
  rw [List.getElem?_eq_getElem hi, hg, h.back] at hg2
  injection hg2 with hg2
  rcases Nat.lt_trichotomy q t with h1 | h1 | h1
  · exact absurd hg2.symm (h.new q t h1 hlt)
  · exact h1
  · exact absurd hg2 (h.new t q h1 (by omega))
theorem Comes.round {f : Nat → Nat} {n len t : Nat} (h : Comes f n len t) : ∀ i, t ≤ i → its f (i + (len - t)) n = its f i n := by
  intro i hi
  obtain ⟨d, rfl⟩ : ∃ d, i = d + t := ⟨i - t, by omega⟩
  have hlt := h.lt
  rw [show d + t + (len - t) = d + len by omega, its_add, h.back, ← its_add]

def lpow (p : Nat) : List Nat → Nat
  | [] => 0
  | d :: l => d ^ p + lpow p l
def psum (b p n : Nat) : Nat := lpow p (low b n)
theorem psum_zero (b p : Nat) : psum b p 0 = 0 := rfl
theorem psum_pos {b : Nat} (hb : 2 ≤ b) (p n : Nat) (hn : 1 ≤ n) : psum b p n = (n % b) ^ p + psum b p (n / b) := by
  unfold psum
  rw [low_succ hb hn]
  rfl
theorem psum_step {b : Nat} (hb : 2 ≤ b) (p : Nat) (hp : 1 ≤ p) (v d : Nat) (hd : d < b) : psum b p (v * b + d) = psum b p v + d ^ p := by
  by_cases h : v * b + d = 0
  · have hd0 : d = 0 := by omega
    have hv : v = 0 := by
      rcases Nat.mul_eq_zero.1 (show v * b = 0 by omega) with h | h <;> omega
    subst hd0 hv
    rw [Nat.zero_mul, Nat.zero_add, psum_zero, Nat.zero_pow (by omega)]
  · rw [psum_pos hb p _ (by omega)]
    have e1 : (v * b + d) % b = d := by rw [Nat.mul_comm, Nat.mul_add_mod, Nat.mod_eq_of_lt hd]
    have e2 : (v * b + d) / b = v := by rw [Nat.mul_comm, Nat.mul_add_div (by omega), Nat.div_eq_of_lt hd]; omega
    rw [e1, e2, Nat.add_comm]
theorem lpow_le (p c : Nat) (l : List Nat) (h : ∀ d ∈ l, d ≤ c) : lpow p l ≤ l.length * c ^ p := by
  induction l with
  | nil => simp [lpow]
  | cons d l ih =>
    have h1 := ih (fun x hx => h x (by simp [hx]))
    have h2 : d ^ p ≤ c ^ p := Nat.pow_le_pow_left (h d (by simp)) p
    simp only [lpow, List.length_cons, Nat.succ_mul]
    omega
theorem lpow_append (p : Nat) (l m : List Nat) : lpow p (l ++ m) = lpow p l + lpow p m := by
  induction l with
  | nil => simp [lpow]
  | cons d l ih => simp only [List.cons_append, lpow, ih]; omega
theorem lpow_reverse (p : Nat) (l : List Nat) : lpow p l.reverse = lpow p l := by
  induction l with
  | nil => rfl
  | cons d l ih => rw [List.reverse_cons, lpow_append, ih]; simp only [lpow]; omega
theorem psum_dgl {b : Nat} (p n : Nat) (hp : 1 ≤ p) : lpow p (dgl b n) = psum b p n := by
  unfold dgl psum
  by_cases h : n = 0
  · subst h
    rw [if_pos rfl, low_zero]
    simp [lpow, Nat.zero_pow (show 0 < p by omega)]
  · rw [if_neg h, lpow_reverse]
theorem psum_le {b : Nat} (hb : 2 ≤ b) (hb2 : b ≤ 16) (p n : Nat) (hn : n ≤ 1000000000001) : psum b p n ≤ 40 * (b - 1) ^ p := by
  have h1 := lpow_le p (b - 1) (low b n) (fun d hd => by have := low_lt hb n d hd; omega)
  have h2 := low_len hb 40 n (by omega)
  exact Nat.le_trans h1 (Nat.mul_le_mul_right _ h2)
theorem pow15 (b p : Nat) (hb : b ≤ 16) (hp : p ≤ 8) : (b - 1) ^ p ≤ 2562890625 := by
  have h1 : (b - 1) ^ p ≤ 15 ^ p := Nat.pow_le_pow_left (by omega) p
  have h2 : 15 ^ p ≤ 15 ^ 8 := Nat.pow_le_pow_right (by omega) hp
  have h3 : 15 ^ 8 = 2562890625 := by decide
  omega
theorem pow15_4 (b p : Nat) (hb : b ≤ 16) (hp : p ≤ 4) : (b - 1) ^ p ≤ 50625 := by
  have h1 : (b - 1) ^ p ≤ 15 ^ p := Nat.pow_le_pow_left (by omega) p
  have h2 : 15 ^ p ≤ 15 ^ 4 := Nat.pow_le_pow_right (by omega) hp
  have h3 : 15 ^ 4 = 50625 := by decide
  omega
theorem psum_bound {b p : Nat} (hb : 2 ≤ b) (hb2 : b ≤ 16) (hp : p ≤ 4) (n : Nat) (hn : n ≤ 1000000000001) : psum b p n ≤ 2025000 := by
  have h1 := psum_le hb hb2 p n hn
  have h2 := pow15_4 b p hb2 hp
  have h3 : 40 * (b - 1) ^ p ≤ 40 * 50625 := Nat.mul_le_mul_left _ h2
  omega
theorem its_psum {b p : Nat} (hb : 2 ≤ b) (hb2 : b ≤ 16) (hp : p ≤ 4) (n : Nat) (hn : n ≤ 1000000000001) : ∀ i, its (psum b p) (i + 1) n ≤ 2025000 := by
  intro i
  induction i with
  | zero => exact psum_bound hb hb2 hp n hn
  | succ i ih =>
    rw [its_succ]
    exact psum_bound hb hb2 hp _ (by omega)
theorem its_psum' {b p : Nat} (hb : 2 ≤ b) (hb2 : b ≤ 16) (hp : p ≤ 4) (n : Nat) (hn : n ≤ 1000000000000) (i : Nat) : its (psum b p) i n ≤ 1000000000000 := by
  cases i with
  | zero => exact hn
  | succ i => have := its_psum hb hb2 hp n (by omega) i; omega
theorem prun_comes {b p : Nat} (hb : 2 ≤ b) (hb2 : b ≤ 16) (hp : p ≤ 4) (n : Nat) (hn : n ≤ 1000000000000) : ∃ len t, len ≤ 2025002 ∧ Comes (psum b p) n len t := by
  have hB : ∀ i, its (psum b p) i (psum b p n) < 2025001 := fun i => by
    have := its_psum hb hb2 hp n (by omega) i
    have e : its (psum b p) (i + 1) n = its (psum b p) i (psum b p n) := rfl
    omega
  obtain ⟨len, t, h1, h2⟩ := comes_of hB
  have hlt := h2.lt
  have hex : ∃ k, ∃ i, i < k ∧ its (psum b p) i n = its (psum b p) k n := ⟨len + 1, t + 1, by omega, by
    show its (psum b p) t (psum b p n) = its (psum b p) len (psum b p n)
    exact h2.back.symm⟩
  obtain ⟨k, ⟨i, hi, he⟩, hmin⟩ := least_of hex
  have hk : k ≤ len + 1 := by
    rcases Nat.lt_or_ge (len + 1) k with h | h
    · exact absurd ⟨t + 1, by omega, by
        show its (psum b p) t (psum b p n) = its (psum b p) len (psum b p n)
        exact h2.back.symm⟩ (hmin _ h)
    · exact h
  exact ⟨k, i, by omega, hi, he.symm, fun x y hxy hy h => hmin y hy ⟨x, hxy, h⟩⟩
theorem pow_le_256 (d p : Nat) (hd : d ≤ 15) (hp : p ≤ 8) : d ^ p ≤ 2562890625 := by
  have h1 : d ^ p ≤ 15 ^ p := Nat.pow_le_pow_left hd p
  have h2 : 15 ^ p ≤ 15 ^ 8 := Nat.pow_le_pow_right (by omega) hp
  have h3 : 15 ^ 8 = 2562890625 := by decide
  omega
theorem impl_pow_loop (d p : Nat) (hd : d ≤ 15) (hp : p ≤ 8) (e : Nat) : ∀ i : Nat, i + e = p → Ev (fun k => impl_toPower.l0 k (d : Int) ((d ^ i : Nat) : Int) (p : Int) (i : Int)) ((d ^ p : Nat) : Int) := by
  induction e with
  | zero =>
    intro i h
    have : i = p := by omega
    subst this
    refine evs (fun k => by rw [impl_toPower.l0]) ?_
    exact evn (by omega) (Ev.now _)
  | succ e ih =>
    intro i h
    have h1 := pow_le_256 d (i + 1) hd (by omega)
    have h2 := ih (i + 1) (by omega)
    rw [show ((i + 1 : Nat) : Int) = (i : Int) + 1 by omega] at h2
    refine evs (fun k => by rw [impl_toPower.l0]) ?_
    rw [w64 (x := (i : Int) + 1) (by omega) (by omega), show ((d ^ i : Nat) : Int) * (d : Int) = ((d ^ (i + 1) : Nat) : Int) by rw [Nat.pow_succ, Int.natCast_mul], w64n _ (by omega)]
    exact evp (by omega) h2
theorem impl_toPower_ev (d p : Nat) (hd : d ≤ 15) (hp : p ≤ 8) : Ev (fun k => impl_toPower.f k (d : Int) (p : Int)) ((d ^ p : Nat) : Int) := by
  unfold impl_toPower.f
  have := impl_pow_loop d p hd hp p 0 (by omega)
  simpa using this
theorem spec_pow_loop (d p : Nat) (hd : d ≤ 15) (hp : p ≤ 8) (e : Nat) : ∀ i : Nat, i + e = p → Ev (fun k => spec_pwOf.l0 k (d : Int) (e : Int) ((d ^ i : Nat) : Int)) ((d ^ p : Nat) : Int) := by
  induction e with
  | zero =>
    intro i h
    have : i = p := by omega
    subst this
    refine evs (fun k => by rw [spec_pwOf.l0]) ?_
    exact evn (by omega) (Ev.now _)
  | succ e ih =>
    intro i h
    have h1 := pow_le_256 d (i + 1) hd (by omega)
    have h2 := ih (i + 1) (by omega)
    refine evs (fun k => by rw [spec_pwOf.l0]) ?_
    rw [w64 (x := ((e + 1 : Nat) : Int) - 1) (by omega) (by omega), show ((e + 1 : Nat) : Int) - 1 = (e : Int) by omega, show ((d ^ i : Nat) : Int) * (d : Int) = ((d ^ (i + 1) : Nat) : Int) by rw [Nat.pow_succ, Int.natCast_mul], w64n _ (by omega)]
    exact evp (by omega) h2
theorem spec_pwOf_ev (d p : Nat) (hd : d ≤ 15) (hp : p ≤ 8) : Ev (fun k => spec_pwOf.f k (d : Int) (p : Int)) ((d ^ p : Nat) : Int) := by
  unfold spec_pwOf.f
  have := spec_pow_loop d p hd hp p 0 (by omega)
  simpa using this
theorem lpow_bound (p : Nat) (hp : p ≤ 8) (l : List Nat) (h : ∀ d ∈ l, d ≤ 15) : lpow p l ≤ l.length * 2562890625 := by
  have h1 := lpow_le p 15 l h
  have h2 : l.length * 15 ^ p ≤ l.length * 2562890625 := Nat.mul_le_mul_left _ (pow_le_256 15 p (Nat.le_refl _) hp)
  omega
theorem impl_ps_loop (p : Nat) (hp : p ≤ 8) (post : List Nat) : ∀ (pre : List Nat), (∀ d ∈ pre ++ post, d ≤ 15) → (pre ++ post).length ≤ 100 →
    Ev (fun k => impl_powerSum.l0 k (p : Int) ((lpow p pre : Nat) : Int) (ic (pre ++ post)) ((pre ++ post).length : Int) (pre.length : Int)) ((lpow p (pre ++ post) : Nat) : Int) := by
  induction post with
  | nil =>
    intro pre _ _
    refine evs (fun k => by rw [impl_powerSum.l0]) ?_
    exact evn (by simp) (evr (by simp))
  | cons d post ih =>
    intro pre hd hl
    have hl2 : (pre ++ d :: post).length = pre.length + (post.length + 1) := by simp
    have h2 := ih (pre ++ [d]) (by simpa using hd) (by simpa using hl)
    have hb := lpow_bound p hp (pre ++ [d]) (fun x hx => hd x (by simp at hx ⊢; rcases hx with hx | hx <;> simp [hx]))
    have e1 : lpow p (pre ++ [d]) = lpow p pre + d ^ p := by rw [lpow_append]; simp [lpow]
    have e2 : (pre ++ [d]).length = pre.length + 1 := by simp
    rw [e1, e2] at hb
    rw [List.append_assoc, List.singleton_append, e1, e2, hl2] at h2
    refine evs (fun k => by rw [impl_powerSum.l0]) ?_
    rw [ic_rd, ic_length, hl2]
    refine evp (by omega) (evp (by omega) (evp (by omega) (evb (impl_toPower_ev d p (hd d (by simp)) hp) ?_)))
    rw [show ((lpow p pre : Nat) : Int) + ((d ^ p : Nat) : Int) = ((lpow p pre + d ^ p : Nat) : Int) by omega, w64n _ (by omega), w64 (x := (pre.length : Int) + 1) (by omega) (by omega), show (pre.length : Int) + 1 = ((pre.length + 1 : Nat) : Int) by omega]
    exact h2
theorem impl_powerSum_ev (b p n : Nat) (hb : 2 ≤ b) (hb2 : b ≤ 16) (hp : p ≤ 8) (hp1 : 1 ≤ p) (hn : n ≤ 1000000000000) : Ev (fun k => impl_powerSum.f k (n : Int) (b : Int) (p : Int)) ((psum b p n : Nat) : Int) := by
  unfold impl_powerSum.f
  have hl := dgl_len hb n hn
  refine evb (impl_digitsOf_ev b n hb hn) ?_
  have := impl_ps_loop p hp (dgl b n) [] (fun d hd => by have := dgl_lt hb n d (by simpa using hd); omega) (by simp; omega)
  rw [ic_length, ← psum_dgl p n hp1]
  simpa [lpow] using this
theorem spec_ps_loop (b p : Nat) (hb : 2 ≤ b) (hb2 : b ≤ 16) (hp : p ≤ 8) (n : Nat) : ∀ a : Nat, n ≤ 1000000000000 → a + (low b n).length * 2562890625 ≤ 1000000000000 → Ev (fun k => spec_pwSum.l0 k (n : Int) (b : Int) (p : Int) (a : Int)) ((a + psum b p n : Nat) : Int) := by
  induction n using Nat.strongRecOn with
  | _ n ih =>
    intro a hn ha
    refine evs (fun k => by rw [spec_pwSum.l0]) ?_
    by_cases h : n = 0
    · subst h
      exact evn (by omega) (evr (by rw [psum_zero, Nat.add_zero]))
    · have hlt : n / b < n := Nat.div_lt_self (by omega) (by omega)
      have hm := Nat.mod_lt n (show 0 < b by omega)
      have hpw := pow_le_256 (n % b) p (by omega) hp
      rw [low_succ hb (by omega), List.length_cons, Nat.succ_mul] at ha
      have h2 := ih (n / b) hlt (a + (n % b) ^ p) (by omega) (by omega)
      rw [Nat.add_assoc, ← psum_pos hb p n (by omega)] at h2
      rw [tmod_cast, tdiv_cast, w64n (n / b) (by omega)]
      refine evp (by omega) (evn (by omega) (evb (spec_pwOf_ev _ p (by omega) hp) ?_))
      rw [show (a : Int) + (((n % b) ^ p : Nat) : Int) = ((a + (n % b) ^ p : Nat) : Int) by omega, w64n _ (by omega)]
      exact h2
theorem spec_pwSum_ev (b p n : Nat) (hb : 2 ≤ b) (hb2 : b ≤ 16) (hp : p ≤ 8) (hn : n ≤ 1000000000000) : Ev (fun k => spec_pwSum.f k (n : Int) (b : Int) (p : Int)) ((psum b p n : Nat) : Int) := by
  unfold spec_pwSum.f
  have hl := low_len hb 40 n (by omega)
  have h := spec_ps_loop b p hb hb2 hp n 0 hn (by omega)
  simpa using h

theorem ic_mem (l : List Nat) (x : Nat) : (x : Int) ∈ ic l ↔ x ∈ l := by
  unfold ic
  constructor
  · intro h
    obtain ⟨y, hy, e⟩ := List.mem_map.1 h
    have : y = x := by omega
    subst this
    exact hy
  · intro h
    exact List.mem_map.2 ⟨x, h, rfl⟩
theorem ic_idxOf (l : List Nat) (x : Nat) : (ic l).idxOf (x : Int) = l.idxOf x := by
  induction l with
  | nil => rfl
  | cons y l ih =>
    rw [ic_cons, List.idxOf_cons, List.idxOf_cons, ih]
    have e : ((y : Int) == (x : Int)) = (y == x) := by
      by_cases h : y = x
      · subst h; rw [beq_self_eq_true, beq_self_eq_true]
      · rw [beq_eq_false_iff_ne.2 h, beq_eq_false_iff_ne.2 (by omega)]
    rw [e]
theorem ic_runto (f : Nat → Nat) (n q : Nat) : ic (runto f n q) ++ [((its f q n : Nat) : Int)] = ic (runto f n (q + 1)) := by
  simp only [runto, ic_append]
  rfl
theorem impl_run_ev2 {s : Nat → Int → Option Int} {f : Nat → Nat} {n len t : Nat} (h : Comes f n len t) (hlen : len ≤ 1000000000) (hs : ∀ q, q < len → Ev (fun i => s i ((its f q n : Nat) : Int)) ((its f (q + 1) n : Nat) : Int)) (e : Nat) : ∀ q : Nat, q + e = len →
    Ev2 (fun i j => impl_powerRun.run (s i) j (ic (runto f n q)) ((its f q n : Nat) : Int)) (ic (runto f n len), (t : Int)) := by
  induction e with
  | zero =>
    intro q hq
    have : q = len := by omega
    subst this
    have hm : ((its f q n : Nat) : Int) ∈ ic (runto f n q) := (ic_mem _ _).2 (h.mem q)
    refine Ev2.done (fun i j => ?_)
    rw [impl_powerRun.run, if_pos hm, ic_idxOf, idxOf_runto h]
  | succ e ih =>
    intro q hq
    have hm : ¬ ((its f q n : Nat) : Int) ∈ ic (runto f n q) := fun hm => h.not_mem q (by omega) ((ic_mem _ _).1 hm)
    have hl : (ic (runto f n q)).length < 17592186044416 := by rw [ic_length, runto_len]; omega
    refine Ev2.step (fun i j => by rw [impl_powerRun.run, if_neg hm, if_pos hl]) (hs q (by omega)) ?_
    have h2 := ih (q + 1) (by omega)
    rw [← ic_runto] at h2
    exact h2
theorem wf_nat (y : Nat) (h : y ≤ 1000000000000) : (Lit.int .i64 (y : Int)).wf = true := by
  have h2 : (decide (IntKind.i64.min ≤ (y : Int)) && decide ((y : Int) ≤ IntKind.i64.max)) = true := by
    rw [show IntKind.i64.min = -9223372036854775808 from rfl, show IntKind.i64.max = 9223372036854775807 from rfl]
    simp
    omega
  exact h2
theorem impl_pstep_ev (b p n : Nat) (hb : 2 ≤ b) (hb2 : b ≤ 16) (hp : p ≤ 8) (hp1 : 1 ≤ p) (hn : n ≤ 1000000000000) : Ev (fun k => impl_powerRun.step k (b : Int) (p : Int) (n : Int)) ((psum b p n : Nat) : Int) := by
  unfold impl_powerRun.step
  refine evb (impl_powerSum_ev b p n hb hb2 hp hp1 hn) ?_
  have h1 := psum_le hb hb2 p n (by omega)
  have h2 := pow15 b p hb2 hp
  have h3 : 40 * (b - 1) ^ p ≤ 40 * 2562890625 := Nat.mul_le_mul_left _ h2
  exact evp (wf_nat _ (by omega)) (Ev.now _)
theorem impl_powerRun_ev {b p n len t : Nat} (hb : 2 ≤ b) (hb2 : b ≤ 16) (hp : p ≤ 8) (hp1 : 1 ≤ p) (h : Comes (psum b p) n len t) (hlen : len ≤ 1000000000) (hB : ∀ q, its (psum b p) q n ≤ 1000000000000) : Ev (fun k => impl_powerRun.f k (n : Int) (b : Int) (p : Int)) (ic (runto (psum b p) n len), (t : Int)) := by
  have h0 := hB 0
  have hn : n ≤ 1000000000000 := h0
  unfold impl_powerRun.f
  refine evp (by omega) ?_
  refine Ev2.diag (g := fun i j => impl_powerRun.run (impl_powerRun.step i (b : Int) (p : Int)) j [] (n : Int)) ?_
  have := impl_run_ev2 (s := fun i => impl_powerRun.step i (b : Int) (p : Int)) h hlen (fun q _ => by rw [its_succ]; exact impl_pstep_ev b p _ hb hb2 hp hp1 (hB q)) len 0 (by omega)
  exact this
theorem spec_run_ev2 {s : Nat → Int → Option Int} {f : Nat → Nat} {n len t : Nat} (h : Comes f n len t) (hlen : len ≤ 1000000000) (hs : ∀ q, q < len → Ev (fun i => s i ((its f q n : Nat) : Int)) ((its f (q + 1) n : Nat) : Int)) (e : Nat) : ∀ q : Nat, q + 1 + e = len →
    Ev2 (fun i j => spec_pwRun.run (s i) j (ic (runto f n (q + 1))) ((its f q n : Nat) : Int)) (ic (runto f n len), (t : Int)) := by
  induction e with
  | zero =>
    intro q hq
    have hq : q + 1 = len := by omega
    have hm : ((its f (q + 1) n : Nat) : Int) ∈ ic (runto f n (q + 1)) := by rw [hq]; exact (ic_mem _ _).2 (h.mem len)
    refine Ev2.step (fun i j => by rw [spec_pwRun.run]) (hs q (by omega)) ?_
    refine ⟨0, fun i j _ _ => ?_⟩
    simp only
    rw [if_pos hm, hq, ic_idxOf, idxOf_runto h]
  | succ e ih =>
    intro q hq
    have hm : ¬ ((its f (q + 1) n : Nat) : Int) ∈ ic (runto f n (q + 1)) := fun hm => h.not_mem (q + 1) (by omega) ((ic_mem _ _).1 hm)
    have hl : (ic (runto f n (q + 1))).length < 17592186044416 := by rw [ic_length, runto_len]; omega
    refine Ev2.step (fun i j => by rw [spec_pwRun.run]) (hs q (by omega)) ?_
    have h2 := ih (q + 1) (by omega)
    rw [← ic_runto] at h2
    exact Ev2.congr_ (fun i j => by rw [if_neg hm, if_pos hl]) h2 rfl
theorem spec_pwRun_ev {b p n len t : Nat} (hb : 2 ≤ b) (hb2 : b ≤ 16) (hp : p ≤ 8) (h : Comes (psum b p) n len t) (hlen : len ≤ 1000000000) (hB : ∀ q, its (psum b p) q n ≤ 1000000000000) : Ev (fun k => spec_pwRun.f k (n : Int) (b : Int) (p : Int)) (ic (runto (psum b p) n len), (t : Int)) := by
  have hlt := h.lt
  unfold spec_pwRun.f
  refine Ev2.diag (g := fun i j => spec_pwRun.run (fun x => spec_pwSum.f i x (b : Int) (p : Int)) j [(n : Int)] (n : Int)) ?_
  have := spec_run_ev2 (s := fun i x => spec_pwSum.f i x (b : Int) (p : Int)) h hlen (fun q _ => by rw [its_succ]; exact spec_pwSum_ev b p _ hb hb2 hp (hB q)) (len - 1) 0 (by omega)
  exact this
theorem spec_turn_loop (l : List Nat) (hl : l.length ≤ 1000000000) (e : Nat) : ∀ (i m : Nat), i + e = l.length → (m < l.length) → (∀ j, j < i → l.getD m 0 ≤ l.getD j 0) →
    ∃ m', m' < l.length ∧ (∀ j, j < l.length → l.getD m' 0 ≤ l.getD j 0) ∧ Ev (fun k => spec_pwTurned.l0 k (ic l) (m : Int) (ic l) (l.length : Int) (i : Int)) (ic (l.drop m' ++ l.take m')) := by
  induction e with
  | zero =>
    intro i m h hm hle
    have : i = l.length := by omega
    subst this
    refine ⟨m, hm, hle, evs (fun k => by rw [spec_pwTurned.l0]) ?_⟩
    have e1 : (ic l).drop (m : Int).toNat = ic (l.drop m) := by rw [Int.toNat_natCast, ic_drop]
    have e2 : (ic l).take (m : Int).toNat = ic (l.take m) := by rw [Int.toNat_natCast]; simp [ic, List.map_take]
    rw [e1, e2]
    refine evn (by omega) (evp (by omega) (evp (by rw [ic_length]; omega) (evc (a := ic (l.drop m)) ?_ (evp ?_ ?_))))
    · unfold spec_l1Own.f
      rw [Option.bind_some, if_pos (by rw [ic_length]; simp; omega), List.nil_append]
    · rw [ic_length, ic_length]; simp; omega
    · exact evr (by rw [ic_append])
  | succ e ih =>
    intro i m h hm hle
    have key : ∀ x : Nat, x < l.length → rd (ic l) (x : Int) = ((l.getD x 0 : Nat) : Int) := by
      intro x hx
      rw [rd_nat]
      simp [ic, List.getD_eq_getElem?_getD, hx]
    by_cases g : l.getD i 0 < l.getD m 0
    · obtain ⟨m', h1, h2, h3⟩ := ih (i + 1) i (by omega) (by omega) (fun j hj => by
        by_cases e : j = i
        · subst e; exact Nat.le_refl _
        · have := hle j (by omega); omega)
      refine ⟨m', h1, h2, evs (fun k => by rw [spec_pwTurned.l0]) ?_⟩
      rw [key i (by omega), key m hm, ic_length, w64 (x := (i : Int) + 1) (by omega) (by omega)]
      exact evp (by omega) (evp (by omega) (evp (by omega) (evp (by omega) (evp (by omega) (evp (by omega) h3)))))
    · obtain ⟨m', h1, h2, h3⟩ := ih (i + 1) m (by omega) hm (fun j hj => by
        by_cases e : j = i
        · subst e; omega
        · exact hle j (by omega))
      refine ⟨m', h1, h2, evs (fun k => by rw [spec_pwTurned.l0]) ?_⟩
      rw [key i (by omega), key m hm, ic_length, w64 (x := (i : Int) + 1) (by omega) (by omega)]
      exact evp (by omega) (evp (by omega) (evp (by omega) (evp (by omega) (evp (by omega) (evn (by omega) h3)))))
theorem spec_turn_ev (l : List Nat) (hl : l.length ≤ 1000000000) (h0 : 1 ≤ l.length) : ∃ m', m' < l.length ∧ (∀ j, j < l.length → l.getD m' 0 ≤ l.getD j 0) ∧ Ev (fun k => spec_pwTurned.f k (ic l)) (ic (l.drop m' ++ l.take m')) := by
  unfold spec_pwTurned.f
  rw [ic_length]
  exact spec_turn_loop l hl l.length 0 0 (by omega) (by omega) (fun j hj => by omega)
theorem spec_pwEnds_ev {b p n len t : Nat} (hb : 2 ≤ b) (hb2 : b ≤ 16) (hp : p ≤ 8) (h : Comes (psum b p) n len t) (hlen : len ≤ 1000000000) (hB : ∀ q, its (psum b p) q n ≤ 1000000000000) :
    ∃ i, t ≤ i ∧ i < len ∧ (∀ j, t ≤ j → j < len → its (psum b p) i n ≤ its (psum b p) j n) ∧ Ev (fun k => spec_pwEnds.f k (n : Int) (b : Int) (p : Int)) ((its (psum b p) i n : Nat) : Int) := by
  have hlt := h.lt
  have hl : ((runto (psum b p) n len).drop t).length = len - t := by rw [List.length_drop, runto_len]
  obtain ⟨m, h1, h2, h3⟩ := spec_turn_ev ((runto (psum b p) n len).drop t) (by omega) (by omega)
  have key : ∀ j, j < len - t → ((runto (psum b p) n len).drop t).getD j 0 = its (psum b p) (t + j) n := by
    intro j hj
    rw [List.getD_eq_getElem?_getD, List.getElem?_drop, runto_get _ _ _ _ (by omega)]
    rfl
  refine ⟨t + m, by omega, by omega, ?_, ?_⟩
  · intro j hj hj2
    have := h2 (j - t) (by omega)
    rw [key m (by omega), key (j - t) (by omega), show t + (j - t) = j by omega] at this
    exact this
  · unfold spec_pwEnds.f
    refine evb (spec_pwRun_ev hb hb2 hp h hlen hB) (evp (by omega) (evp (by simp only [ic_length, runto_len]; omega) ?_))
    have e1 : (ic (runto (psum b p) n len)).drop (t : Int).toNat = ic ((runto (psum b p) n len).drop t) := by rw [Int.toNat_natCast, ic_drop]
    simp only [e1]
    refine evb h3 (evp ?_ (evr ?_))
    · rw [ic_length, List.length_append, List.length_drop, List.length_take]; omega
    · rw [show (0 : Int) = ((0 : Nat) : Int) from rfl, rd_nat, ← key m (by omega)]
      generalize (runto (psum b p) n len).drop t = L at *
      rw [List.drop_eq_getElem_cons h1, List.cons_append, ic_cons, List.getD_cons_zero]
      simp [List.getD_eq_getElem?_getD, h1]

structure Falls (b c F : Nat) : Prop where
  one : 1 ≤ F
  le : F ≤ 12
  low : ∀ k, 1 ≤ k → k < F → b ^ (k - 1) ≤ k * c
  high : ∀ k, F ≤ k → k * c < b ^ (k - 1)
theorem falls_tab : ∀ b, b < 17 → 2 ≤ b → ∀ p, p < 9 → 12 * (b - 1) ^ p < b ^ 11 := by decide
theorem falls_up {b c k : Nat} (hb : 2 ≤ b) (hk : 1 ≤ k) (h : k * c < b ^ (k - 1)) : ∀ d, (k + d) * c < b ^ (k + d - 1) := by
  intro d
  induction d with
  | zero => exact h
  | succ d ih =>
    have e : k + (d + 1) - 1 = (k + d - 1) + 1 := by omega
    rw [e, Nat.pow_succ]
    have h1 : (k + (d + 1)) * c ≤ 2 * ((k + d) * c) := by
      rw [← Nat.mul_assoc]
      exact Nat.mul_le_mul_right _ (by omega)
    have h2 : 2 * b ^ (k + d - 1) ≤ b ^ (k + d - 1) * b := by rw [Nat.mul_comm]; exact Nat.mul_le_mul_left _ hb
    omega
theorem falls_of (b p : Nat) (hb : 2 ≤ b) (hb2 : b ≤ 16) (hp : p ≤ 8) : ∃ F, Falls b ((b - 1) ^ p) F := by
  have h12 := falls_tab b (by omega) hb p (by omega)
  have hex : ∃ j, (j + 1) * (b - 1) ^ p < b ^ j := ⟨11, h12⟩
  obtain ⟨j, hj, hmin⟩ := least_of hex
  have hj2 : j ≤ 11 := by
    rcases Nat.lt_or_ge 11 j with h | h
    · exact absurd h12 (hmin 11 h)
    · exact h
  refine ⟨j + 1, by omega, by omega, fun k h1 h2 => ?_, fun k h1 => ?_⟩
  · have := hmin (k - 1) (by omega)
    rw [show k - 1 + 1 = k by omega] at this
    omega
  · obtain ⟨d, rfl⟩ := Nat.exists_eq_add_of_le h1
    exact falls_up hb (by omega) (by rw [Nat.add_sub_cancel]; exact hj) d
theorem low_count {b : Nat} (hb : 2 ≤ b) (k : Nat) : ∀ n : Nat, b ^ k ≤ n ↔ k < (low b n).length := by
  induction k with
  | zero =>
    intro n
    by_cases h : n = 0
    · subst h; simp [low_zero]
    · rw [low_succ hb (by omega), List.length_cons, Nat.pow_zero]; omega
  | succ k ih =>
    intro n
    by_cases h : n = 0
    · subst h
      have : 0 < b ^ (k + 1) := Nat.pow_pos (by omega)
      simp only [low_zero, List.length_nil]
      omega
    · rw [low_succ hb (by omega), List.length_cons]
      have := ih (n / b)
      rw [Nat.le_div_iff_mul_le (by omega)] at this
      have e : b ^ (k + 1) = b ^ k * b := Nat.pow_succ ..
      omega
theorem falls_few {b p F : Nat} (hb : 2 ≤ b) (h : Falls b ((b - 1) ^ p) F) (n : Nat) (hn : (low b n).length < F) : psum b p n ≤ (F - 1) * (b - 1) ^ p := by
  have h1 := lpow_le p (b - 1) (low b n) (fun d hd => by have := low_lt hb n d hd; omega)
  exact Nat.le_trans h1 (Nat.mul_le_mul_right _ (by omega))
theorem falls_many {b p F : Nat} (hb : 2 ≤ b) (h : Falls b ((b - 1) ^ p) F) (n : Nat) (hn : F ≤ (low b n).length) : psum b p n < n := by
  have h1 := lpow_le p (b - 1) (low b n) (fun d hd => by have := low_lt hb n d hd; omega)
  have h2 := h.high _ hn
  have h3 := h.one
  have h4 := (low_count hb ((low b n).length - 1) n).2 (by omega)
  unfold psum
  omega
theorem dgl_low_len {b : Nat} (hb : 2 ≤ b) (n : Nat) : (dgl b n).length = if n = 0 then 1 else (low b n).length := by
  unfold dgl
  split <;> simp
theorem cycle_le {b p F n len t : Nat} (hb : 2 ≤ b) (hF : Falls b ((b - 1) ^ p) F) (h : Comes (psum b p) n len t) : ∀ i, t ≤ i → its (psum b p) i n ≤ (F - 1) * (b - 1) ^ p := by
  have hlt := h.lt
  have hmul : ∀ m i, t ≤ i → its (psum b p) (i + m * (len - t)) n = its (psum b p) i n := by
    intro m
    induction m with
    | zero => intro i _; rw [Nat.zero_mul, Nat.add_zero]
    | succ m ih =>
      intro i hi
      rw [Nat.succ_mul, ← Nat.add_assoc, h.round _ (by omega)]
      exact ih i hi
  intro i hi
  rcases Nat.lt_or_ge ((F - 1) * (b - 1) ^ p) (its (psum b p) i n) with hgt | hle
  · exfalso
    -- going back, numbers get greater
    have hback : ∀ m, m ≤ i + (i + 1) * (len - t) - t → its (psum b p) (i + (i + 1) * (len - t)) n + m ≤ its (psum b p) (i + (i + 1) * (len - t) - m) n := by
      intro m
      induction m with
      | zero => intro _; exact Nat.le_refl _
      | succ m ih =>
        intro hm
        have h1 := ih (by omega)
        have e : i + (i + 1) * (len - t) - m = (i + (i + 1) * (len - t) - (m + 1)) + 1 := by omega
        rw [e, its_succ] at h1
        have hv := hmul (i + 1) i hi
        have h2 : (F - 1) * (b - 1) ^ p < psum b p (its (psum b p) (i + (i + 1) * (len - t) - (m + 1)) n) := by omega
        generalize its (psum b p) (i + (i + 1) * (len - t) - (m + 1)) n = x at *
        have h3 : F ≤ (low b x).length := by
          rcases Nat.lt_or_ge (low b x).length F with h4 | h4
          · have := falls_few hb hF x h4
            omega
          · exact h4
        have := falls_many hb hF x h3
        omega
    have hpos : (i + 1) * 1 ≤ (i + 1) * (len - t) := Nat.mul_le_mul_left _ (by omega)
    have hpos2 : 1 * (len - t) ≤ (i + 1) * (len - t) := Nat.mul_le_mul_right _ (by omega)
    have h5 := hback (len - t) (by omega)
    have h6 : i + (i + 1) * (len - t) - (len - t) = i + i * (len - t) := by rw [Nat.succ_mul]; omega
    rw [h6, hmul i i hi, hmul (i + 1) i hi] at h5
    omega
  · exact hle

theorem impl_pow_loop2 (d p : Nat) (hd : 1 ≤ d) (h : d ^ p ≤ 1000000000000000000) (hp : p ≤ 1000) (e : Nat) : ∀ i : Nat, i + e = p → Ev (fun k => impl_toPower.l0 k (d : Int) ((d ^ i : Nat) : Int) (p : Int) (i : Int)) ((d ^ p : Nat) : Int) := by
  induction e with
  | zero =>
    intro i hi
    have : i = p := by omega
    subst this
    refine evs (fun k => by rw [impl_toPower.l0]) ?_
    exact evn (by omega) (Ev.now _)
  | succ e ih =>
    intro i hi
    have h1 : d ^ (i + 1) ≤ d ^ p := Nat.pow_le_pow_right hd (by omega)
    have h2 := ih (i + 1) (by omega)
    rw [show ((i + 1 : Nat) : Int) = (i : Int) + 1 by omega] at h2
    refine evs (fun k => by rw [impl_toPower.l0]) ?_
    rw [w64 (x := (i : Int) + 1) (by omega) (by omega), show ((d ^ i : Nat) : Int) * (d : Int) = ((d ^ (i + 1) : Nat) : Int) by rw [Nat.pow_succ, Int.natCast_mul], w64n _ (by omega)]
    exact evp (by omega) h2
theorem impl_toPower_big (d p : Nat) (hd : 1 ≤ d) (h : d ^ p ≤ 1000000000000000000) (hp : p ≤ 1000) : Ev (fun k => impl_toPower.f k (d : Int) (p : Int)) ((d ^ p : Nat) : Int) := by
  unfold impl_toPower.f
  have := impl_pow_loop2 d p hd h hp p 0 (by omega)
  simpa using this
theorem pow11 (b i : Nat) (hb : b ≤ 16) (hi : i ≤ 11) (h1 : 1 ≤ b) : b ^ i ≤ 100000000000000 := by
  have h2 : b ^ i ≤ 16 ^ i := Nat.pow_le_pow_left hb i
  have h3 : 16 ^ i ≤ 16 ^ 11 := Nat.pow_le_pow_right (by omega) hi
  have h4 : 16 ^ 11 = 17592186044416 := by decide
  omega
theorem impl_falls_loop (b p F : Nat) (hb : 2 ≤ b) (hb2 : b ≤ 16) (hp : p ≤ 8) (hF : Falls b ((b - 1) ^ p) F) (r : Nat) : ∀ k : Nat, 1 ≤ k → k + r = F → Ev (fun j => impl_fallsFrom.l0 j (b : Int) (p : Int) (k : Int)) (F : Int) := by
  have hc := pow_le_256 (b - 1) p (by omega) hp
  have hFl := hF.le
  induction r with
  | zero =>
    intro k h1 h2
    have hk : k = F := by omega
    subst hk
    have h3 := hF.high k (Nat.le_refl _)
    have h4 := pow11 b (k - 1) hb2 (by omega) (by omega)
    have h5 : k * (b - 1) ^ p ≤ 12 * 2562890625 := Nat.mul_le_mul hFl hc
    refine evs (fun j => by rw [impl_fallsFrom.l0]) ?_
    rw [w64 (x := (b : Int) - 1) (by omega) (by omega), w64 (x := (k : Int) - 1) (by omega) (by omega), show (b : Int) - 1 = ((b - 1 : Nat) : Int) by omega, show (k : Int) - 1 = ((k - 1 : Nat) : Int) by omega]
    refine evb (impl_toPower_ev (b - 1) p (by omega) hp) (evb (impl_toPower_big b (k - 1) (by omega) (by omega) (by omega)) ?_)
    rw [← Int.natCast_mul, w64n _ (by omega)]
    exact evn (by omega) (Ev.now _)
  | succ r ih =>
    intro k h1 h2
    have h3 := hF.low k h1 (by omega)
    have h4 := pow11 b (k - 1) hb2 (by omega) (by omega)
    have h5 : k * (b - 1) ^ p ≤ 12 * 2562890625 := Nat.mul_le_mul (by omega) hc
    have h6 := ih (k + 1) (by omega) (by omega)
    rw [show ((k + 1 : Nat) : Int) = (k : Int) + 1 by omega] at h6
    refine evs (fun j => by rw [impl_fallsFrom.l0]) ?_
    rw [w64 (x := (b : Int) - 1) (by omega) (by omega), w64 (x := (k : Int) - 1) (by omega) (by omega), show (b : Int) - 1 = ((b - 1 : Nat) : Int) by omega, show (k : Int) - 1 = ((k - 1 : Nat) : Int) by omega]
    refine evb (impl_toPower_ev (b - 1) p (by omega) hp) (evb (impl_toPower_big b (k - 1) (by omega) (by omega) (by omega)) ?_)
    rw [← Int.natCast_mul, w64n _ (by omega), w64 (x := (k : Int) + 1) (by omega) (by omega)]
    exact evp (by omega) h6
theorem impl_fallsFrom_ev (b p F : Nat) (hb : 2 ≤ b) (hb2 : b ≤ 16) (hp : p ≤ 8) (hF : Falls b ((b - 1) ^ p) F) : Ev (fun j => impl_fallsFrom.f j (b : Int) (p : Int)) (F : Int) := by
  have h1 := hF.one
  unfold impl_fallsFrom.f
  exact impl_falls_loop b p F hb hb2 hp hF (F - 1) 1 (Nat.le_refl _) (by omega)
def lim (b n : Nat) : Nat := if b ^ n ≤ 1000000000000000000 then b ^ n else 1000000000000000000
theorem spec_lim_loop (b n : Nat) (hb : 2 ≤ b) (hb2 : b ≤ 16) (hn : n ≤ 1000) (e : Nat) : ∀ i : Nat, i + e = n → b ^ i ≤ 1000000000000000000 → Ev (fun k => spec_pwLimited.l0 k (b : Int) (e : Int) ((b ^ i : Nat) : Int)) ((lim b n : Nat) : Int) := by
  induction e with
  | zero =>
    intro i hi h
    have : i = n := by omega
    subst this
    refine evs (fun k => by rw [spec_pwLimited.l0]) ?_
    unfold lim
    rw [if_pos h]
    exact evn (by omega) (Ev.now _)
  | succ e ih =>
    intro i hi h
    have hd : (1000000000000000000 : Int) / (b : Int) = ((1000000000000000000 / b : Nat) : Int) := by rw [Int.natCast_ediv]; rfl
    have hle : 1000000000000000000 / b ≤ 1000000000000000000 := Nat.div_le_self _ _
    have hiff : 1000000000000000000 / b < b ^ i ↔ 1000000000000000000 < b ^ i * b := Nat.div_lt_iff_lt_mul (by omega)
    refine evs (fun k => by rw [spec_pwLimited.l0]) ?_
    rw [hd, w64n _ (by omega)]
    refine evp (by omega) (evn (by omega) ?_)
    by_cases g : 1000000000000000000 < b ^ i * b
    · have h1 : b ^ (i + 1) ≤ b ^ n := Nat.pow_le_pow_right (by omega) (by omega)
      rw [Nat.pow_succ] at h1
      unfold lim
      rw [if_neg (by omega)]
      have := hiff.2 g
      exact evp (by omega) (Ev.now _)
    · have h2 := ih (i + 1) (by omega) (by rw [Nat.pow_succ]; omega)
      have h3 : ¬ 1000000000000000000 / b < b ^ i := fun h => g (hiff.1 h)
      rw [w64 (x := ((e + 1 : Nat) : Int) - 1) (by omega) (by omega), show ((e + 1 : Nat) : Int) - 1 = (e : Int) by omega, show ((b ^ i : Nat) : Int) * (b : Int) = ((b ^ (i + 1) : Nat) : Int) by rw [Nat.pow_succ, Int.natCast_mul], w64n _ (by rw [Nat.pow_succ]; omega)]
      exact evn (by omega) h2
theorem spec_pwLimited_ev (b n : Nat) (hb : 2 ≤ b) (hb2 : b ≤ 16) (hn : n ≤ 1000) : Ev (fun k => spec_pwLimited.f k (b : Int) (n : Int)) ((lim b n : Nat) : Int) := by
  unfold spec_pwLimited.f
  have := spec_lim_loop b n hb hb2 hn n 0 (by omega) (by simp)
  simpa using this
theorem spec_falls_loop (b p F : Nat) (hb : 2 ≤ b) (hb2 : b ≤ 16) (hp : p ≤ 8) (hF : Falls b ((b - 1) ^ p) F) (r : Nat) : ∀ k x : Nat, 1 ≤ k → k + r = 41 → x = min k F → Ev (fun j => spec_pwFalls.l0 j (b : Int) (p : Int) (x : Int) (k : Int)) (F : Int) := by
  have hc := pow_le_256 (b - 1) p (by omega) hp
  have hFl := hF.le
  induction r with
  | zero =>
    intro k x h1 h2 hx
    refine evs (fun j => by rw [spec_pwFalls.l0]) ?_
    exact evn (by omega) (evr (by omega))
  | succ r ih =>
    intro k x h1 h2 hx
    have h5 : k * (b - 1) ^ p ≤ 40 * 2562890625 := Nat.mul_le_mul (by omega) hc
    have hlim : (lim b (k - 1) ≤ k * (b - 1) ^ p) ↔ k < F := by
      unfold lim
      constructor
      · intro h
        rcases Nat.lt_or_ge k F with h3 | h3
        · exact h3
        · have := hF.high k h3
          split at h <;> omega
      · intro h
        have := hF.low k h1 h
        rw [if_pos (by omega)]
        exact this
    refine evs (fun j => by rw [spec_pwFalls.l0]) ?_
    rw [w64 (x := (b : Int) - 1) (by omega) (by omega), w64 (x := (k : Int) - 1) (by omega) (by omega), show (b : Int) - 1 = ((b - 1 : Nat) : Int) by omega, show (k : Int) - 1 = ((k - 1 : Nat) : Int) by omega, w64 (x := (k : Int) + 1) (by omega) (by omega), show (k : Int) + 1 = ((k + 1 : Nat) : Int) by omega]
    refine evp (by omega) (evb (spec_pwOf_ev (b - 1) p (by omega) hp) (evb (spec_pwLimited_ev b (k - 1) hb hb2 (by omega)) ?_))
    rw [← Int.natCast_mul, w64n _ (by omega)]
    by_cases g : lim b (k - 1) ≤ k * (b - 1) ^ p
    · have := hlim.1 g
      exact evp (by omega) (ih (k + 1) (k + 1) (by omega) (by omega) (by omega))
    · have : ¬ k < F := fun h => g (hlim.2 h)
      exact evn (by omega) (ih (k + 1) x (by omega) (by omega) (by omega))
theorem spec_pwFalls_ev (b p F : Nat) (hb : 2 ≤ b) (hb2 : b ≤ 16) (hp : p ≤ 8) (hF : Falls b ((b - 1) ^ p) F) : Ev (fun j => spec_pwFalls.f j (b : Int) (p : Int)) (F : Int) := by
  have h1 := hF.one
  unfold spec_pwFalls.f
  exact spec_falls_loop b p F hb hb2 hp hF 40 1 1 (Nat.le_refl _) (by omega) (by omega)
theorem impl_isPower_eq (p : Int) : impl_isPower.f p = some (decide (1 ≤ p ∧ p ≤ 8)) := by simp only [impl_isPower.f, impl_in_eq, Option.bind_some]
theorem spec_pwPower_eq (p m : Int) : spec_pwPower.f p m = some (decide (1 ≤ p ∧ p ≤ m)) := by simp only [spec_pwPower.f, spec_l1In_eq, Option.bind_some]
theorem great_w (b p F : Nat) (hb : 2 ≤ b) (hb2 : b ≤ 16) (hp : p ≤ 8) (hF : Falls b ((b - 1) ^ p) F) : wrap64 ((wrap64 ((F : Int) - 1)) * (((b - 1) ^ p : Nat) : Int)) = (((F - 1) * (b - 1) ^ p : Nat) : Int) := by
  have h1 := hF.one
  have h2 := hF.le
  have hc := pow_le_256 (b - 1) p (by omega) hp
  have h5 : (F - 1) * (b - 1) ^ p ≤ 12 * 2562890625 := Nat.mul_le_mul (by omega) hc
  rw [w64 (x := (F : Int) - 1) (by omega) (by omega), show (F : Int) - 1 = ((F - 1 : Nat) : Int) by omega, ← Int.natCast_mul, w64n _ (by omega)]
theorem falls_yes (b p F : Nat) (hb : 2 ≤ b) (hb2 : b ≤ 16) (hp1 : 1 ≤ p) (hp : p ≤ 8) (hF : Falls b ((b - 1) ^ p) F) :
    Ev (fun k => impl_FallsFrom.f k (b : Int) (p : Int)) ((F : Int), true) ∧ Ev (fun k => spec_FallsFrom.f k (b : Int) (p : Int)) ((F : Int), true) ∧
    Ev (fun k => impl_GreatestSum.f k (b : Int) (p : Int)) ((((F - 1) * (b - 1) ^ p : Nat) : Int), true) ∧ Ev (fun k => spec_GreatestSum.f k (b : Int) (p : Int)) ((((F - 1) * (b - 1) ^ p : Nat) : Int), true) := by
  have ib : impl_isBase.f (b : Int) = some true := by rw [impl_isBase_eq, decide_eq_true (by omega)]
  have sb : spec_dgBase.f (b : Int) = some true := by rw [spec_dgBase_eq, decide_eq_true (by omega)]
  have ip : impl_isPower.f (p : Int) = some true := by rw [impl_isPower_eq, decide_eq_true (by omega)]
  have sp : spec_pwPower.f (p : Int) 8 = some true := by rw [spec_pwPower_eq, decide_eq_true (by omega)]
  have h1 := impl_fallsFrom_ev b p F hb hb2 hp hF
  have h2 := spec_pwFalls_ev b p F hb hb2 hp hF
  have e1 : wrap64 ((b : Int) - 1) = ((b - 1 : Nat) : Int) := by rw [w64 (by omega) (by omega)]; omega
  have i1 := impl_toPower_ev (b - 1) p (by omega) hp
  have s1 := spec_pwOf_ev (b - 1) p (by omega) hp
  refine ⟨evc ib (evp rfl (evc ip (evp rfl (evb h1 (Ev.now _))))), evc sb (evp rfl (evc sp (evp rfl (evb h2 (Ev.now _))))), ?_, ?_⟩
  · refine evc ib (evp rfl (evc ip (evp rfl (evb (a := (((F - 1) * (b - 1) ^ p : Nat) : Int)) ?_ (Ev.now _)))))
    unfold impl_greatest.f
    rw [e1]
    exact evb h1 (evb i1 (evr (great_w b p F hb hb2 hp hF)))
  · refine evc sb (evp rfl (evc sp (evp rfl (evb (a := (((F - 1) * (b - 1) ^ p : Nat) : Int)) ?_ (Ev.now _)))))
    unfold spec_pwGreatest.f
    rw [e1]
    exact evb h2 (evb s1 (evr (great_w b p F hb hb2 hp hF)))
theorem falls_no (b p : Int) (h : ¬ ((2 ≤ b ∧ b ≤ 16) ∧ 1 ≤ p ∧ p ≤ 8)) :
    Ev (fun k => impl_FallsFrom.f k b p) (0, false) ∧ Ev (fun k => spec_FallsFrom.f k b p) (0, false) ∧ Ev (fun k => impl_GreatestSum.f k b p) (0, false) ∧ Ev (fun k => spec_GreatestSum.f k b p) (0, false) := by
  unfold impl_FallsFrom.f spec_FallsFrom.f impl_GreatestSum.f spec_GreatestSum.f
  by_cases h1 : 2 ≤ b ∧ b ≤ 16
  · have h2 : ¬ (1 ≤ p ∧ p ≤ 8) := fun h2 => h ⟨h1, h2⟩
    have ib : impl_isBase.f b = some true := by rw [impl_isBase_eq, decide_eq_true h1]
    have sb : spec_dgBase.f b = some true := by rw [spec_dgBase_eq, decide_eq_true h1]
    have ip : impl_isPower.f p = some false := by rw [impl_isPower_eq, decide_eq_false h2]
    have sp : spec_pwPower.f p 8 = some false := by rw [spec_pwPower_eq, decide_eq_false h2]
    exact ⟨evc ib (evp rfl (evc ip (evn (by simp) (Ev.now _)))), evc sb (evp rfl (evc sp (evn (by simp) (Ev.now _)))), evc ib (evp rfl (evc ip (evn (by simp) (Ev.now _)))), evc sb (evp rfl (evc sp (evn (by simp) (Ev.now _))))⟩
  · have ib : impl_isBase.f b = some false := by rw [impl_isBase_eq, decide_eq_false h1]
    have sb : spec_dgBase.f b = some false := by rw [spec_dgBase_eq, decide_eq_false h1]
    exact ⟨evc ib (evn (by simp) (Ev.now _)), evc sb (evn (by simp) (Ev.now _)), evc ib (evn (by simp) (Ev.now _)), evc sb (evn (by simp) (Ev.now _))⟩

theorem val_mono_v {b : Nat} (l : List Nat) : ∀ v w : Nat, v ≤ w → val b v l ≤ val b w l := by
  induction l with
  | nil => intro v w h; exact h
  | cons d l ih =>
    intro v w h
    exact ih _ _ (by have := Nat.mul_le_mul_right b h; omega)
theorem bubble {b : Nat} (hb : 1 ≤ b) (x : Nat) (t s : List Nat) : ∀ v : Nat, (∀ y ∈ s, y ≤ x) → val b v (s ++ x :: t) ≤ val b v (x :: (s ++ t)) := by
  induction s with
  | nil => intro v _; exact Nat.le_refl _
  | cons y s ih =>
    intro v h
    have h1 := ih (v * b + y) (fun z hz => h z (by simp [hz]))
    have hy := h y (by simp)
    refine Nat.le_trans h1 ?_
    show val b ((v * b + y) * b + x) (s ++ t) ≤ val b ((v * b + x) * b + y) (s ++ t)
    refine val_mono_v _ _ _ ?_
    rw [Nat.add_mul, Nat.add_mul]
    obtain ⟨d, rfl⟩ := Nat.exists_eq_add_of_le hy
    rw [Nat.add_mul]
    have : d ≤ d * b := Nat.le_mul_of_pos_right d (by omega)
    omega
theorem sorted_least {b : Nat} (hb : 1 ≤ b) (l : List Nat) : ∀ (s : List Nat) (v : Nat), s.Perm l → s.Pairwise (· ≤ ·) → val b v s ≤ val b v l := by
  induction l with
  | nil => intro s v hp _; rw [hp.eq_nil]; exact Nat.le_refl _
  | cons x l ih =>
    intro s v hp hs
    have hx : x ∈ s := hp.mem_iff.2 (by simp)
    obtain ⟨s1, s2, rfl⟩ := List.append_of_mem hx
    have hs' := List.pairwise_append.1 hs
    have hle : ∀ y ∈ s1, y ≤ x := fun y hy => hs'.2.2 y hy x (by simp)
    have hp2 : (s1 ++ s2).Perm l := by
      have h1 : (x :: (s1 ++ s2)).Perm (x :: l) := List.perm_middle.symm.trans hp
      exact h1.cons_inv
    have hs2 : (s1 ++ s2).Pairwise (· ≤ ·) := List.pairwise_append.2 ⟨hs'.1, (List.pairwise_cons.1 hs'.2.1).2, fun a ha c hc => hs'.2.2 a ha c (by simp [hc])⟩
    exact Nat.le_trans (bubble hb x s2 s1 v hle) (ih _ _ hp2 hs2)
theorem lpow_perm {p : Nat} {l m : List Nat} (h : l.Perm m) : lpow p l = lpow p m := by
  induction h with
  | nil => rfl
  | cons x _ ih => simp only [lpow, ih]
  | swap x y l => simp only [lpow]; omega
  | trans _ _ ih1 ih2 => exact ih1.trans ih2
theorem psum_val {b : Nat} (hb : 2 ≤ b) (p : Nat) (hp : 1 ≤ p) (l : List Nat) : ∀ v : Nat, (∀ d ∈ l, d < b) → psum b p (val b v l) = psum b p v + lpow p l := by
  induction l with
  | nil => intro v _; simp [val, lpow]
  | cons d l ih =>
    intro v h
    show psum b p (val b (v * b + d) l) = _
    rw [ih _ (fun x hx => h x (by simp [hx])), psum_step hb p hp v d (h d (by simp))]
    simp only [lpow]
    omega
theorem sort_nat (l : List Nat) : ∃ s : List Nat, ((ic l).mergeSort fun x y => decide (x ≤ y)) = ic s ∧ s.Perm l ∧ s.Pairwise (· ≤ ·) := by
  have hp := List.mergeSort_perm (ic l) (fun x y => decide (x ≤ y))
  have hs : ((ic l).mergeSort fun x y => decide (x ≤ y)).Pairwise (fun x y => decide (x ≤ y) = true) := List.pairwise_mergeSort (fun a b c h1 h2 => by simp at *; omega) (fun a b => by simp; omega) (ic l)
  generalize ((ic l).mergeSort fun x y => decide (x ≤ y)) = m at hp hs
  have hnn : ∀ x ∈ m, 0 ≤ x := fun x hx => by
    have h1 := hp.mem_iff.1 hx
    unfold ic at h1
    obtain ⟨y, _, rfl⟩ := List.mem_map.1 h1
    omega
  have e : m = ic (m.map Int.toNat) := by
    unfold ic
    rw [List.map_map]
    refine (List.map_id' m).symm.trans (List.map_congr_left (fun x hx => ?_))
    have := hnn x hx
    simp only [Function.comp]
    omega
  refine ⟨m.map Int.toNat, e, ?_, ?_⟩
  · have h1 := hp.map Int.toNat
    unfold ic at h1
    rw [List.map_map, show (Int.toNat ∘ fun (x : Nat) => (x : Int)) = id from funext (fun x => Int.toNat_natCast x), List.map_id] at h1
    exact h1
  · rw [List.pairwise_map]
    exact hs.imp (fun h => by simp at h; omega)

theorem impl_value_loop (b : Nat) (hb : 2 ≤ b) (hb2 : b ≤ 16) (post : List Nat) : ∀ (pre : List Nat) (v : Nat), v ≤ 1000000000000 → (∀ d ∈ post, d < b) → (pre ++ post).length ≤ 1000000000000 →
    Ev (fun k => impl_value.l0 k (b : Int) (v : Int) (ic (pre ++ post)) ((pre ++ post).length : Int) (pre.length : Int)) (if val b v post ≤ 1000000000000 then ((val b v post : Nat) : Int) else 1000000000001) := by
  induction post with
  | nil =>
    intro pre v hv hd hl
    refine evs (fun k => by rw [impl_value.l0]) ?_
    exact evn (by simp) (evr (by simp [val, hv]))
  | cons d post ih =>
    intro pre v hv hd hl
    have hl2 : (pre ++ d :: post).length = pre.length + (post.length + 1) := by simp
    have hd1 := hd d (by simp)
    have hm : v * b ≤ 1000000000000 * 16 := Nat.mul_le_mul hv hb2
    have e1 : (v : Int) * (b : Int) = ((v * b : Nat) : Int) := (Int.natCast_mul _ _).symm
    have e2 : ((v * b : Nat) : Int) + (d : Int) = ((v * b + d : Nat) : Int) := by omega
    refine evs (fun k => by rw [impl_value.l0]) ?_
    rw [ic_rd, ic_length, hl2, e1, w64n (v * b) (by omega), e2, w64n (v * b + d) (by omega), w64 (x := (pre.length : Int) + 1) (by omega) (by omega)]
    refine evp (by omega) (evp (by omega) (evp (by omega) ?_))
    rw [show val b v (d :: post) = val b (v * b + d) post from rfl]
    by_cases h : v * b + d ≤ 1000000000000
    · have h3 := ih (pre ++ [d]) (v * b + d) h (fun x hx => hd x (by simp [hx])) (by simp at hl ⊢; omega)
      rw [List.append_assoc, List.singleton_append, hl2] at h3
      have e3 : (((pre ++ [d]).length : Nat) : Int) = (pre.length : Int) + 1 := by simp
      rw [e3] at h3
      exact evn (by omega) h3
    · have h4 := val_ge (b := b) (by omega) post (v * b + d)
      rw [if_neg (by omega)]
      exact evp (by omega) (Ev.now _)
theorem impl_value_ev (b : Nat) (hb : 2 ≤ b) (hb2 : b ≤ 16) (l : List Nat) (hd : ∀ d ∈ l, d < b) (hl : l.length ≤ 1000000000000) : Ev (fun k => impl_value.f k (ic l) (b : Int)) (if val b 0 l ≤ 1000000000000 then ((val b 0 l : Nat) : Int) else 1000000000001) := by
  have h := impl_value_loop b hb hb2 l [] 0 (by omega) hd (by simpa using hl)
  unfold impl_value.f
  rw [ic_length]
  simpa using h
theorem low_byte (x : Int) : 0 ≤ Go.bits .and .u64 ((IntKind.u64.wrap x) / 1099511627776) 255 ∧ Go.bits .and .u64 ((IntKind.u64.wrap x) / 1099511627776) 255 ≤ 255 := by
  have h0 : 0 ≤ IntKind.u64.wrap x ∧ IntKind.u64.wrap x < 18446744073709551616 := by rw [IntKind.wrap_u64]; omega
  obtain ⟨y, hy⟩ := Int.eq_ofNat_of_zero_le (show 0 ≤ IntKind.u64.wrap x / 1099511627776 by omega)
  rw [hy]
  have h1 := bits_and_u64_nat y 255 (by omega) (by omega)
  have e : y &&& 255 = y % 256 := Nat.and_two_pow_sub_one_eq_mod y 8
  rw [e] at h1
  rw [show ((255 : Int)) = ((255 : Nat) : Int) from rfl, h1]
  omega
theorem next_ok (l : List Int) (hl : ∀ x ∈ l, 0 ≤ x ∧ x ≤ 255) (p s : Int) (h0 : 0 ≤ p) (h1 : p ≤ 1000000000000) :
    ∃ v s' : Int, spec_l1Cur_next.f l p s = some (v, p + 1, s') ∧ 0 ≤ v ∧ v ≤ 255 := by
  unfold spec_l1Cur_next.f
  rw [w64 (x := p + 1) (by omega) (by omega)]
  by_cases hp : p < (l.length : Int)
  · have hm := hl _ (rd_mem l p h0 hp)
    rw [if_pos hp, if_pos h0]
    by_cases hq : p + 1 ≤ (l.length : Int)
    · rw [if_pos hq]
      refine ⟨_, _, rfl, ?_⟩
      rw [w64 (by omega) (by omega)]
      exact hm
    · omega
  · rw [if_neg hp]
    by_cases hq : p + 1 ≤ (l.length : Int)
    · omega
    · rw [if_neg hq]
      refine ⟨_, _, rfl, ?_⟩
      have h := low_byte (IntKind.u64.wrap (IntKind.u64.wrap (s * 6364136223846793005)) + 1442695040888963407)
      rw [w64 (by omega) (by omega)]
      exact h
theorem pick_ok (l : List Int) (hl : ∀ x ∈ l, 0 ≤ x ∧ x ≤ 255) (p s n : Int) (h0 : 0 ≤ p) (h1 : p ≤ 999999999990) (hn : n ≤ 1000000) :
    ∃ v p' s' : Int, spec_l1Cur_pick.f l p s n = some (v, p', s') ∧ 0 ≤ v ∧ v ≤ 1000000 ∧ (v = 0 ∨ v < n) ∧ p ≤ p' ∧ p' ≤ p + 2 := by
  unfold spec_l1Cur_pick.f
  by_cases h : n ≤ 1
  · rw [if_pos h]
    exact ⟨0, p, s, rfl, by omega, by omega, by omega, by omega, by omega⟩
  · rw [if_neg h]
    obtain ⟨v, s1, e1, h2, h3⟩ := next_ok l hl p s h0 (by omega)
    rw [e1]
    simp only [Option.bind_some]
    by_cases h4 : n > 200
    · rw [if_pos h4]
      obtain ⟨v2, s2, e2, h5, h6⟩ := next_ok l hl (p + 1) s1 (by omega) (by omega)
      rw [e2]
      simp only [Option.bind_some]
      rw [if_neg (by omega), w64 (x := v * 256) (by omega) (by omega), w64 (by omega) (by omega)]
      have h7 := Int.tmod_nonneg n (show 0 ≤ v * 256 + v2 by omega)
      have h8 := Int.tmod_lt_of_pos (v * 256 + v2) (show 0 < n by omega)
      exact ⟨_, _, _, rfl, h7, by omega, Or.inr h8, by omega, by omega⟩
    · rw [if_neg h4, if_neg (by omega)]
      have h7 := Int.tmod_nonneg n (show 0 ≤ v by omega)
      have h8 := Int.tmod_lt_of_pos v (show 0 < n by omega)
      exact ⟨_, _, _, rfl, h7, by omega, Or.inr h8, by omega, by omega⟩
theorem among_ok (l : List Int) (hl : ∀ x ∈ l, 0 ≤ x ∧ x ≤ 255) (p s : Int) (m : List Int) (hm : m ≠ []) (hm2 : m.length ≤ 1000000) (h0 : 0 ≤ p) (h1 : p ≤ 999999999990) :
    ∃ v p' s' : Int, spec_l1Cur_among.f l p s m = some (v, p', s') ∧ v ∈ m ∧ p ≤ p' ∧ p' ≤ p + 2 := by
  unfold spec_l1Cur_among.f
  have hpos := List.length_pos_iff.2 hm
  obtain ⟨v, p', s', e1, h2, h3, h4, h5, h6⟩ := pick_ok l hl p s m.length h0 h1 (by omega)
  rw [e1]
  simp only [Option.bind_some]
  rw [if_pos h2, if_pos (by omega)]
  exact ⟨_, _, _, rfl, rd_mem m v h2 (by omega), h5, h6⟩

theorem base_ok (l : List Int) (hl : ∀ x ∈ l, 0 ≤ x ∧ x ≤ 255) (p s : Int) (h0 : 0 ≤ p) (h1 : p ≤ 999999999990) : ∃ v p' s' : Int, spec_l1Cur_base.f l p s = some (v, p', s') ∧ p ≤ p' ∧ p' ≤ p + 2 := by
  unfold spec_l1Cur_base.f
  obtain ⟨v, p', s', e, _, h2, h3⟩ := among_ok l hl p s [10, 10, 10, 2, 3, 5, 7, 16, 12, 10, 10, 16, 1, 17, 0] (by simp) (by simp) h0 h1
  rw [e]
  exact ⟨_, _, _, rfl, h2, h3⟩

theorem one_ok (l : List Int) (hl : ∀ x ∈ l, 0 ≤ x ∧ x ≤ 255) (p s n : Int) (h0 : 0 ≤ p) (h1 : p ≤ 999999999990) (hn : n ≤ 1000000) : ∃ (v : Bool) (p' s' : Int), spec_l1Cur_one.f l p s n = some (v, p', s') ∧ p ≤ p' ∧ p' ≤ p + 2 := by
  obtain ⟨v1, p1, s1, e1, a1, b1, c1, d1, f1⟩ := pick_ok l hl p s n h0 h1 hn
  unfold spec_l1Cur_one.f
  rw [e1]
  exact ⟨_, _, _, rfl, d1, f1⟩
theorem sureNumber_loop (l : List Int) (hl : ∀ x ∈ l, 0 ≤ x ∧ x ≤ 255) (d : Nat) : ∀ x p s : Int, 0 ≤ p → p + 2 * (d : Int) ≤ 100000000 → ∃ v p' s' : Int, Ev (fun k => spec_l1Cur_sureNumber.l0 k x (d : Int) l p s) (v, p', s') ∧ p ≤ p' ∧ p' ≤ p + 2 * (d : Int) := by
  induction d with
  | zero =>
    intro x p s h0 h1
    exact ⟨x, p, s, evs (fun k => by rw [spec_l1Cur_sureNumber.l0]) (evn (by omega) (Ev.now _)), by omega, by omega⟩
  | succ d ih =>
    intro x p s h0 h1
    obtain ⟨v, p1, s1, e1, _, _, _, h2, h3⟩ := pick_ok l hl p s 10 h0 (by omega) (by omega)
    obtain ⟨v', p2, s2, e2, h4, h5⟩ := ih (wrap64 (wrap64 (x * 10) + v)) p1 s1 (by omega) (by omega)
    refine ⟨v', p2, s2, evs (fun k => by rw [spec_l1Cur_sureNumber.l0]) (evp (by omega) ?_), by omega, by omega⟩
    simp only [e1, Option.bind_some]
    rw [w64 (x := (((d + 1 : Nat)) : Int) - 1) (by omega) (by omega), show (((d + 1 : Nat)) : Int) - 1 = (d : Int) by omega]
    exact e2
theorem sureNumber_ok (l : List Int) (hl : ∀ x ∈ l, 0 ≤ x ∧ x ≤ 255) (p s : Int) (h0 : 0 ≤ p) (h1 : p ≤ 90000000) : ∃ v p' s' : Int, Ev (fun k => spec_l1Cur_sureNumber.f k l p s) (v, p', s') ∧ p ≤ p' ∧ p' ≤ p + 30 := by
  obtain ⟨v1, p1, s1, e1, a1, b1, c1, d1, f1⟩ := pick_ok l hl p s 8 (by omega) (by omega) (by omega)
  simp only [spec_l1Cur_sureNumber.f, e1, Option.bind_some]
  by_cases h0 : v1 = 0
  · obtain ⟨v2, p2, s2, e2, a2, b2, c2, d2, f2⟩ := pick_ok l hl p1 s1 256 (by omega) (by omega) (by omega)
    refine ⟨v2, p2, s2, evp h0 ?_, by omega, by omega⟩
    simp only [e2, Option.bind_some]
    exact Ev.now _
  · by_cases h1 : v1 = 1
    · obtain ⟨v, p2, s2, e2, _, h2, h3⟩ := among_ok l hl p1 s1 [0, 1, 9, 10, 99, 100, 153, 370, 1000, 6174, 9999, 999999999999, 1000000000000] (by simp) (by simp) (by omega) (by omega)
      refine ⟨v, p2, s2, evn h0 (evp h1 ?_), by omega, by omega⟩
      simp only [e2, Option.bind_some]
      exact Ev.now _
    · by_cases h2 : v1 = 2
      · obtain ⟨v2, p2, s2, e2, a2, b2, c2, d2, f2⟩ := pick_ok l hl p1 s1 256 (by omega) (by omega) (by omega)
        obtain ⟨v3, p3, s3, e3, a3, b3, c3, d3, f3⟩ := pick_ok l hl p2 s2 256 (by omega) (by omega) (by omega)
        refine ⟨wrap64 (v2 * v3), p3, s3, evn h0 (evn h1 (evp h2 ?_)), by omega, by omega⟩
        simp only [e2, e3, Option.bind_some]
        exact Ev.now _
      · obtain ⟨v2, p2, s2, e2, a2, b2, c2, d2, f2⟩ := pick_ok l hl p1 s1 11 (by omega) (by omega) (by omega)
        obtain ⟨d, rfl⟩ := natOf (a := v2) a2
        obtain ⟨v3, p3, s3, e3, h4, h5⟩ := sureNumber_loop l hl (1 + d) 0 p2 s2 (by omega) (by omega)
        refine ⟨v3, p3, s3, evn h0 (evn h1 (evn h2 ?_)), by omega, by omega⟩
        simp only [e2, Option.bind_some]
        rw [w64 (x := (1 : Int) + (d : Int)) (by omega) (by omega)]
        simpa using e3
theorem number_ok (l : List Int) (hl : ∀ x ∈ l, 0 ≤ x ∧ x ≤ 255) (p s : Int) (h0 : 0 ≤ p) (h1 : p ≤ 80000000) : ∃ v p' s' : Int, Ev (fun k => spec_l1Cur_number.f k l p s) (v, p', s') ∧ p ≤ p' ∧ p' ≤ p + 40 := by
  obtain ⟨v1, p1, s1, e1, d1, f1⟩ := one_ok l hl p s 20 (by omega) (by omega) (by omega)
  simp only [spec_l1Cur_number.f, e1, Option.bind_some]
  by_cases h0 : v1 = true
  · obtain ⟨v, p2, s2, e2, _, h2, h3⟩ := among_ok l hl p1 s1 [(-1), 1000000000001, 4611686018427387904, (-4611686018427387904)] (by simp) (by simp) (by omega) (by omega)
    refine ⟨v, p2, s2, evp h0 ?_, by omega, by omega⟩
    simp only [e2, Option.bind_some]
    exact Ev.now _
  · obtain ⟨v, p2, s2, e2, h2, h3⟩ := sureNumber_ok l hl p1 s1 (by omega) (by omega)
    exact ⟨v, p2, s2, evn h0 (evb e2 (Ev.now _)), by omega, by omega⟩

theorem laws_rHas_loop (x : Int) (whole : List Int) (post : List Int) : ∀ pre : List Int, whole = pre ++ post → whole.length ≤ 4611686018427387904 →
    Ev (fun k => laws_rHas.l0 k x whole (whole.length : Int) (pre.length : Int)) (decide (x ∈ post)) := by
  induction post with
  | nil =>
    intro pre hw h
    refine evs (fun k => by rw [laws_rHas.l0]) ?_
    exact evn (by simp [hw]) (evr (by simp))
  | cons y post ih =>
    intro pre hw h
    have hl : whole.length = pre.length + (post.length + 1) := by simp [hw]
    have hx : rd whole (pre.length : Int) = y := by rw [hw, rd_mid]
    refine evs (fun k => by rw [laws_rHas.l0]) ?_
    rw [hx]
    refine evp (by omega) (evp (by omega) (evp (by omega) ?_))
    by_cases he : y = x
    · exact evp he (evr (by simp [he]))
    · refine evn he ?_
      have h2 := ih (pre ++ [y]) (by simp [hw]) h
      rw [w64 (by omega) (by omega)]
      have e : decide (x ∈ y :: post) = decide (x ∈ post) := by
        have : ¬ x = y := fun e => he e.symm
        simp [this]
      rw [e]
      simpa using h2
theorem laws_rHas_ev (l : List Int) (x : Int) (h : l.length ≤ 4611686018427387904) : Ev (fun k => laws_rHas.f k l x) (decide (x ∈ l)) := by
  unfold laws_rHas.f
  simpa using laws_rHas_loop x l l [] rfl h

theorem laws_rSame_loop (post : List Int) : ∀ (pre post' : List Int), post'.length = post.length → (pre ++ post).length ≤ 4611686018427387904 →
    Ev (fun k => laws_rSame.l0 k (pre ++ post) (pre ++ post') ((pre ++ post).length : Int) (pre.length : Int)) (decide (post = post')) := by
  induction post with
  | nil =>
    intro pre post' hl h
    obtain rfl : post' = [] := List.eq_nil_of_length_eq_zero hl
    refine evs (fun k => by rw [laws_rSame.l0]) ?_
    exact evn (by simp) (evr (by simp))
  | cons x post ih =>
    intro pre post' hl h
    obtain ⟨y, post', rfl⟩ : ∃ y z, post' = y :: z := by cases post' with
      | nil => simp at hl
      | cons y z => exact ⟨y, z, rfl⟩
    refine evs (fun k => by rw [laws_rSame.l0]) ?_
    refine evp (by simp; omega) (evp (by omega) (evp (by simp; omega) (evp (by simp; omega) ?_)))
    rw [rd_mid, rd_mid]
    by_cases he : x = y
    · subst he
      refine evp rfl ?_
      have h2 := ih (pre ++ [x]) post' (by simpa using hl) (by simpa using h)
      simp only [List.append_assoc, List.singleton_append] at h2
      rw [w64 (by omega) (by simp at h; omega)]
      simpa using h2
    · exact evn he (evr (by simp [he]))
theorem laws_rSame_ev (l l' : List Int) (h : l.length ≤ 4611686018427387904) : Ev (fun k => laws_rSame.f k l l') (decide (l = l')) := by
  unfold laws_rSame.f
  by_cases hl : l.length = l'.length
  · exact evp (by omega) (by simpa using laws_rSame_loop l [] l' hl.symm (by simpa using h))
  · exact evn (by omega) (evr (by symm; rw [decide_eq_false_iff_not]; exact fun e => hl (by rw [e])))
theorem laws_rSame_self (l : List Int) (h : l.length ≤ 4611686018427387904) : Ev (fun k => laws_rSame.f k l l) true := by simpa using laws_rSame_ev l l h

theorem drawPow_ok (l : List Int) (hl : ∀ x ∈ l, 0 ≤ x ∧ x ≤ 255) : ∃ n b p : Int, Ev (fun k => spec_DrawPowerSum.f k l) (n, b, p) := by
  obtain ⟨v, p1, s1, e1, a1, b1⟩ := number_ok l hl 0 0 (by omega) (by omega)
  obtain ⟨b, p2, s2, e2, a2, b2⟩ := base_ok l hl p1 s1 (by omega) (by omega)
  obtain ⟨q, p3, s3, e3, _, _, _⟩ := among_ok l hl p2 s2 [1, 2, 2, 3, 3, 4, 5, 8, 9, 0] (by simp) (by simp) (by omega) (by omega)
  refine ⟨v, b, q, ?_⟩
  unfold spec_DrawPowerSum.f
  refine evb (a := (v, b, q, p3, s3)) ?_ (Ev.now _)
  unfold spec_l1Cur_powered.f
  exact evb e1 (evc e2 (evc e3 (Ev.now _)))
theorem drawPowRun_ok (l : List Int) (hl : ∀ x ∈ l, 0 ≤ x ∧ x ≤ 255) : ∃ n b p : Int, Ev (fun k => spec_DrawPowerRun.f k l) (n, b, p) := by
  obtain ⟨n, b, p, e⟩ := drawPow_ok l hl
  exact ⟨n, b, p, evb e (Ev.now _)⟩
theorem drawFalls_ok (l : List Int) (hl : ∀ x ∈ l, 0 ≤ x ∧ x ≤ 255) : ∃ b p : Int, spec_DrawFallsFrom.f l = some (b, p) := by
  obtain ⟨b, p1, s1, e1, a1, b1⟩ := base_ok l hl 0 0 (by omega) (by omega)
  obtain ⟨q, p2, s2, e2, _, _, _⟩ := among_ok l hl p1 s1 [1, 2, 3, 4, 5, 8, 9, 0] (by simp) (by simp) (by omega) (by omega)
  refine ⟨b, q, ?_⟩
  unfold spec_DrawFallsFrom.f
  rw [e1, Option.bind_some, e2]
  rfl
theorem ps_yes (n b p : Nat) (hn : n ≤ 1000000000000) (hb : 2 ≤ b) (hb2 : b ≤ 16) (hp1 : 1 ≤ p) (hp : p ≤ 8) :
    Ev (fun k => impl_PowerSum.f k (n : Int) (b : Int) (p : Int)) (((psum b p n : Nat) : Int), true) ∧ Ev (fun k => spec_PowerSum.f k (n : Int) (b : Int) (p : Int)) (((psum b p n : Nat) : Int), true) := by
  have i1 : impl_isNumber.f (n : Int) (b : Int) = some true := by rw [impl_isNumber_eq, decide_eq_true (by omega)]
  have s1 : spec_dgAsked.f (n : Int) (b : Int) = some true := by rw [spec_dgAsked_eq, decide_eq_true (by omega)]
  have ip : impl_isPower.f (p : Int) = some true := by rw [impl_isPower_eq, decide_eq_true (by omega)]
  have sp : spec_pwPower.f (p : Int) 8 = some true := by rw [spec_pwPower_eq, decide_eq_true (by omega)]
  exact ⟨evc i1 (evp rfl (evc ip (evp rfl (evb (impl_powerSum_ev b p n hb hb2 hp hp1 hn) (Ev.now _))))), evc s1 (evp rfl (evc sp (evp rfl (evb (spec_pwSum_ev b p n hb hb2 hp hn) (Ev.now _)))))⟩
theorem ps_no (n b p : Int) (h : ¬ (((0 ≤ n ∧ n ≤ 1000000000000) ∧ 2 ≤ b ∧ b ≤ 16) ∧ 1 ≤ p ∧ p ≤ 8)) :
    Ev (fun k => impl_PowerSum.f k n b p) (0, false) ∧ Ev (fun k => spec_PowerSum.f k n b p) (0, false) := by
  unfold impl_PowerSum.f spec_PowerSum.f
  by_cases h1 : (0 ≤ n ∧ n ≤ 1000000000000) ∧ 2 ≤ b ∧ b ≤ 16
  · have h2 : ¬ (1 ≤ p ∧ p ≤ 8) := fun h2 => h ⟨h1, h2⟩
    have i1 : impl_isNumber.f n b = some true := by rw [impl_isNumber_eq, decide_eq_true h1]
    have s1 : spec_dgAsked.f n b = some true := by rw [spec_dgAsked_eq, decide_eq_true h1]
    have ip : impl_isPower.f p = some false := by rw [impl_isPower_eq, decide_eq_false h2]
    have sp : spec_pwPower.f p 8 = some false := by rw [spec_pwPower_eq, decide_eq_false h2]
    exact ⟨evc i1 (evp rfl (evc ip (evn (by simp) (Ev.now _)))), evc s1 (evp rfl (evc sp (evn (by simp) (Ev.now _))))⟩
  · have i1 : impl_isNumber.f n b = some false := by rw [impl_isNumber_eq, decide_eq_false h1]
    have s1 : spec_dgAsked.f n b = some false := by rw [spec_dgAsked_eq, decide_eq_false h1]
    exact ⟨evc i1 (evn (by simp) (Ev.now _)), evc s1 (evn (by simp) (Ev.now _))⟩
theorem falls_two {b p F : Nat} (hb : 2 ≤ b) (h : Falls b ((b - 1) ^ p) F) : 2 ≤ F := by
  rcases Nat.lt_or_ge F 2 with h1 | h1
  · have h2 := h.one
    have h3 := h.high 1 (by omega)
    have h4 : 1 ≤ (b - 1) ^ p := Nat.pow_pos (by omega)
    simp at h3
    omega
  · exact h1
theorem j6_ok (n b p : Nat) (hn : n ≤ 1000000000000) (hb : 2 ≤ b) (hb2 : b ≤ 16) (hp1 : 1 ≤ p) (hp : p ≤ 8) : Ev (fun k => laws_FnPowerRunsEnd.j6 k (n : Int) (b : Int) (p : Int) ((psum b p n : Nat) : Int) true false) true := by
  obtain ⟨F, hF⟩ := falls_of b p hb hb2 hp
  obtain ⟨h1, _, h3, _⟩ := falls_yes b p F hb hb2 hp1 hp hF
  have h2 := falls_two hb hF
  have i1 : impl_isNumber.f (n : Int) (b : Int) = some true := by rw [impl_isNumber_eq, decide_eq_true (by omega)]
  have hc : Ev (fun k => impl_CountDigits.f k (n : Int) (b : Int)) (((dgl b n).length : Int), true) := by
    unfold impl_CountDigits.f
    exact evc i1 (evp rfl (evb (impl_digitsOf_ev b n hb hn) (evr (by rw [ic_length]))))
  have hl := dgl_low_len hb n
  refine evs (fun k => by rw [laws_FnPowerRunsEnd.j6]) ?_
  refine evn (by simp) (evp rfl (evb h1 (evb hc (evb h3 (evp rfl (evp rfl (evp rfl ?_)))))))
  by_cases g : (dgl b n).length < F
  · have g1 : (low b n).length < F := by
      by_cases h0 : n = 0
      · subst h0; rw [low_zero]; simp; omega
      · rw [if_neg h0] at hl; omega
    have := falls_few hb hF n g1
    exact evp (by simp only; omega) (evn (by simp only; omega) (evr (decide_eq_true (by omega))))
  · have h0 : n ≠ 0 := fun h0 => by
      subst h0
      rw [if_pos rfl] at hl
      omega
    rw [if_neg h0] at hl
    have := falls_many hb hF n (by omega)
    exact evn (by simp only; omega) (evp (by omega) (evp (by simp only; omega) (Ev.now _)))
theorem j4_ok (l : List Int) (hl : ∀ x ∈ l, 0 ≤ x ∧ x ≤ 255) : Ev (fun k => laws_FnPowerRunsEnd.j4 k l) true := by
  have j5 : Ev (fun k => laws_FnPowerRunsEnd.j5 k l false) true := by
    obtain ⟨n, b, p, e⟩ := drawPow_ok l hl
    refine evs (fun k => by rw [laws_FnPowerRunsEnd.j5]) ?_
    refine evn (by simp) (evb e ?_)
    by_cases h : ((0 ≤ n ∧ n ≤ 1000000000000) ∧ 2 ≤ b ∧ b ≤ 16) ∧ 1 ≤ p ∧ p ≤ 8
    · obtain ⟨n, rfl⟩ := natOf (a := n) (by omega)
      obtain ⟨b, rfl⟩ := natOf (a := b) (by omega)
      obtain ⟨p, rfl⟩ := natOf (a := p) (by omega)
      obtain ⟨h1, h2⟩ := ps_yes n b p (by omega) (by omega) (by omega) (by omega) (by omega)
      refine evb h1 (evb h2 (evn (by simp) ?_))
      have := j6_ok n b p (by omega) (by omega) (by omega) (by omega) (by omega)
      simpa using this
    · obtain ⟨h1, h2⟩ := ps_no n b p h
      refine evb h1 (evb h2 (evn (by simp) ?_))
      refine evs (fun k => by rw [laws_FnPowerRunsEnd.j6]) ?_
      exact evn (by simp) (evn (by simp) (Ev.now _))
  obtain ⟨b, p, e⟩ := drawFalls_ok l hl
  refine evs (fun k => by rw [laws_FnPowerRunsEnd.j4]) ?_
  refine evc e ?_
  by_cases h : (2 ≤ b ∧ b ≤ 16) ∧ 1 ≤ p ∧ p ≤ 8
  · obtain ⟨b, rfl⟩ := natOf (a := b) (by omega)
    obtain ⟨p, rfl⟩ := natOf (a := p) (by omega)
    obtain ⟨F, hF⟩ := falls_of b p (by omega) (by omega) (by omega)
    obtain ⟨h1, h2, h3, h4⟩ := falls_yes b p F (by omega) (by omega) (by omega) (by omega) hF
    exact evb h1 (evb h2 (evb h3 (evb h4 (evn (by simp) (evp rfl (evn (by simp) (evp rfl j5)))))))
  · obtain ⟨h1, h2, h3, h4⟩ := falls_no b p h
    exact evb h1 (evb h2 (evb h3 (evb h4 (evn (by simp) (evp rfl (evn (by simp) (evp rfl j5)))))))
theorem up_ev (n b p : Nat) (hn : n ≤ 1000000000000) (hb : 2 ≤ b) (hb2 : b ≤ 16) (hp1 : 1 ≤ p) : ∃ u : Nat, u ≤ n ∧ psum b p u = psum b p n ∧ Ev (fun k => impl_SortedUp.f k (n : Int) (b : Int)) ((u : Int), true) := by
  have i1 : impl_isNumber.f (n : Int) (b : Int) = some true := by rw [impl_isNumber_eq, decide_eq_true (by omega)]
  obtain ⟨s, h1, h2, h3⟩ := sort_nat (dgl b n)
  have hlt : ∀ d ∈ s, d < b := fun d hd => dgl_lt hb n d (h2.mem_iff.1 hd)
  have hlen := dgl_len hb n hn
  have hsl := h2.length_eq
  have hle := sorted_least (b := b) (by omega) (dgl b n) s 0 h2 h3
  rw [dgl_val hb n] at hle
  have hv := impl_value_ev b hb hb2 s hlt (by omega)
  rw [if_pos (by omega)] at hv
  have hps := psum_val hb p hp1 s 0 hlt
  rw [psum_zero, Nat.zero_add, lpow_perm h2, psum_dgl p n hp1] at hps
  refine ⟨val b 0 s, hle, hps, ?_⟩
  unfold impl_SortedUp.f
  refine evc i1 (evp rfl (evb (a := ic s) ?_ (evb hv (Ev.now _))))
  unfold impl_sorted.f
  refine evb (impl_digitsOf_ev b n hb hn) (evc (a := ic s) ?_ (Ev.now _))
  unfold slices_Sort_int_int.f
  rw [if_pos (by rw [ic_length]; omega), h1]
theorem j3_ok (l : List Int) (hl : ∀ x ∈ l, 0 ≤ x ∧ x ≤ 255) (n b p : Nat) (hn : n ≤ 1000000000000) (hb : 2 ≤ b) (hb2 : b ≤ 16) (hp1 : 1 ≤ p) (hp : p ≤ 8) : Ev (fun k => laws_FnPowerRunsEnd.j3 k l (n : Int) (b : Int) (p : Int) false) true := by
  obtain ⟨u, h1, h2, h3⟩ := up_ev n b p hn hb hb2 hp1
  have q1 := (ps_yes u b p (by omega) hb hb2 hp1 hp).1
  have q2 := (ps_yes n b p hn hb hb2 hp1 hp).1
  rw [h2] at q1
  refine evs (fun k => by rw [laws_FnPowerRunsEnd.j3]) ?_
  exact evn (by simp) (evb h3 (evp rfl (evb q1 (evb q2 (evp rfl (evp rfl (evp rfl (j4_ok l hl))))))))
theorem l0_ok (l : List Int) (hl : ∀ x ∈ l, 0 ≤ x ∧ x ≤ 255) (n b p len t E : Nat) (hn : n ≤ 1000000000000) (hb : 2 ≤ b) (hb2 : b ≤ 16) (hp1 : 1 ≤ p) (hp4 : p ≤ 4) (hlen : len ≤ 2025002) (hc : Comes (psum b p) n len t)
    (hE : ∀ j, t ≤ j → j < len → E ≤ its (psum b p) j n) (r : Nat) : ∀ i : Nat, i + r = len →
    Ev (fun k => laws_FnPowerRunsEnd.l0 k l (n : Int) (b : Int) (p : Int) (ic (runto (psum b p) n len)) (t : Int) (E : Int) (ic (runto (psum b p) n len)) (len : Int) (i : Int)) true := by
  have hlt := hc.lt
  have hL : (ic (runto (psum b p) n len)).length = len := by rw [ic_length, runto_len]
  have g : ∀ j, j < len → rd (ic (runto (psum b p) n len)) (j : Int) = ((its (psum b p) j n : Nat) : Int) := by
    intro j hj
    rw [rd_get _ _ (by omega)]
    have h4 := (List.getElem?_eq_some_iff.1 (runto_get (psum b p) n len j hj)).2
    simp only [ic, List.getElem_map]
    rw [h4]
  induction r with
  | zero =>
    intro i hi
    have : i = len := by omega
    subst this
    obtain ⟨F, hF⟩ := falls_of b p hb hb2 (by omega)
    obtain ⟨_, _, h3, _⟩ := falls_yes b p F hb hb2 hp1 (by omega) hF
    have hle := cycle_le hb hF hc t (Nat.le_refl _)
    refine evs (fun k => by rw [laws_FnPowerRunsEnd.l0]) ?_
    rw [hL, g t hlt]
    exact evn (by omega) (evb h3 (evp rfl (evp (by omega) (evp (by omega) (evp (by omega) (by
      simp only
      rw [decide_eq_false (by omega)]
      exact j3_ok l hl n b p hn hb hb2 hp1 (by omega)))))))
  | succ r ih =>
    intro i hi
    have h1 := ih (i + 1) (by omega)
    have hb3 := its_psum' hb hb2 hp4 n hn i
    have q := (ps_yes (its (psum b p) i n) b p hb3 hb hb2 hp1 (by omega)).1
    rw [← its_succ (psum b p)] at q
    refine evs (fun k => by rw [laws_FnPowerRunsEnd.l0]) ?_
    rw [hL, g i (by omega), g t hlt, w64 (x := (i : Int) + 1) (by omega) (by omega), show (i : Int) + 1 = ((i + 1 : Nat) : Int) by omega]
    refine evp (by omega) (evp (by omega) (evp (by omega) (evb q ?_)))
    have hend : Ev (fun k => if ((i : Int) ≥ (t : Int)) then (if ((its (psum b p) i n : Nat) : Int) < (E : Int) then (some false) else (laws_FnPowerRunsEnd.l0 k l (n : Int) (b : Int) (p : Int) (ic (runto (psum b p) n len)) (t : Int) (E : Int) (ic (runto (psum b p) n len)) (len : Int) ((i + 1 : Nat) : Int))) else (laws_FnPowerRunsEnd.l0 k l (n : Int) (b : Int) (p : Int) (ic (runto (psum b p) n len)) (t : Int) (E : Int) (ic (runto (psum b p) n len)) (len : Int) ((i + 1 : Nat) : Int))) true := by
      by_cases h2 : t ≤ i
      · have := hE i h2 (by omega)
        exact evp (by omega) (evn (by omega) h1)
      · exact evn (by omega) h1
    by_cases h2 : i + 1 < len
    · rw [g (i + 1) h2]
      exact evp (by omega) (evp rfl (evp (by omega) (evp rfl hend)))
    · have e2 : its (psum b p) (i + 1) n = its (psum b p) t n := by rw [show i + 1 = len by omega]; exact hc.back
      rw [e2]
      exact evn (by omega) (evp rfl (evp (by omega) (evp (by omega) (evp rfl hend))))
theorem FnPowerRunsEnd : laws_FnPowerRunsEnd.Pure := by
  intro l0 l1 _ _ w0 _ _ w1
  have hb : ∀ l : List Int, (∀ x ∈ l, (Lit.int .u8 x).wf = true) → ∀ x ∈ l, 0 ≤ x ∧ x ≤ 255 := by
    intro l h x hx
    have := h x hx
    simpa [Lit.wf, IntKind.min, IntKind.max, IntKind.signed, IntKind.bits] using this
  have hl0 := hb l0 w0
  have hl1 := hb l1 w1
  refine Ev.rounds (g := fun k => laws_FnPowerRunsEnd.f k l0 l1) ?_
  unfold laws_FnPowerRunsEnd.f
  obtain ⟨t, ht⟩ : ∃ t, laws_big.f l0 l1 = some t := by
    unfold laws_big.f
    split <;> exact ⟨_, rfl⟩
  refine evc ht ?_
  cases t with
  | true => exact evp rfl (Ev.now _)
  | false =>
    refine evn (by simp) ?_
    obtain ⟨n, b, p, e0⟩ := drawPowRun_ok l0 hl0
    refine evb e0 ?_
    have iC : impl_isCycled.f n b p = some (decide (((0 ≤ n ∧ n ≤ 1000000000000) ∧ 2 ≤ b ∧ b ≤ 16) ∧ 1 ≤ p ∧ p ≤ 4)) := by
      unfold impl_isCycled.f
      rw [impl_isNumber_eq, Option.bind_some]
      by_cases h1 : (0 ≤ n ∧ n ≤ 1000000000000) ∧ 2 ≤ b ∧ b ≤ 16
      · rw [if_pos (decide_eq_true h1), impl_in_eq]
        simp [h1]
      · rw [if_neg (by rw [decide_eq_false h1]; simp)]
        simp [h1]
    by_cases h : ((0 ≤ n ∧ n ≤ 1000000000000) ∧ 2 ≤ b ∧ b ≤ 16) ∧ 1 ≤ p ∧ p ≤ 4
    · rw [decide_eq_true h] at iC
      obtain ⟨n, rfl⟩ := natOf (a := n) (by omega)
      obtain ⟨b, rfl⟩ := natOf (a := b) (by omega)
      obtain ⟨p, rfl⟩ := natOf (a := p) (by omega)
      have hn : n ≤ 1000000000000 := by omega
      have hb : 2 ≤ b := by omega
      have hb2 : b ≤ 16 := by omega
      have hp1 : 1 ≤ p := by omega
      have hp4 : p ≤ 4 := by omega
      have s1 : spec_dgAsked.f (n : Int) (b : Int) = some true := by rw [spec_dgAsked_eq, decide_eq_true h.1]
      have sp : spec_pwPower.f (p : Int) 4 = some true := by rw [spec_pwPower_eq, decide_eq_true h.2]
      obtain ⟨len, t, hlen, hc⟩ := prun_comes hb hb2 hp4 n hn
      have hlt := hc.lt
      have hB := fun q => its_psum' hb hb2 hp4 n hn q
      have ir := impl_powerRun_ev hb hb2 (by omega) hp1 hc (by omega) hB
      have sr := spec_pwRun_ev hb hb2 (by omega) hc (by omega) hB
      obtain ⟨i, hi1, hi2, hi3, hi4⟩ := spec_pwEnds_ev hb hb2 (p := p) (by omega) hc (by omega) hB
      have hL : (ic (runto (psum b p) n len)).length = len := by rw [ic_length, runto_len]
      have hdrop : (ic (runto (psum b p) n len)).drop (t : Int).toNat = ic ((runto (psum b p) n len).drop t) := by rw [Int.toNat_natCast, ic_drop]
      have hdl : (ic ((runto (psum b p) n len).drop t)).length = len - t := by rw [ic_length, List.length_drop, runto_len]
      have hmem : ∀ x : Nat, x ∈ (runto (psum b p) n len).drop t ↔ ∃ j, t ≤ j ∧ j < len ∧ its (psum b p) j n = x := by
        intro x
        constructor
        · intro hx
          obtain ⟨j, hj, e⟩ := List.getElem_of_mem hx
          rw [List.length_drop, runto_len] at hj
          have h3 : ((runto (psum b p) n len).drop t)[j]? = some (its (psum b p) (t + j) n) := by rw [List.getElem?_drop]; exact runto_get _ _ _ _ (by omega)
          have h4 := (List.getElem?_eq_some_iff.1 h3).2
          exact ⟨t + j, by omega, by omega, h4.symm.trans e⟩
        · rintro ⟨j, h1, h2, rfl⟩
          have h3 : ((runto (psum b p) n len).drop t)[j - t]? = some (its (psum b p) j n) := by rw [List.getElem?_drop, show t + (j - t) = j by omega]; exact runto_get _ _ _ _ h2
          obtain ⟨h5, h4⟩ := List.getElem?_eq_some_iff.1 h3
          rw [← h4]
          exact List.getElem_mem _
      have hne : ic ((runto (psum b p) n len).drop t) ≠ [] := fun h => by rw [h] at hdl; simp at hdl; omega
      have hmin : slices_Min_int_int.f (ic ((runto (psum b p) n len).drop t)) = some ((its (psum b p) i n : Nat) : Int) := by
        unfold slices_Min_int_int.f
        rw [if_neg (by omega)]
        have e1 : slices_Min_int_int.least (ic ((runto (psum b p) n len).drop t)) = leastI (ic ((runto (psum b p) n len).drop t)) := rfl
        rw [e1]
        have a1 := leastI_le (ic ((runto (psum b p) n len).drop t)) ((its (psum b p) i n : Nat) : Int) ((ic_mem _ _).2 ((hmem _).2 ⟨i, hi1, hi2, rfl⟩))
        have a2 := leastI_mem _ hne
        unfold ic at a2
        obtain ⟨y, hy, ey⟩ := List.mem_map.1 a2
        obtain ⟨j, h1, h2, e2⟩ := (hmem y).1 hy
        have := hi3 j h1 h2
        have e3 : leastI (ic ((runto (psum b p) n len).drop t)) = (y : Int) := ey.symm
        rw [e3] at a1 ⊢
        congr 1
        omega
      have w1 : wrap64 ((len : Int) - (t : Int)) = ((len - t : Nat) : Int) := by rw [w64 (by omega) (by omega)]; omega
      have iR : Ev (fun k => impl_PowerRun.f k (n : Int) (b : Int) (p : Int)) (ic (runto (psum b p) n len), true) := evc iC (evp rfl (evb ir (Ev.now _)))
      have sR : Ev (fun k => spec_PowerRun.f k (n : Int) (b : Int) (p : Int)) (ic (runto (psum b p) n len), true) := evc s1 (evp rfl (evc sp (evp rfl (evb sr (Ev.now _)))))
      have iT : Ev (fun k => impl_PowerTail.f k (n : Int) (b : Int) (p : Int)) ((t : Int), ((len - t : Nat) : Int), true) := evc iC (evp rfl (evb ir (evr (by simp only [hL, w1]))))
      have sT : Ev (fun k => spec_PowerTail.f k (n : Int) (b : Int) (p : Int)) ((t : Int), ((len - t : Nat) : Int), true) := evc s1 (evp rfl (evc sp (evp rfl (evb sr (evr (by simp only [hL, w1]))))))
      have iE : Ev (fun k => impl_EndsIn.f k (n : Int) (b : Int) (p : Int)) (((its (psum b p) i n : Nat) : Int), true) := by
        unfold impl_EndsIn.f
        refine evc iC (evp rfl (evb ir (evp (by simp only; omega) (evp (by simp only [hL]; omega) ?_))))
        simp only [hdrop]
        exact evc hmin (Ev.now _)
      have sE : Ev (fun k => spec_EndsIn.f k (n : Int) (b : Int) (p : Int)) (((its (psum b p) i n : Nat) : Int), true) := evc s1 (evp rfl (evc sp (evp rfl (evb hi4 (Ev.now _)))))
      refine evb iR (evb sR (evb iT (evb sT (evb iE (evb sE ?_)))))
      refine evn (by simp) (evb (laws_rSame_self _ (by simp only; omega)) (evp rfl (evn (by simp) (evp rfl (evp rfl (evn (by simp) (evp rfl (evn (by simp) ?_))))))))
      refine evs (fun k => by rw [laws_FnPowerRunsEnd.j0]) ?_
      have r0 : rd (ic (runto (psum b p) n len)) 0 = (n : Int) := by
        have h1 := rd_get (ic (runto (psum b p) n len)) 0 (by omega)
        have h4 := (List.getElem?_eq_some_iff.1 (runto_get (psum b p) n len 0 (by omega))).2
        simp only [ic, List.getElem_map] at h1
        rw [h4] at h1
        exact h1
      have hhas := laws_rHas_ev (ic ((runto (psum b p) n len).drop t)) ((its (psum b p) i n : Nat) : Int) (by omega)
      rw [decide_eq_true ((ic_mem _ _).2 ((hmem _).2 ⟨i, hi1, hi2, rfl⟩))] at hhas
      refine evn (by simp) (evp rfl (evp (by simp only; rw [hL, w64 (by omega) (by omega)]; omega) (evp (by simp only; omega) (evp r0 (evp (by simp only; omega) (evp (by simp only; omega) ?_))))))
      simp only [hdrop]
      refine evb hhas ?_
      refine evs (fun k => by rw [laws_FnPowerRunsEnd.j1]) ?_
      refine evn (by simp) ?_
      rw [hL]
      exact l0_ok l1 hl1 n b p len t _ hn hb hb2 hp1 hp4 hlen hc hi3 len 0 (by omega)
    · rw [decide_eq_false h] at iC
      have iR : Ev (fun k => impl_PowerRun.f k n b p) ([], false) := evc iC (evn (by simp) (Ev.now _))
      have iT : Ev (fun k => impl_PowerTail.f k n b p) (0, 0, false) := evc iC (evn (by simp) (Ev.now _))
      have iE : Ev (fun k => impl_EndsIn.f k n b p) (0, false) := evc iC (evn (by simp) (Ev.now _))
      have ss : Ev (fun k => spec_PowerRun.f k n b p) ([], false) ∧ Ev (fun k => spec_PowerTail.f k n b p) (0, 0, false) ∧ Ev (fun k => spec_EndsIn.f k n b p) (0, false) := by
        unfold spec_PowerRun.f spec_PowerTail.f spec_EndsIn.f
        by_cases h1 : (0 ≤ n ∧ n ≤ 1000000000000) ∧ 2 ≤ b ∧ b ≤ 16
        · have h2 : ¬ (1 ≤ p ∧ p ≤ 4) := fun h2 => h ⟨h1, h2⟩
          have s1 : spec_dgAsked.f n b = some true := by rw [spec_dgAsked_eq, decide_eq_true h1]
          have sp : spec_pwPower.f p 4 = some false := by rw [spec_pwPower_eq, decide_eq_false h2]
          exact ⟨evc s1 (evp rfl (evc sp (evn (by simp) (Ev.now _)))), evc s1 (evp rfl (evc sp (evn (by simp) (Ev.now _)))), evc s1 (evp rfl (evc sp (evn (by simp) (Ev.now _))))⟩
        · have s1 : spec_dgAsked.f n b = some false := by rw [spec_dgAsked_eq, decide_eq_false h1]
          exact ⟨evc s1 (evn (by simp) (Ev.now _)), evc s1 (evn (by simp) (Ev.now _)), evc s1 (evn (by simp) (Ev.now _))⟩
      refine evb iR (evb ss.1 (evb iT (evb ss.2.1 (evb iE (evb ss.2.2 ?_)))))
      refine evn (by simp) (evb (laws_rSame_self _ (by simp)) (evp rfl (evn (by simp) (evp rfl (evp rfl (evn (by simp) (evp rfl (evn (by simp) ?_))))))))
      refine evs (fun k => by rw [laws_FnPowerRunsEnd.j0]) ?_
      exact evn (by simp) (evn (by simp) (j4_ok l1 hl1))

end Go.Proofs.Ytiheocddlopfcaa.Pure
