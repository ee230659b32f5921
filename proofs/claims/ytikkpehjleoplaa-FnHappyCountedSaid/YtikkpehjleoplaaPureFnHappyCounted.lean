/- For all codes: happy numbers are counted by sums of squares as by lists, and are those whose sums are. -/
import Derived.Test.YtikkpehjleoplaaPFnHappyCountedx8
import Derived.Test.YtikkpehjleoplaaWMore
set_option linter.unusedVariables false
set_option linter.unusedSimpArgs false
namespace Go.Proofs.Ytikkpehjleoplaa.Pure
open Go.RowKit Go.Proofs.Ytikkpehjleoplaa.PFnHappyCounted Go.Proofs.YtikkpehjleoplaaW.PrintWords Go.Proofs.YtikkpehjleoplaaW.PrintLast

theorem w64 {x : Int} (h1 : -9223372036854775808 ≤ x) (h2 : x ≤ 9223372036854775807) : wrap64 x = x := by unfold wrap64; omega

theorem w64n (n : Nat) (h : n ≤ 9223372036854775807) : wrap64 (n : Int) = (n : Int) := w64 (by omega) (by omega)

theorem evp {α : Type} {c : Prop} [Decidable c] {a b : Nat → Option α} {r : α} (h : c) (k : Ev a r) : Ev (fun n => if c then a n else b n) r := Ev.congr (fun _ => if_pos h) k
theorem evn {α : Type} {c : Prop} [Decidable c] {a b : Nat → Option α} {r : α} (h : ¬ c) (k : Ev b r) : Ev (fun n => if c then a n else b n) r := Ev.congr (fun _ => if_neg h) k
theorem evr {α : Type} {x r : α} (h : x = r) : Ev (fun _ => some x) r := h ▸ Ev.now x
theorem evb {α β : Type} {g : Nat → Option α} {f : Nat → α → Option β} {a : α} {r : β} (h : Ev g a) (k : Ev (fun n => f n a) r) : Ev (fun n => (g n).bind fun x => f n x) r := Ev.bind h k
theorem evc {α β : Type} {x : Option α} {a : α} {f : Nat → α → Option β} {r : β} (h : x = some a) (k : Ev (fun n => f n a) r) : Ev (fun n => x.bind fun y => f n y) r := by subst h; exact k
theorem evs {α : Type} {g f : Nat → Option α} {r : α} (h : ∀ k, g (k + 1) = f k) (k : Ev f r) : Ev g r := Ev.step h k
theorem rd_mid (pre post : List Int) (x : Int) : rd (pre ++ x :: post) (pre.length : Int) = x := by simp [rd]
theorem set_mid {α : Type} (pre post : List α) (x y : α) : (pre ++ x :: post).set pre.length y = pre ++ y :: post := by simp
theorem rd_nat (xs : List Int) (i : Nat) : rd xs (i : Int) = xs.getD i 0 := by simp [rd]
theorem rd_mem (xs : List Int) (i : Int) (h0 : 0 ≤ i) (h : i < xs.length) : rd xs i ∈ xs := by
  have hi : i.toNat < xs.length := by omega
  simp only [rd, List.getD_eq_getElem?_getD, List.getElem?_eq_getElem hi, Option.getD_some]
  exact List.getElem_mem hi
def ic (l : List Nat) : List Int := l.map (fun x : Nat => (x : Int))
theorem ic_cons (x : Nat) (l : List Nat) : ic (x :: l) = (x : Int) :: ic l := rfl
theorem ic_append (l m : List Nat) : ic (l ++ m) = ic l ++ ic m := by simp [ic]
theorem ic_length (l : List Nat) : (ic l).length = l.length := by simp [ic]
theorem ic_drop (l : List Nat) (k : Nat) : (ic l).drop k = ic (l.drop k) := by simp [ic, List.map_drop]
def lsd (b : Nat) : Nat → Nat → List Nat
  | 0, _ => []
  | f + 1, n => if n = 0 then [] else n % b :: lsd b f (n / b)
theorem lsd_zero (b f : Nat) : lsd b f 0 = [] := by cases f <;> simp [lsd]
theorem lsd_fuel {b : Nat} (hb : 2 ≤ b) (n : Nat) : ∀ f g : Nat, n ≤ f → n ≤ g → lsd b f n = lsd b g n := by
  induction n using Nat.strongRecOn with
  | _ n ih =>
    intro f g hf hg
    by_cases h : n = 0
    · subst h
      rw [lsd_zero, lsd_zero]
    · obtain ⟨f, rfl⟩ : ∃ x, f = x + 1 := ⟨f - 1, by omega⟩
      obtain ⟨g, rfl⟩ : ∃ x, g = x + 1 := ⟨g - 1, by omega⟩
      have hlt : n / b < n := Nat.div_lt_self (by omega) (by omega)
      simp only [lsd, if_neg h]
      rw [ih (n / b) hlt f g (by omega) (by omega)]
def low (b n : Nat) : List Nat := lsd b n n
theorem low_zero (b : Nat) : low b 0 = [] := rfl
theorem low_succ {b n : Nat} (hb : 2 ≤ b) (hn : 1 ≤ n) : low b n = n % b :: low b (n / b) := by
  obtain ⟨m, rfl⟩ : ∃ x, n = x + 1 := ⟨n - 1, by omega⟩
  have hlt : (m + 1) / b < m + 1 := Nat.div_lt_self (by omega) (by omega)
  show lsd b (m + 1) (m + 1) = _
  simp only [lsd]
  rw [if_neg (by omega)]
  show _ = _ :: lsd b _ _
  rw [lsd_fuel hb ((m + 1) / b) m ((m + 1) / b) (by omega) (Nat.le_refl _)]
def dgl (b n : Nat) : List Nat := if n = 0 then [0] else (low b n).reverse
theorem low_lt {b : Nat} (hb : 2 ≤ b) (n : Nat) : ∀ d ∈ low b n, d < b := by
  induction n using Nat.strongRecOn with
  | _ n ih =>
    by_cases h : n = 0
    · subst h
      simp [low_zero]
    · have hlt : n / b < n := Nat.div_lt_self (by omega) (by omega)
      rw [low_succ hb (by omega)]
      intro d hd
      rcases List.mem_cons.1 hd with rfl | hd
      · exact Nat.mod_lt _ (by omega)
      · exact ih _ hlt d hd
theorem dgl_lt {b : Nat} (hb : 2 ≤ b) (n : Nat) : ∀ d ∈ dgl b n, d < b := by
  unfold dgl
  by_cases h : n = 0
  · subst h
    rw [if_pos rfl]
    intro d hd
    rw [List.mem_singleton.1 hd]
    omega
  · rw [if_neg h]
    intro d hd
    exact low_lt hb n d (List.mem_reverse.1 hd)
theorem low_len {b : Nat} (hb : 2 ≤ b) (k : Nat) : ∀ n : Nat, n < 2 ^ k → (low b n).length ≤ k := by
  induction k with
  | zero =>
    intro n hn
    have : n = 0 := by rw [Nat.pow_zero] at hn; omega
    subst this
    simp [low_zero]
  | succ k ih =>
    intro n hn
    by_cases h : n = 0
    · subst h
      simp [low_zero]
    · rw [low_succ hb (by omega), List.length_cons]
      have h2 : n / b < 2 ^ k := by
        refine Nat.div_lt_of_lt_mul ?_
        rw [Nat.pow_succ] at hn
        have : 2 * 2 ^ k ≤ b * 2 ^ k := Nat.mul_le_mul_right _ hb
        omega
      have := ih _ h2
      omega
theorem dgl_len1 {b : Nat} (hb : 2 ≤ b) (n : Nat) (hn : n ≤ 1000000000001) : 1 ≤ (dgl b n).length ∧ (dgl b n).length ≤ 40 := by
  unfold dgl
  by_cases h : n = 0
  · subst h
    rw [if_pos rfl]
    simp
  · rw [if_neg h, List.length_reverse]
    refine ⟨?_, low_len hb 40 n (by omega)⟩
    rw [low_succ hb (by omega), List.length_cons]
    omega
theorem dgl_len {b : Nat} (hb : 2 ≤ b) (n : Nat) (hn : n ≤ 1000000000000) : 1 ≤ (dgl b n).length ∧ (dgl b n).length ≤ 40 := dgl_len1 hb n (by omega)
def lsum : List Nat → Nat
  | [] => 0
  | d :: l => d + lsum l
theorem ic_reverse (l : List Nat) : ic l.reverse = (ic l).reverse := by simp [ic]
theorem ic_rd (pre post : List Nat) (x : Nat) : rd (ic (pre ++ x :: post)) (pre.length : Int) = (x : Int) := by
  rw [ic_append, ic_cons, show ((pre.length : Nat) : Int) = (((ic pre).length : Nat) : Int) by simp [ic], rd_mid]

def Ev2 {α : Type} (g : Nat → Nat → Option α) (r : α) : Prop := ∃ K, ∀ i j, K ≤ i → K ≤ j → g i j = some r
theorem Ev2.diag {α : Type} {g : Nat → Nat → Option α} {r : α} (h : Ev2 g r) : Ev (fun k => g k k) r := by
  obtain ⟨K, h⟩ := h
  exact ⟨K, fun k hk => h k k hk hk⟩
theorem Ev2.step {α β : Type} {g : Nat → Nat → Option α} {a : Nat → Option β} {f : Nat → Nat → β → Option α} {y : β} {r : α} (h : ∀ i j, g i (j + 1) = (a i).bind fun z => f i j z) (ha : Ev a y) (hf : Ev2 (fun i j => f i j y) r) : Ev2 g r := by
  obtain ⟨K, ha⟩ := ha
  obtain ⟨L, hf⟩ := hf
  refine ⟨K + L + 1, fun i j hi hj => ?_⟩
  obtain ⟨j, rfl⟩ : ∃ m, j = m + 1 := ⟨j - 1, by omega⟩
  rw [h, ha i (by omega), Option.bind_some]
  exact hf i j (by omega) (by omega)
theorem Ev2.done {α : Type} {g : Nat → Nat → Option α} {r : α} (h : ∀ i j, g i (j + 1) = some r) : Ev2 g r := by
  refine ⟨1, fun i j hi hj => ?_⟩
  obtain ⟨j, rfl⟩ : ∃ m, j = m + 1 := ⟨j - 1, by omega⟩
  exact h i j
theorem Ev2.next {α : Type} {g f : Nat → Nat → Option α} {r : α} (h : ∀ i j, g i (j + 1) = f i j) (hf : Ev2 f r) : Ev2 g r := by
  obtain ⟨L, hf⟩ := hf
  refine ⟨L + 1, fun i j hi hj => ?_⟩
  obtain ⟨j, rfl⟩ : ∃ m, j = m + 1 := ⟨j - 1, by omega⟩
  rw [h]
  exact hf i j (by omega) (by omega)
theorem Ev2.congr_ {α : Type} {g f : Nat → Nat → Option α} {r s : α} (h : ∀ i j, g i j = f i j) (hf : Ev2 f r) (e : r = s := by first | rfl | simp) : Ev2 g s := by
  subst e
  obtain ⟨L, hf⟩ := hf
  exact ⟨L, fun i j hi hj => by rw [h]; exact hf i j hi hj⟩

def idxI (x : Int) : List Int → Nat → Int
  | [], _ => -1
  | y :: l, i => if x = y then (i : Int) else idxI x l (i + 1)
theorem idxI_ge (x : Int) (l : List Int) : ∀ i : Nat, (0 ≤ idxI x l i ↔ x ∈ l) ∧ -1 ≤ idxI x l i := by
  induction l with
  | nil => intro i; simp [idxI]
  | cons y l ih =>
    intro i
    by_cases h : x = y
    · simp [idxI, h]
      try omega
    · have := ih (i + 1)
      simp [idxI, h, this]

theorem impl_in_eq (a b c : Int) : impl_in.f a b c = some (decide (b ≤ a ∧ a ≤ c)) := by
  unfold impl_in.f
  by_cases h : b ≤ a <;> simp [h]
theorem spec_l1In_eq (a b c : Int) : spec_l1In.f a b c = some (decide (b ≤ a ∧ a ≤ c)) := by
  unfold spec_l1In.f
  by_cases h : b ≤ a <;> simp [h]

theorem impl_isBase_eq (b : Int) : impl_isBase.f b = some (decide (2 ≤ b ∧ b ≤ 16)) := by simp only [impl_isBase.f, impl_in_eq, Option.bind_some]
theorem spec_dgBase_eq (b : Int) : spec_dgBase.f b = some (decide (2 ≤ b ∧ b ≤ 16)) := by simp only [spec_dgBase.f, spec_l1In_eq, Option.bind_some]

theorem impl_isNumber_eq (n b : Int) : impl_isNumber.f n b = some (decide ((0 ≤ n ∧ n ≤ 1000000000000) ∧ 2 ≤ b ∧ b ≤ 16)) := by
  simp only [impl_isNumber.f, impl_in_eq, impl_isBase_eq, Option.bind_some, decide_eq_true_eq]
  by_cases h : 0 ≤ n ∧ n ≤ 1000000000000 <;> simp [h]
theorem spec_dgAsked_eq (n b : Int) : spec_dgAsked.f n b = some (decide ((0 ≤ n ∧ n ≤ 1000000000000) ∧ 2 ≤ b ∧ b ≤ 16)) := by
  simp only [spec_dgAsked.f, spec_dgNumber.f, spec_l1In_eq, spec_dgBase_eq, Option.bind_some, decide_eq_true_eq]
  by_cases h : 0 ≤ n ∧ n ≤ 1000000000000 <;> simp [h]

theorem pigeon (n : Nat) : ∀ f : Nat → Nat, (∀ i, i ≤ n → f i < n) → ∃ i j, i < j ∧ j ≤ n ∧ f i = f j := by
  induction n with
  | zero => intro f h; exact absurd (h 0 (Nat.le_refl _)) (by omega)
  | succ n ih =>
    intro f h
    by_cases hc : ∃ i, i ≤ n ∧ f i = f (n + 1)
    · obtain ⟨i, hi, he⟩ := hc
      exact ⟨i, n + 1, by omega, Nat.le_refl _, he⟩
    · have hv := h (n + 1) (Nat.le_refl _)
      have hne : ∀ i, i ≤ n → f i ≠ f (n + 1) := fun i hi he => hc ⟨i, hi, he⟩
      obtain ⟨i, j, hij, hj, he⟩ := ih (fun i => if f i = n then f (n + 1) else f i) (fun i hi => by
        have h1 := h i (by omega)
        have h2 := hne i hi
        show (if f i = n then f (n + 1) else f i) < n
        split <;> omega)
      refine ⟨i, j, hij, by omega, ?_⟩
      have h1 := hne i (by omega)
      have h2 := hne j hj
      (try simp only at he)
      split at he <;> split at he <;> omega
theorem least_of {P : Nat → Prop} (h : ∃ k, P k) : ∃ k, P k ∧ ∀ j, j < k → ¬ P j := by
  obtain ⟨k, hk⟩ := h
  induction k using Nat.strongRecOn with
  | _ k ih =>
    by_cases hc : ∃ j, j < k ∧ P j
    · obtain ⟨j, hj, hp⟩ := hc
      exact ih j hj hp
    · exact ⟨k, hk, fun j hj hp => hc ⟨j, hj, hp⟩⟩
theorem tmod_cast (a b : Nat) : Int.tmod (a : Int) (b : Int) = ((a % b : Nat) : Int) := (Int.ofNat_tmod a b).symm
theorem tdiv_cast (a b : Nat) : Int.tdiv (a : Int) (b : Int) = ((a / b : Nat) : Int) := (Int.ofNat_tdiv a b).symm
theorem natOf {a : Int} (h : 0 ≤ a) : ∃ n : Nat, a = (n : Int) := ⟨a.toNat, by omega⟩

theorem reverse_loop (n : Nat) : ∀ (mid pre post : List Int), mid.length ≤ n → pre.length = post.length → (pre ++ mid ++ post).length ≤ 1000000000000 →
    Ev (fun k => slices_Reverse_int_int.l0 k (pre ++ mid ++ post) (pre.length : Int) ((pre.length : Int) + (mid.length : Int) - 1)) (pre ++ mid.reverse ++ post) := by
  induction n with
  | zero =>
    intro mid pre post hm _ _
    obtain rfl : mid = [] := List.eq_nil_of_length_eq_zero (by omega)
    refine evs (fun k => by rw [slices_Reverse_int_int.l0]) ?_
    exact evn (by simp; omega) (evr (by simp))
  | succ n ih =>
    intro mid pre post hm hp hl
    cases mid with
    | nil =>
      refine evs (fun k => by rw [slices_Reverse_int_int.l0]) ?_
      exact evn (by simp; omega) (evr (by simp))
    | cons a t =>
      by_cases ht : t = []
      · subst ht
        refine evs (fun k => by rw [slices_Reverse_int_int.l0]) ?_
        exact evn (by simp) (evr (by simp))
      · obtain ⟨m, b, rfl⟩ : ∃ m b, t = m ++ [b] := ⟨t.dropLast, t.getLast ht, (List.dropLast_concat_getLast ht).symm⟩
        simp only [List.length_append, List.length_cons, List.length_nil] at hm hl
        have e0 : pre ++ (a :: (m ++ [b])) ++ post = pre ++ a :: (m ++ b :: post) := by simp
        have e1 : pre ++ (a :: (m ++ [b])) ++ post = (pre ++ a :: m) ++ b :: post := by simp
        have hj : ((pre.length : Int) + (((a :: (m ++ [b])).length : Nat) : Int) - 1) = (((pre ++ a :: m).length : Nat) : Int) := by simp; omega
        have r1 : rd (pre ++ (a :: (m ++ [b])) ++ post) (((pre ++ a :: m).length : Nat) : Int) = b := by rw [e1, rd_mid]
        have r0 : rd (pre ++ (a :: (m ++ [b])) ++ post) ((pre.length : Nat) : Int) = a := by rw [e0, rd_mid]
        have hset : ((pre ++ (a :: (m ++ [b])) ++ post).set (pre.length : Int).toNat b).set (((pre ++ a :: m).length : Nat) : Int).toNat a = (pre ++ [b]) ++ m ++ (a :: post) := by
          rw [e0, Int.toNat_natCast, Int.toNat_natCast, set_mid]
          have e2 : pre ++ b :: (m ++ b :: post) = (pre ++ b :: m) ++ b :: post := by simp
          have e3 : (pre ++ a :: m).length = (pre ++ b :: m).length := by simp
          rw [e2, e3, set_mid]
          simp
        have h := ih m (pre ++ [b]) (a :: post) (by omega) (by simp; omega) (by simp; omega)
        have hj2 : (((pre ++ a :: m).length : Nat) : Int) = (pre.length : Int) + (m.length : Int) + 1 := by simp; omega
        have hlen : (((pre ++ (a :: (m ++ [b])) ++ post).length : Nat) : Int) = (pre.length : Int) + (m.length : Int) + 2 + (post.length : Int) := by simp; omega
        refine evs (fun k => by rw [slices_Reverse_int_int.l0]) ?_
        rw [hj, r1, r0, hset, hlen, hj2, w64 (x := (pre.length : Int) + 1) (by omega) (by omega), w64 (x := (pre.length : Int) + (m.length : Int) + 1 - 1) (by omega) (by omega)]
        refine evp (by omega) (evp (by omega) (evp (by omega) (evp (by omega) (evp (by omega) ?_))))
        have e4 : (((pre ++ [b]).length : Nat) : Int) = (pre.length : Int) + 1 := by simp
        rw [e4, show (pre.length : Int) + 1 + (m.length : Int) - 1 = (pre.length : Int) + (m.length : Int) + 1 - 1 by omega] at h
        have e5 : (pre ++ [b]) ++ m.reverse ++ (a :: post) = pre ++ (a :: (m ++ [b])).reverse ++ post := by simp
        rw [e5] at h
        exact h
theorem reverse_ev (l : List Int) (h : l.length ≤ 1000000000000) : Ev (fun k => slices_Reverse_int_int.f k l) l.reverse := by
  unfold slices_Reverse_int_int.f
  rw [w64 (by omega) (by omega)]
  have := reverse_loop l.length l [] [] (Nat.le_refl _) rfl (by simpa using h)
  simpa using this

theorem impl_digitsOf_loop (b : Nat) (hb : 2 ≤ b) (n : Nat) : ∀ acc : List Nat, acc.length + (low b n).length ≤ 1000000 → n ≤ 1000000000001 → Ev (fun k => impl_digitsOf.l0 k (n : Int) (b : Int) (ic acc)) (ic (acc ++ low b n).reverse) := by
  induction n using Nat.strongRecOn with
  | _ n ih =>
    intro acc hl hn
    refine evs (fun k => by rw [impl_digitsOf.l0]) ?_
    by_cases h : n = 0
    · subst h
      refine evn (by omega) (evb (reverse_ev (ic acc) (by rw [ic_length]; omega)) (evr ?_))
      rw [low_zero, List.append_nil, ic_reverse]
    · have hlt : n / b < n := Nat.div_lt_self (by omega) (by omega)
      rw [low_succ hb (by omega), List.length_cons] at hl
      have h2 := ih (n / b) hlt (acc ++ [n % b]) (by simp only [List.length_append, List.length_cons, List.length_nil]; omega) (by omega)
      rw [tmod_cast, tdiv_cast, w64n (n / b) (by omega), low_succ hb (by omega)]
      refine evp (by omega) (evn (by omega) (evp (by rw [ic_length]; omega) ?_))
      rw [ic_append, List.append_assoc] at h2
      simpa [ic] using h2
theorem impl_digitsOf_ev1 (b n : Nat) (hb : 2 ≤ b) (hn : n ≤ 1000000000001) : Ev (fun k => impl_digitsOf.f k (n : Int) (b : Int)) (ic (dgl b n)) := by
  unfold impl_digitsOf.f
  have hdv : n / b ≤ n := Nat.div_le_self _ _
  have hl := low_len hb 40 (n / b) (by omega)
  have h2 := impl_digitsOf_loop b hb (n / b) [n % b] (by simp only [List.length_cons, List.length_nil]; omega) (by omega)
  rw [tmod_cast, tdiv_cast, w64n (n / b) (by omega)]
  refine evn (by omega) ?_
  unfold dgl
  by_cases h : n = 0
  · subst h
    rw [if_pos rfl]
    rw [Nat.zero_div, low_zero] at h2 
    simpa [ic, Nat.zero_mod] using h2
  · rw [if_neg h, low_succ hb (by omega)]
    simpa [ic] using h2
theorem impl_digitsOf_ev (b n : Nat) (hb : 2 ≤ b) (hn : n ≤ 1000000000000) : Ev (fun k => impl_digitsOf.f k (n : Int) (b : Int)) (ic (dgl b n)) := impl_digitsOf_ev1 b n hb (by omega)

def its (f : Nat → Nat) : Nat → Nat → Nat
  | 0, n => n
  | i + 1, n => its f i (f n)
theorem its_succ (f : Nat → Nat) (i n : Nat) : its f (i + 1) n = f (its f i n) := by
  induction i generalizing n with
  | zero => rfl
  | succ i ih => exact ih (f n)
theorem its_add (f : Nat → Nat) (i j n : Nat) : its f (i + j) n = its f i (its f j n) := by
  induction i with
  | zero => rw [Nat.zero_add]; rfl
  | succ i ih => rw [Nat.add_right_comm, its_succ, its_succ, ih]
def runto (f : Nat → Nat) (n : Nat) : Nat → List Nat
  | 0 => []
  | k + 1 => runto f n k ++ [its f k n]
theorem runto_len (f : Nat → Nat) (n k : Nat) : (runto f n k).length = k := by
  induction k with
  | zero => rfl
  | succ k ih => simp [runto, ih]
theorem runto_mem (f : Nat → Nat) (n k x : Nat) : x ∈ runto f n k ↔ ∃ i, i < k ∧ its f i n = x := by
  induction k with
  | zero => simp [runto]
  | succ k ih =>
    simp only [runto, List.mem_append, List.mem_singleton, ih]
    constructor
    · rintro (⟨i, h, rfl⟩ | rfl)
      · exact ⟨i, by omega, rfl⟩
      · exact ⟨k, by omega, rfl⟩
    · rintro ⟨i, h, rfl⟩
      by_cases e : i = k
      · subst e; exact .inr rfl
      · exact .inl ⟨i, by omega, rfl⟩
theorem runto_get (f : Nat → Nat) (n k i : Nat) (h : i < k) : (runto f n k)[i]? = some (its f i n) := by
  induction k with
  | zero => omega
  | succ k ih =>
    simp only [runto]
    by_cases e : i = k
    · subst e
      rw [List.getElem?_append_right (by rw [runto_len]; omega), runto_len, Nat.sub_self]
      rfl
    · rw [List.getElem?_append_left (by rw [runto_len]; omega), ih (by omega)]
structure Comes (f : Nat → Nat) (n len t : Nat) : Prop where
  lt : t < len
  back : its f len n = its f t n
  new : ∀ i j, i < j → j < len → its f i n ≠ its f j n
theorem comes_of {f : Nat → Nat} {n B : Nat} (hB : ∀ i, its f i n < B) : ∃ len t, len ≤ B ∧ Comes f n len t := by
  obtain ⟨i, j, hij, hj, e⟩ := pigeon B (fun i => its f i n) (fun i _ => hB i)
  have hex : ∃ k, ∃ i, i < k ∧ its f i n = its f k n := ⟨j, i, hij, e⟩
  obtain ⟨k, ⟨t, ht, he⟩, hmin⟩ := least_of hex
  have hkj : k ≤ j := by
    rcases Nat.lt_or_ge j k with h | h
    · exact absurd ⟨i, hij, e⟩ (hmin j h)
    · exact h
  exact ⟨k, t, by omega, ht, he.symm, fun a b hab hb h => hmin b hb ⟨a, hab, h⟩⟩
theorem Comes.mem {f : Nat → Nat} {n len t : Nat} (h : Comes f n len t) : ∀ i, its f i n ∈ runto f n len := by
  intro i
  induction i with
  | zero => exact (runto_mem f n len _).2 ⟨0, by have := h.lt; omega, rfl⟩
  | succ i ih =>
    obtain ⟨j, hj, e⟩ := (runto_mem f n len _).1 ih
    rw [its_succ, ← e, ← its_succ f j n]
    by_cases h2 : j + 1 < len
    · exact (runto_mem f n len _).2 ⟨j + 1, h2, rfl⟩
    · have : j + 1 = len := by omega
      rw [this, h.back]
      exact (runto_mem f n len _).2 ⟨t, h.lt, rfl⟩
theorem Comes.not_mem {f : Nat → Nat} {n len t : Nat} (h : Comes f n len t) (k : Nat) (hk : k < len) : its f k n ∉ runto f n k := by
  intro hm
  obtain ⟨i, hi, e⟩ := (runto_mem f n k _).1 hm
  exact h.new i k hi hk e
theorem idxOf_runto {f : Nat → Nat} {n len t : Nat} (h : Comes f n len t) : (runto f n len).idxOf (its f len n) = t := by
  have hlt := h.lt
  have hl := runto_len f n len
  have hm : its f len n ∈ runto f n len := h.mem len
  have hi : (runto f n len).idxOf (its f len n) < (runto f n len).length := List.idxOf_lt_length_iff.2 hm
  have hg : (runto f n len)[(runto f n len).idxOf (its f len n)]'hi = its f len n := List.getElem_idxOf hi
  generalize hq : (runto f n len).idxOf (its f len n) = q at *
  have hg2 := runto_get f n len q (by omega)
  rw [List.getElem?_eq_getElem hi, hg, h.back] at hg2
  injection hg2 with hg2
  rcases Nat.lt_trichotomy q t with h1 | h1 | h1
  · exact absurd hg2.symm (h.new q t h1 hlt)
  · exact h1
  · exact absurd hg2 (h.new t q h1 (by omega))
def lpow (p : Nat) : List Nat → Nat
  | [] => 0
  | d :: l => d ^ p + lpow p l
def psum (b p n : Nat) : Nat := lpow p (low b n)
theorem psum_zero (b p : Nat) : psum b p 0 = 0 := rfl
theorem psum_pos {b : Nat} (hb : 2 ≤ b) (p n : Nat) (hn : 1 ≤ n) : psum b p n = (n % b) ^ p + psum b p (n / b) := by
  unfold psum
  rw [low_succ hb hn]
  rfl
theorem psum_step {b : Nat} (hb : 2 ≤ b) (p : Nat) (hp : 1 ≤ p) (v d : Nat) (hd : d < b) : psum b p (v * b + d) = psum b p v + d ^ p := by
  by_cases h : v * b + d = 0
  · have hd0 : d = 0 := by omega
    have hv : v = 0 := by
      rcases Nat.mul_eq_zero.1 (show v * b = 0 by omega) with h | h <;> omega
    subst hd0 hv
    rw [Nat.zero_mul, Nat.zero_add, psum_zero, Nat.zero_pow (by omega)]
  · rw [psum_pos hb p _ (by omega)]
    have e1 : (v * b + d) % b = d := by rw [Nat.mul_comm, Nat.mul_add_mod, Nat.mod_eq_of_lt hd]
    have e2 : (v * b + d) / b = v := by rw [Nat.mul_comm, Nat.mul_add_div (by omega), Nat.div_eq_of_lt hd]; omega
    rw [e1, e2, Nat.add_comm]
theorem lpow_le (p c : Nat) (l : List Nat) (h : ∀ d ∈ l, d ≤ c) : lpow p l ≤ l.length * c ^ p := by
  induction l with
  | nil => simp [lpow]
  | cons d l ih =>
    have h1 := ih (fun x hx => h x (by simp [hx]))
    have h2 : d ^ p ≤ c ^ p := Nat.pow_le_pow_left (h d (by simp)) p
    simp only [lpow, List.length_cons, Nat.succ_mul]
    omega
theorem lpow_append (p : Nat) (l m : List Nat) : lpow p (l ++ m) = lpow p l + lpow p m := by
  induction l with
  | nil => simp [lpow]
  | cons d l ih => simp only [List.cons_append, lpow, ih]; omega
theorem lpow_reverse (p : Nat) (l : List Nat) : lpow p l.reverse = lpow p l := by
  induction l with
  | nil => rfl
  | cons d l ih => rw [List.reverse_cons, lpow_append, ih]; simp only [lpow]; omega
theorem psum_dgl {b : Nat} (p n : Nat) (hp : 1 ≤ p) : lpow p (dgl b n) = psum b p n := by
  unfold dgl psum
  by_cases h : n = 0
  · subst h
    rw [if_pos rfl, low_zero]
    simp [lpow, Nat.zero_pow (show 0 < p by omega)]
  · rw [if_neg h, lpow_reverse]
theorem psum_le {b : Nat} (hb : 2 ≤ b) (hb2 : b ≤ 16) (p n : Nat) (hn : n ≤ 1000000000001) : psum b p n ≤ 40 * (b - 1) ^ p := by
  have h1 := lpow_le p (b - 1) (low b n) (fun d hd => by have := low_lt hb n d hd; omega)
  have h2 := low_len hb 40 n (by omega)
  exact Nat.le_trans h1 (Nat.mul_le_mul_right _ h2)
theorem psum_ge {b : Nat} (hb : 2 ≤ b) (p n : Nat) (hn : 1 ≤ n) : 1 ≤ psum b p n := by
  induction n using Nat.strongRecOn with
  | _ n ih =>
    rw [psum_pos hb p n hn]
    by_cases h : n % b = 0
    · have hlt : n / b < n := Nat.div_lt_self (by omega) (by omega)
      have h1 : 1 ≤ n / b := by
        have := Nat.div_add_mod n b
        rcases Nat.eq_zero_or_pos (n / b) with h0 | h0
        · rw [h0] at this; omega
        · exact h0
      have := ih _ hlt h1
      omega
    · have : 1 ≤ (n % b) ^ p := Nat.pow_pos (by omega)
      omega
theorem psum_one {b : Nat} (hb : 2 ≤ b) (p : Nat) : psum b p 1 = 1 := by
  rw [psum_pos hb p 1 (by omega), Nat.mod_eq_of_lt (by omega), Nat.div_eq_of_lt (by omega), psum_zero, Nat.one_pow]
theorem pow15 (b p : Nat) (hb : b ≤ 16) (hp : p ≤ 8) : (b - 1) ^ p ≤ 2562890625 := by
  have h1 : (b - 1) ^ p ≤ 15 ^ p := Nat.pow_le_pow_left (by omega) p
  have h2 : 15 ^ p ≤ 15 ^ 8 := Nat.pow_le_pow_right (by omega) hp
  have h3 : 15 ^ 8 = 2562890625 := by decide
  omega
theorem pow15_4 (b p : Nat) (hb : b ≤ 16) (hp : p ≤ 4) : (b - 1) ^ p ≤ 50625 := by
  have h1 : (b - 1) ^ p ≤ 15 ^ p := Nat.pow_le_pow_left (by omega) p
  have h2 : 15 ^ p ≤ 15 ^ 4 := Nat.pow_le_pow_right (by omega) hp
  have h3 : 15 ^ 4 = 50625 := by decide
  omega
theorem psum_bound {b p : Nat} (hb : 2 ≤ b) (hb2 : b ≤ 16) (hp : p ≤ 4) (n : Nat) (hn : n ≤ 1000000000001) : psum b p n ≤ 2025000 := by
  have h1 := psum_le hb hb2 p n hn
  have h2 := pow15_4 b p hb2 hp
  have h3 : 40 * (b - 1) ^ p ≤ 40 * 50625 := Nat.mul_le_mul_left _ h2
  omega
theorem its_psum {b p : Nat} (hb : 2 ≤ b) (hb2 : b ≤ 16) (hp : p ≤ 4) (n : Nat) (hn : n ≤ 1000000000001) : ∀ i, its (psum b p) (i + 1) n ≤ 2025000 := by
  intro i
  induction i with
  | zero => exact psum_bound hb hb2 hp n hn
  | succ i ih =>
    rw [its_succ]
    exact psum_bound hb hb2 hp _ (by omega)
theorem its_psum' {b p : Nat} (hb : 2 ≤ b) (hb2 : b ≤ 16) (hp : p ≤ 4) (n : Nat) (hn : n ≤ 1000000000000) (i : Nat) : its (psum b p) i n ≤ 1000000000000 := by
  cases i with
  | zero => exact hn
  | succ i => have := its_psum hb hb2 hp n (by omega) i; omega
theorem prun_comes {b p : Nat} (hb : 2 ≤ b) (hb2 : b ≤ 16) (hp : p ≤ 4) (n : Nat) (hn : n ≤ 1000000000000) : ∃ len t, len ≤ 2025002 ∧ Comes (psum b p) n len t := by
  have hB : ∀ i, its (psum b p) i (psum b p n) < 2025001 := fun i => by
    have := its_psum hb hb2 hp n (by omega) i
    have e : its (psum b p) (i + 1) n = its (psum b p) i (psum b p n) := rfl
    omega
  obtain ⟨len, t, h1, h2⟩ := comes_of hB
  have hlt := h2.lt
  have hex : ∃ k, ∃ i, i < k ∧ its (psum b p) i n = its (psum b p) k n := ⟨len + 1, t + 1, by omega, by
    show its (psum b p) t (psum b p n) = its (psum b p) len (psum b p n)
    exact h2.back.symm⟩
  obtain ⟨k, ⟨i, hi, he⟩, hmin⟩ := least_of hex
  have hk : k ≤ len + 1 := by
    rcases Nat.lt_or_ge (len + 1) k with h | h
    · exact absurd ⟨t + 1, by omega, by
        show its (psum b p) t (psum b p n) = its (psum b p) len (psum b p n)
        exact h2.back.symm⟩ (hmin _ h)
    · exact h
  exact ⟨k, i, by omega, hi, he.symm, fun x y hxy hy h => hmin y hy ⟨x, hxy, h⟩⟩
theorem its_pos {b p : Nat} (hb : 2 ≤ b) (n : Nat) (hn : 1 ≤ n) (i : Nat) : 1 ≤ its (psum b p) i n := by
  induction i with
  | zero => exact hn
  | succ i ih => rw [its_succ]; exact psum_ge hb p _ ih
theorem its_zero (b p i : Nat) : its (psum b p) i 0 = 0 := by
  induction i with
  | zero => rfl
  | succ i ih => rw [its_succ, ih, psum_zero]
theorem its_one {b p : Nat} (hb : 2 ≤ b) (i : Nat) : its (psum b p) i 1 = 1 := by
  induction i with
  | zero => rfl
  | succ i ih => rw [its_succ, ih, psum_one hb]
theorem one_last {b p n len t : Nat} (hb : 2 ≤ b) (h : Comes (psum b p) n len t) : (1 ∈ runto (psum b p) n len) ↔ its (psum b p) t n = 1 := by
  have hlt := h.lt
  constructor
  · intro hm
    obtain ⟨i, hi, e⟩ := (runto_mem _ _ _ _).1 hm
    have hall : ∀ j, its (psum b p) (i + j) n = 1 := fun j => by rw [Nat.add_comm, its_add, e, its_one hb]
    by_cases hit : i ≤ t
    · have := hall (t - i)
      rwa [show i + (t - i) = t by omega] at this
    · have h1 := hall (len - i)
      rw [show i + (len - i) = len by omega, h.back] at h1
      exact h1
  · intro e
    exact (runto_mem _ _ _ _).2 ⟨t, hlt, e⟩
def sumTo (g : Nat → Nat) : Nat → Nat
  | 0 => 0
  | m + 1 => sumTo g m + g m
theorem sumTo_congr {g h : Nat → Nat} (m : Nat) (e : ∀ i, i < m → g i = h i) : sumTo g m = sumTo h m := by
  induction m with
  | zero => rfl
  | succ m ih => simp only [sumTo]; rw [ih (fun i hi => e i (by omega)), e m (by omega)]
theorem sumTo_add (g : Nat → Nat) (m k : Nat) : sumTo g (m + k) = sumTo g m + sumTo (fun i => g (m + i)) k := by
  induction k with
  | zero => rfl
  | succ k ih => rw [← Nat.add_assoc]; simp only [sumTo]; rw [ih, Nat.add_assoc]
theorem sumTo_const (c m : Nat) : sumTo (fun _ => c) m = m * c := by
  induction m with
  | zero => simp [sumTo]
  | succ m ih => simp only [sumTo]; rw [ih, Nat.succ_mul]
theorem sumTo_blocks (g : Nat → Nat) (b m : Nat) : sumTo g (m * b) = sumTo (fun v => sumTo (fun d => g (v * b + d)) b) m := by
  induction m with
  | zero => simp [sumTo]
  | succ m ih => rw [Nat.succ_mul, sumTo_add, ih]; rfl
def wsum (F : Nat → Nat) : List Nat → Nat → Nat
  | [], _ => 0
  | x :: l, i => x * F i + wsum F l (i + 1)
theorem wsum_set (F : Nat → Nat) (l : List Nat) (m : Nat) : ∀ (o i : Nat), i < l.length → wsum F (l.set i (l.getD i 0 + m)) o = wsum F l o + m * F (o + i) := by
  induction l with
  | nil => intro o i h; simp at h
  | cons x l ih =>
    intro o i h
    cases i with
    | zero => simp only [List.set_cons_zero, wsum, List.getD_cons_zero, Nat.add_zero, Nat.add_mul]; omega
    | succ i =>
      have h2 := ih (o + 1) i (by simpa using h)
      simp only [List.set_cons_succ, wsum, List.getD_cons_succ]
      rw [h2, show o + 1 + i = o + (i + 1) by omega]
      omega
theorem wsum_zeros (F : Nat → Nat) (n : Nat) : ∀ o, wsum F (List.replicate n 0) o = 0 := by
  induction n with
  | zero => intro o; rfl
  | succ n ih => intro o; rw [List.replicate_succ]; simp only [wsum]; rw [ih]; omega
theorem wsum_append (F : Nat → Nat) (l m : List Nat) : ∀ o, wsum F (l ++ m) o = wsum F l o + wsum F m (o + l.length) := by
  induction l with
  | nil => intro o; simp [wsum]
  | cons x l ih => intro o; simp only [List.cons_append, wsum, List.length_cons]; rw [ih, show o + 1 + l.length = o + (l.length + 1) by omega]; omega
theorem wsum_take_le (F : Nat → Nat) (l : List Nat) (j o : Nat) : wsum F (l.take j) o ≤ wsum F l o := by
  have h := wsum_append F (l.take j) (l.drop j) o
  rw [List.take_append_drop] at h
  omega
theorem wsum_ge (l : List Nat) : ∀ (o i : Nat), l.getD i 0 ≤ wsum (fun _ => 1) l o := by
  induction l with
  | nil => intro o i; simp [wsum]
  | cons x l ih =>
    intro o i
    cases i with
    | zero => simp only [List.getD_cons_zero, wsum]; omega
    | succ i => have := ih (o + 1) i; simp only [List.getD_cons_succ, wsum]; omega
theorem wsum_delta (l : List Nat) (u : Nat) : ∀ o, wsum (fun i => if i = u then 1 else 0) l o = if o ≤ u then l.getD (u - o) 0 else 0 := by
  induction l with
  | nil => intro o; simp [wsum]
  | cons x l ih =>
    intro o
    simp only [wsum]
    rw [ih]
    by_cases h : o = u
    · subst h
      rw [if_pos rfl, if_neg (by omega), if_pos (Nat.le_refl _), Nat.sub_self]
      simp
    · rw [if_neg h]
      by_cases h2 : o + 1 ≤ u
      · rw [if_pos h2, if_pos (by omega), show u - o = (u - (o + 1)) + 1 by omega, List.getD_cons_succ]
        omega
      · rw [if_neg h2, if_neg (by omega)]
        omega
theorem wsum_ext (l m : List Nat) (hl : l.length = m.length) (h : ∀ F, wsum F l 0 = wsum F m 0) : l = m := by
  apply List.ext_getElem hl
  intro i h1 h2
  have h3 := h (fun j => if j = i then 1 else 0)
  rw [wsum_delta, wsum_delta, if_pos (Nat.zero_le _), if_pos (Nat.zero_le _), Nat.sub_zero] at h3
  simpa [List.getD_eq_getElem?_getD, h1, h2] using h3
def Spread (b k : Nat) (l : List Nat) : Prop := ∀ F : Nat → Nat, wsum F l 0 = sumTo (fun n => F (psum b 2 n)) (b ^ k)
theorem Spread.zero (b n : Nat) : Spread b 0 (1 :: List.replicate n 0) := by
  intro F
  simp only [wsum]
  rw [wsum_zeros]
  simp [sumTo, psum_zero]
theorem Spread.next {b k : Nat} (hb : 2 ≤ b) {l m : List Nat} (h : Spread b k l) (e : ∀ F : Nat → Nat, wsum F m 0 = wsum (fun s => sumTo (fun d => F (s + d * d)) b) l 0) : Spread b (k + 1) m := by
  intro F
  rw [e, h, Nat.pow_succ, sumTo_blocks]
  refine sumTo_congr _ (fun v _ => sumTo_congr _ (fun d hd => ?_))
  rw [psum_step hb 2 (by omega) v d hd, Nat.pow_two]
theorem Spread.all {b k : Nat} {l : List Nat} (h : Spread b k l) : wsum (fun _ => 1) l 0 = b ^ k := by
  rw [h, sumTo_const, Nat.mul_one]

theorem pow_le_256 (d p : Nat) (hd : d ≤ 15) (hp : p ≤ 8) : d ^ p ≤ 2562890625 := by
  have h1 : d ^ p ≤ 15 ^ p := Nat.pow_le_pow_left hd p
  have h2 : 15 ^ p ≤ 15 ^ 8 := Nat.pow_le_pow_right (by omega) hp
  have h3 : 15 ^ 8 = 2562890625 := by decide
  omega
theorem impl_pow_loop (d p : Nat) (hd : d ≤ 15) (hp : p ≤ 8) (e : Nat) : ∀ i : Nat, i + e = p → Ev (fun k => impl_toPower.l0 k (d : Int) ((d ^ i : Nat) : Int) (p : Int) (i : Int)) ((d ^ p : Nat) : Int) := by
  induction e with
  | zero =>
    intro i h
    have : i = p := by omega
    subst this
    refine evs (fun k => by rw [impl_toPower.l0]) ?_
    exact evn (by omega) (Ev.now _)
  | succ e ih =>
    intro i h
    have h1 := pow_le_256 d (i + 1) hd (by omega)
    have h2 := ih (i + 1) (by omega)
    rw [show ((i + 1 : Nat) : Int) = (i : Int) + 1 by omega] at h2
    refine evs (fun k => by rw [impl_toPower.l0]) ?_
    rw [w64 (x := (i : Int) + 1) (by omega) (by omega), show ((d ^ i : Nat) : Int) * (d : Int) = ((d ^ (i + 1) : Nat) : Int) by rw [Nat.pow_succ, Int.natCast_mul], w64n _ (by omega)]
    exact evp (by omega) h2
theorem impl_toPower_ev (d p : Nat) (hd : d ≤ 15) (hp : p ≤ 8) : Ev (fun k => impl_toPower.f k (d : Int) (p : Int)) ((d ^ p : Nat) : Int) := by
  unfold impl_toPower.f
  have := impl_pow_loop d p hd hp p 0 (by omega)
  simpa using this
theorem spec_pow_loop (d p : Nat) (hd : d ≤ 15) (hp : p ≤ 8) (e : Nat) : ∀ i : Nat, i + e = p → Ev (fun k => spec_pwOf.l0 k (d : Int) (e : Int) ((d ^ i : Nat) : Int)) ((d ^ p : Nat) : Int) := by
  induction e with
  | zero =>
    intro i h
    have : i = p := by omega
    subst this
    refine evs (fun k => by rw [spec_pwOf.l0]) ?_
    exact evn (by omega) (Ev.now _)
  | succ e ih =>
    intro i h
    have h1 := pow_le_256 d (i + 1) hd (by omega)
    have h2 := ih (i + 1) (by omega)
    refine evs (fun k => by rw [spec_pwOf.l0]) ?_
    rw [w64 (x := ((e + 1 : Nat) : Int) - 1) (by omega) (by omega), show ((e + 1 : Nat) : Int) - 1 = (e : Int) by omega, show ((d ^ i : Nat) : Int) * (d : Int) = ((d ^ (i + 1) : Nat) : Int) by rw [Nat.pow_succ, Int.natCast_mul], w64n _ (by omega)]
    exact evp (by omega) h2
theorem spec_pwOf_ev (d p : Nat) (hd : d ≤ 15) (hp : p ≤ 8) : Ev (fun k => spec_pwOf.f k (d : Int) (p : Int)) ((d ^ p : Nat) : Int) := by
  unfold spec_pwOf.f
  have := spec_pow_loop d p hd hp p 0 (by omega)
  simpa using this
theorem lpow_bound (p : Nat) (hp : p ≤ 8) (l : List Nat) (h : ∀ d ∈ l, d ≤ 15) : lpow p l ≤ l.length * 2562890625 := by
  have h1 := lpow_le p 15 l h
  have h2 : l.length * 15 ^ p ≤ l.length * 2562890625 := Nat.mul_le_mul_left _ (pow_le_256 15 p (Nat.le_refl _) hp)
  omega
theorem impl_ps_loop (p : Nat) (hp : p ≤ 8) (post : List Nat) : ∀ (pre : List Nat), (∀ d ∈ pre ++ post, d ≤ 15) → (pre ++ post).length ≤ 100 →
    Ev (fun k => impl_powerSum.l0 k (p : Int) ((lpow p pre : Nat) : Int) (ic (pre ++ post)) ((pre ++ post).length : Int) (pre.length : Int)) ((lpow p (pre ++ post) : Nat) : Int) := by
  induction post with
  | nil =>
    intro pre _ _
    refine evs (fun k => by rw [impl_powerSum.l0]) ?_
    exact evn (by simp) (evr (by simp))
  | cons d post ih =>
    intro pre hd hl
    have hl2 : (pre ++ d :: post).length = pre.length + (post.length + 1) := by simp
    have h2 := ih (pre ++ [d]) (by simpa using hd) (by simpa using hl)
    have hb := lpow_bound p hp (pre ++ [d]) (fun x hx => hd x (by simp at hx ⊢; rcases hx with hx | hx <;> simp [hx]))
    have e1 : lpow p (pre ++ [d]) = lpow p pre + d ^ p := by rw [lpow_append]; simp [lpow]
    have e2 : (pre ++ [d]).length = pre.length + 1 := by simp
    rw [e1, e2] at hb
    rw [List.append_assoc, List.singleton_append, e1, e2, hl2] at h2
    refine evs (fun k => by rw [impl_powerSum.l0]) ?_
    rw [ic_rd, ic_length, hl2]
    refine evp (by omega) (evp (by omega) (evp (by omega) (evb (impl_toPower_ev d p (hd d (by simp)) hp) ?_)))
    rw [show ((lpow p pre : Nat) : Int) + ((d ^ p : Nat) : Int) = ((lpow p pre + d ^ p : Nat) : Int) by omega, w64n _ (by omega), w64 (x := (pre.length : Int) + 1) (by omega) (by omega), show (pre.length : Int) + 1 = ((pre.length + 1 : Nat) : Int) by omega]
    exact h2
theorem impl_powerSum_ev (b p n : Nat) (hb : 2 ≤ b) (hb2 : b ≤ 16) (hp : p ≤ 8) (hp1 : 1 ≤ p) (hn : n ≤ 1000000000000) : Ev (fun k => impl_powerSum.f k (n : Int) (b : Int) (p : Int)) ((psum b p n : Nat) : Int) := by
  unfold impl_powerSum.f
  have hl := dgl_len hb n hn
  refine evb (impl_digitsOf_ev b n hb hn) ?_
  have := impl_ps_loop p hp (dgl b n) [] (fun d hd => by have := dgl_lt hb n d (by simpa using hd); omega) (by simp; omega)
  rw [ic_length, ← psum_dgl p n hp1]
  simpa [lpow] using this
theorem spec_ps_loop (b p : Nat) (hb : 2 ≤ b) (hb2 : b ≤ 16) (hp : p ≤ 8) (n : Nat) : ∀ a : Nat, n ≤ 1000000000000 → a + (low b n).length * 2562890625 ≤ 1000000000000 → Ev (fun k => spec_pwSum.l0 k (n : Int) (b : Int) (p : Int) (a : Int)) ((a + psum b p n : Nat) : Int) := by
  induction n using Nat.strongRecOn with
  | _ n ih =>
    intro a hn ha
    refine evs (fun k => by rw [spec_pwSum.l0]) ?_
    by_cases h : n = 0
    · subst h
      exact evn (by omega) (evr (by rw [psum_zero, Nat.add_zero]))
    · have hlt : n / b < n := Nat.div_lt_self (by omega) (by omega)
      have hm := Nat.mod_lt n (show 0 < b by omega)
      have hpw := pow_le_256 (n % b) p (by omega) hp
      rw [low_succ hb (by omega), List.length_cons, Nat.succ_mul] at ha
      have h2 := ih (n / b) hlt (a + (n % b) ^ p) (by omega) (by omega)
      rw [Nat.add_assoc, ← psum_pos hb p n (by omega)] at h2
      rw [tmod_cast, tdiv_cast, w64n (n / b) (by omega)]
      refine evp (by omega) (evn (by omega) (evb (spec_pwOf_ev _ p (by omega) hp) ?_))
      rw [show (a : Int) + (((n % b) ^ p : Nat) : Int) = ((a + (n % b) ^ p : Nat) : Int) by omega, w64n _ (by omega)]
      exact h2
theorem spec_pwSum_ev (b p n : Nat) (hb : 2 ≤ b) (hb2 : b ≤ 16) (hp : p ≤ 8) (hn : n ≤ 1000000000000) : Ev (fun k => spec_pwSum.f k (n : Int) (b : Int) (p : Int)) ((psum b p n : Nat) : Int) := by
  unfold spec_pwSum.f
  have hl := low_len hb 40 n (by omega)
  have h := spec_ps_loop b p hb hb2 hp n 0 hn (by omega)
  simpa using h

theorem ic_mem (l : List Nat) (x : Nat) : (x : Int) ∈ ic l ↔ x ∈ l := by
  unfold ic
  constructor
  · intro h
    obtain ⟨y, hy, e⟩ := List.mem_map.1 h
    have : y = x := by omega
    subst this
    exact hy
  · intro h
    exact List.mem_map.2 ⟨x, h, rfl⟩
theorem ic_idxOf (l : List Nat) (x : Nat) : (ic l).idxOf (x : Int) = l.idxOf x := by
  induction l with
  | nil => rfl
  | cons y l ih =>
    rw [ic_cons, List.idxOf_cons, List.idxOf_cons, ih]
    have e : ((y : Int) == (x : Int)) = (y == x) := by
      by_cases h : y = x
      · subst h; rw [beq_self_eq_true, beq_self_eq_true]
      · rw [beq_eq_false_iff_ne.2 h, beq_eq_false_iff_ne.2 (by omega)]
    rw [e]
theorem ic_runto (f : Nat → Nat) (n q : Nat) : ic (runto f n q) ++ [((its f q n : Nat) : Int)] = ic (runto f n (q + 1)) := by
  simp only [runto, ic_append]
  rfl
theorem impl_run_ev2 {s : Nat → Int → Option Int} {f : Nat → Nat} {n len t : Nat} (h : Comes f n len t) (hlen : len ≤ 1000000000) (hs : ∀ q, q < len → Ev (fun i => s i ((its f q n : Nat) : Int)) ((its f (q + 1) n : Nat) : Int)) (e : Nat) : ∀ q : Nat, q + e = len →
    Ev2 (fun i j => impl_powerRun.run (s i) j (ic (runto f n q)) ((its f q n : Nat) : Int)) (ic (runto f n len), (t : Int)) := by
  induction e with
  | zero =>
    intro q hq
    have : q = len := by omega
    subst this
    have hm : ((its f q n : Nat) : Int) ∈ ic (runto f n q) := (ic_mem _ _).2 (h.mem q)
    refine Ev2.done (fun i j => ?_)
    rw [impl_powerRun.run, if_pos hm, ic_idxOf, idxOf_runto h]
  | succ e ih =>
    intro q hq
    have hm : ¬ ((its f q n : Nat) : Int) ∈ ic (runto f n q) := fun hm => h.not_mem q (by omega) ((ic_mem _ _).1 hm)
    have hl : (ic (runto f n q)).length < 17592186044416 := by rw [ic_length, runto_len]; omega
    refine Ev2.step (fun i j => by rw [impl_powerRun.run, if_neg hm, if_pos hl]) (hs q (by omega)) ?_
    have h2 := ih (q + 1) (by omega)
    rw [← ic_runto] at h2
    exact h2
theorem wf_nat (y : Nat) (h : y ≤ 1000000000000) : (Lit.int .i64 (y : Int)).wf = true := by
  have h2 : (decide (IntKind.i64.min ≤ (y : Int)) && decide ((y : Int) ≤ IntKind.i64.max)) = true := by
    rw [show IntKind.i64.min = -9223372036854775808 from rfl, show IntKind.i64.max = 9223372036854775807 from rfl]
    simp
    omega
  exact h2
theorem impl_pstep_ev (b p n : Nat) (hb : 2 ≤ b) (hb2 : b ≤ 16) (hp : p ≤ 8) (hp1 : 1 ≤ p) (hn : n ≤ 1000000000000) : Ev (fun k => impl_powerRun.step k (b : Int) (p : Int) (n : Int)) ((psum b p n : Nat) : Int) := by
  unfold impl_powerRun.step
  refine evb (impl_powerSum_ev b p n hb hb2 hp hp1 hn) ?_
  have h1 := psum_le hb hb2 p n (by omega)
  have h2 := pow15 b p hb2 hp
  have h3 : 40 * (b - 1) ^ p ≤ 40 * 2562890625 := Nat.mul_le_mul_left _ h2
  exact evp (wf_nat _ (by omega)) (Ev.now _)
theorem impl_powerRun_ev {b p n len t : Nat} (hb : 2 ≤ b) (hb2 : b ≤ 16) (hp : p ≤ 8) (hp1 : 1 ≤ p) (h : Comes (psum b p) n len t) (hlen : len ≤ 1000000000) (hB : ∀ q, its (psum b p) q n ≤ 1000000000000) : Ev (fun k => impl_powerRun.f k (n : Int) (b : Int) (p : Int)) (ic (runto (psum b p) n len), (t : Int)) := by
  have h0 := hB 0
  have hn : n ≤ 1000000000000 := h0
  unfold impl_powerRun.f
  refine evp (by omega) ?_
  refine Ev2.diag (g := fun i j => impl_powerRun.run (impl_powerRun.step i (b : Int) (p : Int)) j [] (n : Int)) ?_
  have := impl_run_ev2 (s := fun i => impl_powerRun.step i (b : Int) (p : Int)) h hlen (fun q _ => by rw [its_succ]; exact impl_pstep_ev b p _ hb hb2 hp hp1 (hB q)) len 0 (by omega)
  exact this
theorem spec_run_ev2 {s : Nat → Int → Option Int} {f : Nat → Nat} {n len t : Nat} (h : Comes f n len t) (hlen : len ≤ 1000000000) (hs : ∀ q, q < len → Ev (fun i => s i ((its f q n : Nat) : Int)) ((its f (q + 1) n : Nat) : Int)) (e : Nat) : ∀ q : Nat, q + 1 + e = len →
    Ev2 (fun i j => spec_pwRun.run (s i) j (ic (runto f n (q + 1))) ((its f q n : Nat) : Int)) (ic (runto f n len), (t : Int)) := by
  induction e with
  | zero =>
    intro q hq
    have hq : q + 1 = len := by omega
    have hm : ((its f (q + 1) n : Nat) : Int) ∈ ic (runto f n (q + 1)) := by rw [hq]; exact (ic_mem _ _).2 (h.mem len)
    refine Ev2.step (fun i j => by rw [spec_pwRun.run]) (hs q (by omega)) ?_
    refine ⟨0, fun i j _ _ => ?_⟩
    simp only
    rw [if_pos hm, hq, ic_idxOf, idxOf_runto h]
  | succ e ih =>
    intro q hq
    have hm : ¬ ((its f (q + 1) n : Nat) : Int) ∈ ic (runto f n (q + 1)) := fun hm => h.not_mem (q + 1) (by omega) ((ic_mem _ _).1 hm)
    have hl : (ic (runto f n (q + 1))).length < 17592186044416 := by rw [ic_length, runto_len]; omega
    refine Ev2.step (fun i j => by rw [spec_pwRun.run]) (hs q (by omega)) ?_
    have h2 := ih (q + 1) (by omega)
    rw [← ic_runto] at h2
    exact Ev2.congr_ (fun i j => by rw [if_neg hm, if_pos hl]) h2 rfl
theorem spec_pwRun_ev {b p n len t : Nat} (hb : 2 ≤ b) (hb2 : b ≤ 16) (hp : p ≤ 8) (h : Comes (psum b p) n len t) (hlen : len ≤ 1000000000) (hB : ∀ q, its (psum b p) q n ≤ 1000000000000) : Ev (fun k => spec_pwRun.f k (n : Int) (b : Int) (p : Int)) (ic (runto (psum b p) n len), (t : Int)) := by
  have hlt := h.lt
  unfold spec_pwRun.f
  refine Ev2.diag (g := fun i j => spec_pwRun.run (fun x => spec_pwSum.f i x (b : Int) (p : Int)) j [(n : Int)] (n : Int)) ?_
  have := spec_run_ev2 (s := fun i x => spec_pwSum.f i x (b : Int) (p : Int)) h hlen (fun q _ => by rw [its_succ]; exact spec_pwSum_ev b p _ hb hb2 hp (hB q)) (len - 1) 0 (by omega)
  exact this
theorem spec_turn_loop (l : List Nat) (hl : l.length ≤ 1000000000) (e : Nat) : ∀ (i m : Nat), i + e = l.length → (m < l.length) → (∀ j, j < i → l.getD m 0 ≤ l.getD j 0) →
    ∃ m', m' < l.length ∧ (∀ j, j < l.length → l.getD m' 0 ≤ l.getD j 0) ∧ Ev (fun k => spec_pwTurned.l0 k (ic l) (m : Int) (ic l) (l.length : Int) (i : Int)) (ic (l.drop m' ++ l.take m')) := by
  induction e with
  | zero =>
    intro i m h hm hle
    have : i = l.length := by omega
    subst this
    refine ⟨m, hm, hle, evs (fun k => by rw [spec_pwTurned.l0]) ?_⟩
    have e1 : (ic l).drop (m : Int).toNat = ic (l.drop m) := by rw [Int.toNat_natCast, ic_drop]
    have e2 : (ic l).take (m : Int).toNat = ic (l.take m) := by rw [Int.toNat_natCast]; simp [ic, List.map_take]
    rw [e1, e2]
    refine evn (by omega) (evp (by omega) (evp (by rw [ic_length]; omega) (evc (a := ic (l.drop m)) ?_ (evp ?_ ?_))))
    · unfold spec_l1Own.f
      rw [Option.bind_some, if_pos (by rw [ic_length]; simp; omega), List.nil_append]
    · rw [ic_length, ic_length]; simp; omega
    · exact evr (by rw [ic_append])
  | succ e ih =>
    intro i m h hm hle
    have key : ∀ x : Nat, x < l.length → rd (ic l) (x : Int) = ((l.getD x 0 : Nat) : Int) := by
      intro x hx
      rw [rd_nat]
      simp [ic, List.getD_eq_getElem?_getD, hx]
    by_cases g : l.getD i 0 < l.getD m 0
    · obtain ⟨m', h1, h2, h3⟩ := ih (i + 1) i (by omega) (by omega) (fun j hj => by
        by_cases e : j = i
        · subst e; exact Nat.le_refl _
        · have := hle j (by omega); omega)
      refine ⟨m', h1, h2, evs (fun k => by rw [spec_pwTurned.l0]) ?_⟩
      rw [key i (by omega), key m hm, ic_length, w64 (x := (i : Int) + 1) (by omega) (by omega)]
      exact evp (by omega) (evp (by omega) (evp (by omega) (evp (by omega) (evp (by omega) (evp (by omega) h3)))))
    · obtain ⟨m', h1, h2, h3⟩ := ih (i + 1) m (by omega) hm (fun j hj => by
        by_cases e : j = i
        · subst e; omega
        · exact hle j (by omega))
      refine ⟨m', h1, h2, evs (fun k => by rw [spec_pwTurned.l0]) ?_⟩
      rw [key i (by omega), key m hm, ic_length, w64 (x := (i : Int) + 1) (by omega) (by omega)]
      exact evp (by omega) (evp (by omega) (evp (by omega) (evp (by omega) (evp (by omega) (evn (by omega) h3)))))
theorem spec_turn_ev (l : List Nat) (hl : l.length ≤ 1000000000) (h0 : 1 ≤ l.length) : ∃ m', m' < l.length ∧ (∀ j, j < l.length → l.getD m' 0 ≤ l.getD j 0) ∧ Ev (fun k => spec_pwTurned.f k (ic l)) (ic (l.drop m' ++ l.take m')) := by
  unfold spec_pwTurned.f
  rw [ic_length]
  exact spec_turn_loop l hl l.length 0 0 (by omega) (by omega) (fun j hj => by omega)
theorem spec_pwEnds_ev {b p n len t : Nat} (hb : 2 ≤ b) (hb2 : b ≤ 16) (hp : p ≤ 8) (h : Comes (psum b p) n len t) (hlen : len ≤ 1000000000) (hB : ∀ q, its (psum b p) q n ≤ 1000000000000) :
    ∃ i, t ≤ i ∧ i < len ∧ (∀ j, t ≤ j → j < len → its (psum b p) i n ≤ its (psum b p) j n) ∧ Ev (fun k => spec_pwEnds.f k (n : Int) (b : Int) (p : Int)) ((its (psum b p) i n : Nat) : Int) := by
  have hlt := h.lt
  have hl : ((runto (psum b p) n len).drop t).length = len - t := by rw [List.length_drop, runto_len]
  obtain ⟨m, h1, h2, h3⟩ := spec_turn_ev ((runto (psum b p) n len).drop t) (by omega) (by omega)
  have key : ∀ j, j < len - t → ((runto (psum b p) n len).drop t).getD j 0 = its (psum b p) (t + j) n := by
    intro j hj
    rw [List.getD_eq_getElem?_getD, List.getElem?_drop, runto_get _ _ _ _ (by omega)]
    rfl
  refine ⟨t + m, by omega, by omega, ?_, ?_⟩
  · intro j hj hj2
    have := h2 (j - t) (by omega)
    rw [key m (by omega), key (j - t) (by omega), show t + (j - t) = j by omega] at this
    exact this
  · unfold spec_pwEnds.f
    refine evb (spec_pwRun_ev hb hb2 hp h hlen hB) (evp (by omega) (evp (by simp only [ic_length, runto_len]; omega) ?_))
    have e1 : (ic (runto (psum b p) n len)).drop (t : Int).toNat = ic ((runto (psum b p) n len).drop t) := by rw [Int.toNat_natCast, ic_drop]
    simp only [e1]
    refine evb h3 (evp ?_ (evr ?_))
    · rw [ic_length, List.length_append, List.length_drop, List.length_take]; omega
    · rw [show (0 : Int) = ((0 : Nat) : Int) from rfl, rd_nat, ← key m (by omega)]
      generalize (runto (psum b p) n len).drop t = L at *
      rw [List.drop_eq_getElem_cons h1, List.cons_append, ic_cons, List.getD_cons_zero]
      simp [List.getD_eq_getElem?_getD, h1]

theorem low_byte (x : Int) : 0 ≤ Go.bits .and .u64 ((IntKind.u64.wrap x) / 1099511627776) 255 ∧ Go.bits .and .u64 ((IntKind.u64.wrap x) / 1099511627776) 255 ≤ 255 := by
  have h0 : 0 ≤ IntKind.u64.wrap x ∧ IntKind.u64.wrap x < 18446744073709551616 := by rw [IntKind.wrap_u64]; omega
  obtain ⟨y, hy⟩ := Int.eq_ofNat_of_zero_le (show 0 ≤ IntKind.u64.wrap x / 1099511627776 by omega)
  rw [hy]
  have h1 := bits_and_u64_nat y 255 (by omega) (by omega)
  have e : y &&& 255 = y % 256 := Nat.and_two_pow_sub_one_eq_mod y 8
  rw [e] at h1
  rw [show ((255 : Int)) = ((255 : Nat) : Int) from rfl, h1]
  omega
theorem next_ok (l : List Int) (hl : ∀ x ∈ l, 0 ≤ x ∧ x ≤ 255) (p s : Int) (h0 : 0 ≤ p) (h1 : p ≤ 1000000000000) :
    ∃ v s' : Int, spec_l1Cur_next.f l p s = some (v, p + 1, s') ∧ 0 ≤ v ∧ v ≤ 255 := by
  unfold spec_l1Cur_next.f
  rw [w64 (x := p + 1) (by omega) (by omega)]
  by_cases hp : p < (l.length : Int)
  · have hm := hl _ (rd_mem l p h0 hp)
    rw [if_pos hp, if_pos h0]
    by_cases hq : p + 1 ≤ (l.length : Int)
    · rw [if_pos hq]
      refine ⟨_, _, rfl, ?_⟩
      rw [w64 (by omega) (by omega)]
      exact hm
    · omega
  · rw [if_neg hp]
    by_cases hq : p + 1 ≤ (l.length : Int)
    · omega
    · rw [if_neg hq]
      refine ⟨_, _, rfl, ?_⟩
      have h := low_byte (IntKind.u64.wrap (IntKind.u64.wrap (s * 6364136223846793005)) + 1442695040888963407)
      rw [w64 (by omega) (by omega)]
      exact h
theorem pick_ok (l : List Int) (hl : ∀ x ∈ l, 0 ≤ x ∧ x ≤ 255) (p s n : Int) (h0 : 0 ≤ p) (h1 : p ≤ 999999999990) (hn : n ≤ 1000000) :
    ∃ v p' s' : Int, spec_l1Cur_pick.f l p s n = some (v, p', s') ∧ 0 ≤ v ∧ v ≤ 1000000 ∧ (v = 0 ∨ v < n) ∧ p ≤ p' ∧ p' ≤ p + 2 := by
  unfold spec_l1Cur_pick.f
  by_cases h : n ≤ 1
  · rw [if_pos h]
    exact ⟨0, p, s, rfl, by omega, by omega, by omega, by omega, by omega⟩
  · rw [if_neg h]
    obtain ⟨v, s1, e1, h2, h3⟩ := next_ok l hl p s h0 (by omega)
    rw [e1]
    simp only [Option.bind_some]
    by_cases h4 : n > 200
    · rw [if_pos h4]
      obtain ⟨v2, s2, e2, h5, h6⟩ := next_ok l hl (p + 1) s1 (by omega) (by omega)
      rw [e2]
      simp only [Option.bind_some]
      rw [if_neg (by omega), w64 (x := v * 256) (by omega) (by omega), w64 (by omega) (by omega)]
      have h7 := Int.tmod_nonneg n (show 0 ≤ v * 256 + v2 by omega)
      have h8 := Int.tmod_lt_of_pos (v * 256 + v2) (show 0 < n by omega)
      exact ⟨_, _, _, rfl, h7, by omega, Or.inr h8, by omega, by omega⟩
    · rw [if_neg h4, if_neg (by omega)]
      have h7 := Int.tmod_nonneg n (show 0 ≤ v by omega)
      have h8 := Int.tmod_lt_of_pos v (show 0 < n by omega)
      exact ⟨_, _, _, rfl, h7, by omega, Or.inr h8, by omega, by omega⟩
theorem among_ok (l : List Int) (hl : ∀ x ∈ l, 0 ≤ x ∧ x ≤ 255) (p s : Int) (m : List Int) (hm : m ≠ []) (hm2 : m.length ≤ 1000000) (h0 : 0 ≤ p) (h1 : p ≤ 999999999990) :
    ∃ v p' s' : Int, spec_l1Cur_among.f l p s m = some (v, p', s') ∧ v ∈ m ∧ p ≤ p' ∧ p' ≤ p + 2 := by
  unfold spec_l1Cur_among.f
  have hpos := List.length_pos_iff.2 hm
  obtain ⟨v, p', s', e1, h2, h3, h4, h5, h6⟩ := pick_ok l hl p s m.length h0 h1 (by omega)
  rw [e1]
  simp only [Option.bind_some]
  rw [if_pos h2, if_pos (by omega)]
  exact ⟨_, _, _, rfl, rd_mem m v h2 (by omega), h5, h6⟩

theorem base_ok (l : List Int) (hl : ∀ x ∈ l, 0 ≤ x ∧ x ≤ 255) (p s : Int) (h0 : 0 ≤ p) (h1 : p ≤ 999999999990) : ∃ v p' s' : Int, spec_l1Cur_base.f l p s = some (v, p', s') ∧ p ≤ p' ∧ p' ≤ p + 2 := by
  unfold spec_l1Cur_base.f
  obtain ⟨v, p', s', e, _, h2, h3⟩ := among_ok l hl p s [10, 10, 10, 2, 3, 5, 7, 16, 12, 10, 10, 16, 1, 17, 0] (by simp) (by simp) h0 h1
  rw [e]
  exact ⟨_, _, _, rfl, h2, h3⟩

theorem one_ok (l : List Int) (hl : ∀ x ∈ l, 0 ≤ x ∧ x ≤ 255) (p s n : Int) (h0 : 0 ≤ p) (h1 : p ≤ 999999999990) (hn : n ≤ 1000000) : ∃ (v : Bool) (p' s' : Int), spec_l1Cur_one.f l p s n = some (v, p', s') ∧ p ≤ p' ∧ p' ≤ p + 2 := by
  obtain ⟨v1, p1, s1, e1, a1, b1, c1, d1, f1⟩ := pick_ok l hl p s n h0 h1 hn
  unfold spec_l1Cur_one.f
  rw [e1]
  exact ⟨_, _, _, rfl, d1, f1⟩
theorem sureNumber_loop (l : List Int) (hl : ∀ x ∈ l, 0 ≤ x ∧ x ≤ 255) (d : Nat) : ∀ x p s : Int, 0 ≤ p → p + 2 * (d : Int) ≤ 100000000 → ∃ v p' s' : Int, Ev (fun k => spec_l1Cur_sureNumber.l0 k x (d : Int) l p s) (v, p', s') ∧ p ≤ p' ∧ p' ≤ p + 2 * (d : Int) := by
  induction d with
  | zero =>
    intro x p s h0 h1
    exact ⟨x, p, s, evs (fun k => by rw [spec_l1Cur_sureNumber.l0]) (evn (by omega) (Ev.now _)), by omega, by omega⟩
  | succ d ih =>
    intro x p s h0 h1
    obtain ⟨v, p1, s1, e1, _, _, _, h2, h3⟩ := pick_ok l hl p s 10 h0 (by omega) (by omega)
    obtain ⟨v', p2, s2, e2, h4, h5⟩ := ih (wrap64 (wrap64 (x * 10) + v)) p1 s1 (by omega) (by omega)
    refine ⟨v', p2, s2, evs (fun k => by rw [spec_l1Cur_sureNumber.l0]) (evp (by omega) ?_), by omega, by omega⟩
    simp only [e1, Option.bind_some]
    rw [w64 (x := (((d + 1 : Nat)) : Int) - 1) (by omega) (by omega), show (((d + 1 : Nat)) : Int) - 1 = (d : Int) by omega]
    exact e2
theorem sureNumber_ok (l : List Int) (hl : ∀ x ∈ l, 0 ≤ x ∧ x ≤ 255) (p s : Int) (h0 : 0 ≤ p) (h1 : p ≤ 90000000) : ∃ v p' s' : Int, Ev (fun k => spec_l1Cur_sureNumber.f k l p s) (v, p', s') ∧ p ≤ p' ∧ p' ≤ p + 30 := by
  obtain ⟨v1, p1, s1, e1, a1, b1, c1, d1, f1⟩ := pick_ok l hl p s 8 (by omega) (by omega) (by omega)
  simp only [spec_l1Cur_sureNumber.f, e1, Option.bind_some]
  by_cases h0 : v1 = 0
  · obtain ⟨v2, p2, s2, e2, a2, b2, c2, d2, f2⟩ := pick_ok l hl p1 s1 256 (by omega) (by omega) (by omega)
    refine ⟨v2, p2, s2, evp h0 ?_, by omega, by omega⟩
    simp only [e2, Option.bind_some]
    exact Ev.now _
  · by_cases h1 : v1 = 1
    · obtain ⟨v, p2, s2, e2, _, h2, h3⟩ := among_ok l hl p1 s1 [0, 1, 9, 10, 99, 100, 153, 370, 1000, 6174, 9999, 999999999999, 1000000000000] (by simp) (by simp) (by omega) (by omega)
      refine ⟨v, p2, s2, evn h0 (evp h1 ?_), by omega, by omega⟩
      simp only [e2, Option.bind_some]
      exact Ev.now _
    · by_cases h2 : v1 = 2
      · obtain ⟨v2, p2, s2, e2, a2, b2, c2, d2, f2⟩ := pick_ok l hl p1 s1 256 (by omega) (by omega) (by omega)
        obtain ⟨v3, p3, s3, e3, a3, b3, c3, d3, f3⟩ := pick_ok l hl p2 s2 256 (by omega) (by omega) (by omega)
        refine ⟨wrap64 (v2 * v3), p3, s3, evn h0 (evn h1 (evp h2 ?_)), by omega, by omega⟩
        simp only [e2, e3, Option.bind_some]
        exact Ev.now _
      · obtain ⟨v2, p2, s2, e2, a2, b2, c2, d2, f2⟩ := pick_ok l hl p1 s1 11 (by omega) (by omega) (by omega)
        obtain ⟨d, rfl⟩ := natOf (a := v2) a2
        obtain ⟨v3, p3, s3, e3, h4, h5⟩ := sureNumber_loop l hl (1 + d) 0 p2 s2 (by omega) (by omega)
        refine ⟨v3, p3, s3, evn h0 (evn h1 (evn h2 ?_)), by omega, by omega⟩
        simp only [e2, Option.bind_some]
        rw [w64 (x := (1 : Int) + (d : Int)) (by omega) (by omega)]
        simpa using e3
theorem number_ok (l : List Int) (hl : ∀ x ∈ l, 0 ≤ x ∧ x ≤ 255) (p s : Int) (h0 : 0 ≤ p) (h1 : p ≤ 80000000) : ∃ v p' s' : Int, Ev (fun k => spec_l1Cur_number.f k l p s) (v, p', s') ∧ p ≤ p' ∧ p' ≤ p + 40 := by
  obtain ⟨v1, p1, s1, e1, d1, f1⟩ := one_ok l hl p s 20 (by omega) (by omega) (by omega)
  simp only [spec_l1Cur_number.f, e1, Option.bind_some]
  by_cases h0 : v1 = true
  · obtain ⟨v, p2, s2, e2, _, h2, h3⟩ := among_ok l hl p1 s1 [(-1), 1000000000001, 4611686018427387904, (-4611686018427387904)] (by simp) (by simp) (by omega) (by omega)
    refine ⟨v, p2, s2, evp h0 ?_, by omega, by omega⟩
    simp only [e2, Option.bind_some]
    exact Ev.now _
  · obtain ⟨v, p2, s2, e2, h2, h3⟩ := sureNumber_ok l hl p1 s1 (by omega) (by omega)
    exact ⟨v, p2, s2, evn h0 (evb e2 (Ev.now _)), by omega, by omega⟩

theorem slices_Index_int_int_loop (x : Int) (whole : List Int) (post : List Int) : ∀ pre : List Int, whole = pre ++ post → whole.length ≤ 4611686018427387904 →
    Ev (fun k => slices_Index_int_int.l0 k whole x (whole.length : Int) (pre.length : Int)) (idxI x post pre.length) := by
  induction post with
  | nil =>
    intro pre hw h
    refine evs (fun k => by rw [slices_Index_int_int.l0]) ?_
    exact evn (by simp [hw]) (Ev.now _)
  | cons y post ih =>
    intro pre hw h
    have hl : whole.length = pre.length + (post.length + 1) := by simp [hw]
    have hx : rd whole (pre.length : Int) = y := by rw [hw, rd_mid]
    refine evs (fun k => by rw [slices_Index_int_int.l0]) ?_
    rw [hx]
    refine evp (by omega) (evp (by omega) (evp (by omega) ?_))
    by_cases he : x = y
    · exact evp he (evr (by simp [idxI, he]))
    · refine evn he ?_
      have h2 := ih (pre ++ [y]) (by simp [hw]) h
      rw [w64 (by omega) (by omega)]
      simpa [idxI, he] using h2
theorem slices_Index_int_int_ev (l : List Int) (x : Int) (h : l.length ≤ 4611686018427387904) : Ev (fun k => slices_Index_int_int.f k l x) (idxI x l 0) := by
  unfold slices_Index_int_int.f
  simpa using slices_Index_int_int_loop x l l [] rfl h

theorem contains_ev (l : List Int) (x : Int) (h : l.length ≤ 4611686018427387904) : Ev (fun k => slices_Contains_int_int.f k l x) (decide (x ∈ l)) := by
  unfold slices_Contains_int_int.f
  refine evb (slices_Index_int_int_ev l x h) (evr ?_)
  have := (idxI_ge x l 0).1
  by_cases hm : x ∈ l <;> simp [hm, this] <;> omega

theorem laws_rSum_loop (post : List Nat) : ∀ (pre : List Nat) (a : Nat), (pre ++ post).length ≤ 1000000000000 → a + lsum post ≤ 1000000000000000000 →
    Ev (fun k => laws_rSum.l0 k (a : Int) (ic (pre ++ post)) ((pre ++ post).length : Int) (pre.length : Int)) ((a + lsum post : Nat) : Int) := by
  induction post with
  | nil =>
    intro pre a h1 h2
    refine evs (fun k => by rw [laws_rSum.l0]) ?_
    exact evn (by simp) (evr (by simp [lsum]))
  | cons d post ih =>
    intro pre a h1 h2
    simp only [lsum] at h2
    have hl : (pre ++ d :: post).length = pre.length + (post.length + 1) := by simp
    have h3 := ih (pre ++ [d]) (a + d) (by simp at h1 ⊢; omega) (by omega)
    rw [List.append_assoc, List.singleton_append] at h3
    refine evs (fun k => by rw [laws_rSum.l0]) ?_
    rw [ic_rd, ic_length, hl, w64 (x := (a : Int) + (d : Int)) (by omega) (by omega), w64 (x := (pre.length : Int) + 1) (by omega) (by omega)]
    refine evp (by omega) (evp (by omega) (evp (by omega) ?_))
    rw [hl] at h3
    have e1 : (((pre ++ [d]).length : Nat) : Int) = (pre.length : Int) + 1 := by simp
    have e2 : ((a + d : Nat) : Int) = (a : Int) + (d : Int) := by omega
    rw [e1, e2] at h3
    have e3 : a + lsum (d :: post) = a + d + lsum post := by simp only [lsum]; omega
    rw [e3]
    exact h3
theorem laws_rSum_all (l : List Nat) (h1 : l.length ≤ 1000000000000) (h2 : lsum l ≤ 1000000000000000000) : Ev (fun k => laws_rSum.l0 k 0 (ic l) ((ic l).length : Int) 0) ((lsum l : Nat) : Int) := by
  have h := laws_rSum_loop l [] 0 (by simpa using h1) (by omega)
  rw [ic_length]
  simpa using h

theorem laws_rSame_loop (post : List Int) : ∀ (pre post' : List Int), post'.length = post.length → (pre ++ post).length ≤ 4611686018427387904 →
    Ev (fun k => laws_rSame.l0 k (pre ++ post) (pre ++ post') ((pre ++ post).length : Int) (pre.length : Int)) (decide (post = post')) := by
  induction post with
  | nil =>
    intro pre post' hl h
    obtain rfl : post' = [] := List.eq_nil_of_length_eq_zero hl
    refine evs (fun k => by rw [laws_rSame.l0]) ?_
    exact evn (by simp) (evr (by simp))
  | cons x post ih =>
    intro pre post' hl h
    obtain ⟨y, post', rfl⟩ : ∃ y z, post' = y :: z := by cases post' with
      | nil => simp at hl
      | cons y z => exact ⟨y, z, rfl⟩
    refine evs (fun k => by rw [laws_rSame.l0]) ?_
    refine evp (by simp; omega) (evp (by omega) (evp (by simp; omega) (evp (by simp; omega) ?_)))
    rw [rd_mid, rd_mid]
    by_cases he : x = y
    · subst he
      refine evp rfl ?_
      have h2 := ih (pre ++ [x]) post' (by simpa using hl) (by simpa using h)
      simp only [List.append_assoc, List.singleton_append] at h2
      rw [w64 (by omega) (by simp at h; omega)]
      simpa using h2
    · exact evn he (evr (by simp [he]))
theorem laws_rSame_ev (l l' : List Int) (h : l.length ≤ 4611686018427387904) : Ev (fun k => laws_rSame.f k l l') (decide (l = l')) := by
  unfold laws_rSame.f
  by_cases hl : l.length = l'.length
  · exact evp (by omega) (by simpa using laws_rSame_loop l [] l' hl.symm (by simpa using h))
  · exact evn (by omega) (evr (by symm; rw [decide_eq_false_iff_not]; exact fun e => hl (by rw [e])))
theorem laws_rSame_self (l : List Int) (h : l.length ≤ 4611686018427387904) : Ev (fun k => laws_rSame.f k l l) true := by simpa using laws_rSame_ev l l h

def Hap (b x : Nat) : Prop := ∃ i, its (psum b 2) i x = 1
noncomputable def hap (b x : Nat) : Bool := @decide (Hap b x) (Classical.propDecidable _)
theorem hap_iff (b x : Nat) : hap b x = true ↔ Hap b x := by
  unfold hap
  exact @decide_eq_true_iff _ (Classical.propDecidable _)
theorem hap_step {b : Nat} (hb : 2 ≤ b) (x : Nat) : hap b (psum b 2 x) = hap b x := by
  rw [Bool.eq_iff_iff, hap_iff, hap_iff]
  constructor
  · rintro ⟨i, h⟩
    exact ⟨i + 1, h⟩
  · rintro ⟨i, h⟩
    cases i with
    | zero =>
      have hx : x = 1 := h
      subst hx
      exact ⟨0, psum_one hb 2⟩
    | succ i => exact ⟨i, h⟩
theorem hap_zero (b : Nat) : hap b 0 = false := by
  rw [← Bool.not_eq_true, hap_iff]
  rintro ⟨i, h⟩
  rw [its_zero] at h
  omega
theorem hap_run {b n len t : Nat} (h : Comes (psum b 2) n len t) : (1 ∈ runto (psum b 2) n len) ↔ Hap b n := by
  constructor
  · intro hm
    obtain ⟨i, _, e⟩ := (runto_mem _ _ _ _).1 hm
    exact ⟨i, e⟩
  · rintro ⟨i, e⟩
    have := h.mem i
    rwa [e] at this
theorem impl_isHappy_ev (b n : Nat) (hb : 2 ≤ b) (hb2 : b ≤ 16) (hn : n ≤ 1000000000000) : Ev (fun k => impl_isHappy.f k (n : Int) (b : Int)) (hap b n) := by
  obtain ⟨len, t, hlen, hc⟩ := prun_comes (p := 2) hb hb2 (by omega) n hn
  unfold impl_isHappy.f
  refine evb (impl_powerRun_ev (p := 2) hb hb2 (by omega) (by omega) hc (by omega) (fun q => its_psum' hb hb2 (by omega) n hn q)) (evb (contains_ev _ 1 (by rw [ic_length, runto_len]; omega)) (evr ?_))
  rw [Bool.eq_iff_iff, decide_eq_true_iff, hap_iff, ← hap_run hc]
  exact ic_mem _ 1
theorem spec_pwHappy_ev (b n : Nat) (hb : 2 ≤ b) (hb2 : b ≤ 16) (hn : n ≤ 1000000000000) : Ev (fun k => spec_pwHappy.f k (n : Int) (b : Int)) (hap b n) := by
  unfold spec_pwHappy.f
  by_cases h0 : n = 0
  · subst h0
    exact evn (by omega) (evr (hap_zero b).symm)
  · obtain ⟨len, t, hlen, hc⟩ := prun_comes (p := 2) hb hb2 (by omega) n hn
    obtain ⟨i, h1, h2, h3, h4⟩ := spec_pwEnds_ev (p := 2) hb hb2 (by omega) hc (by omega) (fun q => its_psum' hb hb2 (by omega) n hn q)
    refine evp (by omega) (evb h4 (evr ?_))
    rw [Bool.eq_iff_iff, beq_iff_eq, hap_iff]
    constructor
    · intro e
      exact ⟨i, by omega⟩
    · intro h
      have h5 := (one_last hb hc).1 ((hap_run hc).2 h)
      have h6 := h3 t (Nat.le_refl _) hc.lt
      have h7 := its_pos (p := 2) hb n (by omega) i
      omega
/-! The lists of sums. -/
def PS (b : Nat) (l : List Nat) (i e : Nat) (m : List Nat) : Prop := ∀ F : Nat → Nat, wsum F m 0 = wsum (fun s => sumTo (fun d => F (s + d * d)) b) (l.take i) 0 + l.getD i 0 * sumTo (fun d => F (i + d * d)) e
theorem PS.start (b : Nat) (l : List Nat) (n : Nat) : PS b l 0 0 (List.replicate n 0) := by
  intro F
  rw [wsum_zeros]
  simp [wsum, sumTo]
theorem PS.put {b : Nat} {l : List Nat} {i e : Nat} {m : List Nat} (h : PS b l i e m) (hi : i + e * e < m.length) : PS b l i (e + 1) (m.set (i + e * e) (m.getD (i + e * e) 0 + l.getD i 0)) := by
  intro F
  rw [wsum_set F m _ 0 _ hi, h F, Nat.zero_add]
  simp only [sumTo]
  rw [Nat.mul_add, Nat.add_assoc]
theorem PS.turn {b : Nat} {l : List Nat} {i : Nat} {m : List Nat} (h : PS b l i b m) (hi : i < l.length) : PS b l (i + 1) 0 m := by
  intro F
  rw [h F, List.take_succ_eq_append_getElem hi, wsum_append, List.length_take, Nat.zero_add, Nat.min_eq_left (by omega)]
  simp only [wsum, sumTo, Nat.mul_zero, Nat.add_zero]
  simp [List.getD_eq_getElem?_getD, hi]
theorem PS.skip {b : Nat} {l : List Nat} {i : Nat} {m : List Nat} (h : PS b l i 0 m) (hi : i < l.length) (h0 : l.getD i 0 = 0) : PS b l (i + 1) 0 m := by
  have h2 : PS b l i b m := fun F => by rw [h F, h0]; simp
  exact h2.turn hi
theorem PS.done {b k : Nat} (hb : 2 ≤ b) {l m : List Nat} (h : PS b l l.length 0 m) (hs : Spread b k l) : Spread b (k + 1) m := by
  refine hs.next hb (fun F => ?_)
  rw [h F, List.take_length]
  simp [sumTo]
theorem PS.bound {b k : Nat} {l : List Nat} {i e : Nat} {m : List Nat} (h : PS b l i e m) (hs : Spread b k l) (he : e ≤ b) (j : Nat) : m.getD j 0 ≤ b ^ (k + 1) := by
  refine Nat.le_trans (wsum_ge m 0 j) ?_
  rw [h (fun _ => 1)]
  have h1 : ∀ c, sumTo (fun _ => 1) c = c := fun c => by rw [sumTo_const, Nat.mul_one]
  simp only [h1]
  have h2 := hs (fun _ => b)
  rw [sumTo_const] at h2
  rw [Nat.pow_succ, ← h2]
  by_cases hi : i < l.length
  · have h3 := wsum_take_le (fun _ => b) l (i + 1) 0
    rw [List.take_succ_eq_append_getElem hi, wsum_append] at h3
    simp only [wsum] at h3
    have h4 : l.getD i 0 * e ≤ l[i] * b := by
      rw [show l.getD i 0 = l[i] by simp [List.getD_eq_getElem?_getD, hi]]
      exact Nat.mul_le_mul_left _ he
    omega
  · have h3 := wsum_take_le (fun _ => b) l i 0
    have h4 : l.getD i 0 = 0 := by simp [List.getD_eq_getElem?_getD, Nat.le_of_not_lt hi]
    rw [h4]
    omega
theorem sumTo_zero {g : Nat → Nat} (m : Nat) (h : ∀ i, i < m → g i = 0) : sumTo g m = 0 := by
  induction m with
  | zero => rfl
  | succ m ih => simp only [sumTo]; rw [ih (fun i hi => h i (by omega)), h m (by omega)]
theorem low_pow {b : Nat} (hb : 2 ≤ b) (k : Nat) : ∀ n : Nat, n < b ^ k → (low b n).length ≤ k := by
  induction k with
  | zero => intro n h; have : n = 0 := by simpa using h
            subst this; simp [low_zero]
  | succ k ih =>
    intro n h
    by_cases h0 : n = 0
    · subst h0; simp [low_zero]
    · rw [low_succ hb (by omega), List.length_cons]
      have : n / b < b ^ k := by
        rw [Nat.div_lt_iff_lt_mul (by omega)]
        rwa [Nat.pow_succ] at h
      have := ih _ this
      omega
theorem Spread.far {b k : Nat} (hb : 2 ≤ b) {l : List Nat} (hs : Spread b k l) (i : Nat) (hi : k * ((b - 1) * (b - 1)) < i) : l.getD i 0 = 0 := by
  have h := hs (fun j => if j = i then 1 else 0)
  rw [wsum_delta, if_pos (Nat.zero_le _), Nat.sub_zero] at h
  rw [h]
  refine sumTo_zero _ (fun n hn => ?_)
  have h1 := lpow_le 2 (b - 1) (low b n) (fun d hd => by have := low_lt hb n d hd; omega)
  have h2 := low_pow hb k n hn
  have h3 : (low b n).length * (b - 1) ^ 2 ≤ k * (b - 1) ^ 2 := Nat.mul_le_mul_right _ h2
  rw [Nat.pow_two] at h1 h3
  have h4 : psum b 2 n = lpow 2 (low b n) := rfl
  rw [h4, if_neg (by omega)]
theorem sq_le {b d : Nat} (h : d < b) : d * d ≤ (b - 1) * (b - 1) := Nat.mul_le_mul (by omega) (by omega)
theorem rdD (l : List Nat) (i : Nat) : rd (ic l) (i : Int) = ((l.getD i 0 : Nat) : Int) := by
  simp only [rd, Int.toNat_natCast, ic, List.getD_eq_getElem?_getD, List.getElem?_map]
  cases l[i]? <;> simp
theorem ic_setN (l : List Nat) (i x : Nat) : (ic l).set i (x : Int) = ic (l.set i x) := by simp [ic, List.map_set]
theorem ic_reps (n : Nat) : List.replicate n (0 : Int) = ic (List.replicate n 0) := by simp [ic]
theorem put_ok {b k : Nat} {l : List Nat} {i e : Nat} {m : List Nat} (h : PS b l i e m) (hs : Spread b k l) (he : e < b) (hk : b ^ (k + 1) ≤ 1000000000000) (hi : i + e * e < m.length) :
    (ic m).set (((i + e * e : Nat) : Int)).toNat (wrap64 ((rd (ic m) ((i + e * e : Nat) : Int)) + ((l.getD i 0 : Nat) : Int))) = ic (m.set (i + e * e) (m.getD (i + e * e) 0 + l.getD i 0)) := by
  have h2 := (h.put hi).bound hs (by omega) (i + e * e)
  have e1 : (m.set (i + e * e) (m.getD (i + e * e) 0 + l.getD i 0)).getD (i + e * e) 0 = m.getD (i + e * e) 0 + l.getD i 0 := by
    simp [List.getD_eq_getElem?_getD, hi]
  rw [e1] at h2
  rw [rdD, show ((m.getD (i + e * e) 0 : Nat) : Int) + ((l.getD i 0 : Nat) : Int) = ((m.getD (i + e * e) 0 + l.getD i 0 : Nat) : Int) by omega, w64n _ (by omega), Int.toNat_natCast, ic_setN]
theorem idx_ok (i e : Nat) (he : e ≤ 10) (hi : i ≤ 2000) : wrap64 ((i : Int) + (wrap64 ((e : Int) * (e : Int)))) = ((i + e * e : Nat) : Int) := by
  have h1 : e * e ≤ 10 * 10 := Nat.mul_le_mul he he
  rw [← Int.natCast_mul, w64n _ (by omega), show (i : Int) + ((e * e : Nat) : Int) = ((i + e * e : Nat) : Int) by omega, w64n _ (by omega)]
theorem sp_bound (b k : Nat) (hb : b ≤ 10) (hk : k ≤ 12) : b ^ k ≤ 1000000000000 := by
  have h1 : b ^ k ≤ 10 ^ k := Nat.pow_le_pow_left hb k
  have h2 : 10 ^ k ≤ 10 ^ 12 := Nat.pow_le_pow_right (by omega) hk
  omega
theorem impl_l2 (b k N : Nat) (hb : 2 ≤ b) (hb2 : b ≤ 10) (hk : k + 1 ≤ 12) (l : List Nat) (hs : Spread b k l) (hl : l.length ≤ 1000) (i : Nat) (hi : i < l.length) (M : Nat) (hM : M = l.length + (b - 1) * (b - 1)) (Q : List Nat → Prop)
    (hn : ∀ m', PS b l (i + 1) 0 m' → m'.length = M → ∃ R, Ev (fun j => impl_spread.l1 j (b : Int) (ic m') (N : Int) (k : Int) (ic l) (l.length : Int) ((i + 1 : Nat) : Int)) (ic R) ∧ Q R) (r : Nat) :
    ∀ (e : Nat) (m : List Nat), e + r = b → PS b l i e m → m.length = M → ∃ R, Ev (fun j => impl_spread.l2 j (b : Int) (ic m) (i : Int) ((l.getD i 0 : Nat) : Int) (N : Int) (k : Int) (ic l) (l.length : Int) (i : Int) (b : Int) (e : Int)) (ic R) ∧ Q R := by
  induction r with
  | zero =>
    intro e m he hp hm
    have : e = b := by omega
    subst this
    obtain ⟨R, h1, h2⟩ := hn m (hp.turn hi) hm
    refine ⟨R, evs (fun j => by rw [impl_spread.l2]) ?_, h2⟩
    rw [w64 (x := (i : Int) + 1) (by omega) (by omega)]
    exact evn (by omega) h1
  | succ r ih =>
    intro e m he hp hm
    have hsq := sq_le (show e < b by omega)
    have hlen : i + e * e < m.length := by omega
    obtain ⟨R, h1, h2⟩ := ih (e + 1) (m.set (i + e * e) (m.getD (i + e * e) 0 + l.getD i 0)) (by omega) (hp.put hlen) (by rw [List.length_set]; exact hm)
    refine ⟨R, evs (fun j => by rw [impl_spread.l2]) ?_, h2⟩
    rw [idx_ok i e (by omega) (by omega), put_ok hp hs (by omega) (sp_bound b _ hb2 hk) hlen, ic_length, w64 (x := (e : Int) + 1) (by omega) (by omega)]
    exact evp (by omega) (evp (by omega) (evp (by omega) h1))
theorem impl_l1 (b k N : Nat) (hb : 2 ≤ b) (hb2 : b ≤ 10) (hk : k + 1 ≤ 12) (l : List Nat) (hs : Spread b k l) (hl : l.length ≤ 1000) (M : Nat) (hM : M = l.length + (b - 1) * (b - 1)) (Q : List Nat → Prop)
    (hn : ∀ m', Spread b (k + 1) m' → m'.length = M → ∃ R, Ev (fun j => impl_spread.l0 j (b : Int) (ic m') (N : Int) ((k + 1 : Nat) : Int)) (ic R) ∧ Q R) (r : Nat) :
    ∀ (i : Nat) (m : List Nat), i + r = l.length → PS b l i 0 m → m.length = M → ∃ R, Ev (fun j => impl_spread.l1 j (b : Int) (ic m) (N : Int) (k : Int) (ic l) (l.length : Int) (i : Int)) (ic R) ∧ Q R := by
  induction r with
  | zero =>
    intro i m hi hp hm
    have : i = l.length := by omega
    subst this
    obtain ⟨R, h1, h2⟩ := hn m (hp.done hb hs) hm
    refine ⟨R, evs (fun j => by rw [impl_spread.l1]) ?_, h2⟩
    rw [w64 (x := (k : Int) + 1) (by omega) (by omega)]
    exact evn (by omega) h1
  | succ r ih =>
    intro i m hi hp hm
    obtain ⟨R, h1, h2⟩ := impl_l2 b k N hb hb2 hk l hs hl i (by omega) M hM Q (fun m' hp' hm' => ih (i + 1) m' (by omega) hp' hm') b 0 m (by omega) hp hm
    refine ⟨R, evs (fun j => by rw [impl_spread.l1]) ?_, h2⟩
    rw [rdD, ic_length]
    exact evp (by omega) (evp (by omega) (evp (by omega) h1))
theorem impl_l0 (b N : Nat) (hb : 2 ≤ b) (hb2 : b ≤ 10) (hN : N ≤ 12) (r : Nat) : ∀ (k : Nat) (l : List Nat), k + r = N → Spread b k l → l.length = k * ((b - 1) * (b - 1)) + 1 →
    ∃ R, Ev (fun j => impl_spread.l0 j (b : Int) (ic l) (N : Int) (k : Int)) (ic R) ∧ (Spread b N R ∧ R.length = N * ((b - 1) * (b - 1)) + 1) := by
  induction r with
  | zero =>
    intro k l h hs hl
    have : k = N := by omega
    subst this
    refine ⟨l, evs (fun j => by rw [impl_spread.l0]) ?_, hs, hl⟩
    exact evn (by omega) (Ev.now _)
  | succ r ih =>
    intro k l h hs hl
    have hc : (b - 1) * (b - 1) ≤ 9 * 9 := Nat.mul_le_mul (by omega) (by omega)
    have hkc : k * ((b - 1) * (b - 1)) ≤ 12 * 81 := Nat.mul_le_mul (by omega) (by omega)
    obtain ⟨R, h1, h2⟩ := impl_l1 b k N hb hb2 (by omega) l hs (by omega) (l.length + (b - 1) * (b - 1)) rfl _ (fun m' hs' hm' => ih (k + 1) m' (by omega) hs' (by rw [hm', hl, Nat.succ_mul]; omega)) l.length 0 (List.replicate (l.length + (b - 1) * (b - 1)) 0) (by omega) (PS.start b l _) (by simp)
    refine ⟨R, evs (fun j => by rw [impl_spread.l0]) ?_, h2⟩
    have e : wrap64 (((ic l).length : Int) + (wrap64 ((wrap64 ((b : Int) - 1)) * (wrap64 ((b : Int) - 1))))) = ((l.length + (b - 1) * (b - 1) : Nat) : Int) := by
      rw [ic_length, w64 (x := (b : Int) - 1) (by omega) (by omega), show (b : Int) - 1 = ((b - 1 : Nat) : Int) by omega, ← Int.natCast_mul, w64n _ (by omega), show (l.length : Int) + (((b - 1) * (b - 1) : Nat) : Int) = ((l.length + (b - 1) * (b - 1) : Nat) : Int) by omega, w64n _ (by omega)]
    rw [e, Int.toNat_natCast, ic_reps, ic_length]
    exact evp (by omega) (evp (by omega) (evp (by omega) h1))
theorem impl_spread_ev (b N : Nat) (hb : 2 ≤ b) (hb2 : b ≤ 10) (hN : N ≤ 12) : ∃ R, Ev (fun j => impl_spread.f j (N : Int) (b : Int)) (ic R) ∧ (Spread b N R ∧ R.length = N * ((b - 1) * (b - 1)) + 1) := by
  unfold impl_spread.f
  exact impl_l0 b N hb hb2 hN N 0 [1] (by omega) (Spread.zero b 0) (by simp)
theorem spec_l2 (b k N : Nat) (hb : 2 ≤ b) (hb2 : b ≤ 10) (hk : k + 1 ≤ 12) (l : List Nat) (hs : Spread b k l) (hl : l.length ≤ 1000) (i : Nat) (hi : i < l.length) (hx : l.getD i 0 ≠ 0) (M : Nat) (hM : i + (b - 1) * (b - 1) < M) (Q : List Nat → Prop)
    (hn : ∀ m', PS b l (i + 1) 0 m' → m'.length = M → ∃ R, Ev (fun j => spec_pwSpread.l1 j (N : Int) (b : Int) (k : Int) (ic m') (ic l) (l.length : Int) ((i + 1 : Nat) : Int)) (ic R) ∧ Q R) (r : Nat) :
    ∀ (e : Nat) (m : List Nat), e + r = b → PS b l i e m → m.length = M → ∃ R, Ev (fun j => spec_pwSpread.l2 j (N : Int) (b : Int) (k : Int) (ic m) (i : Int) ((l.getD i 0 : Nat) : Int) (e : Int) (ic l) (l.length : Int) (i : Int)) (ic R) ∧ Q R := by
  induction r with
  | zero =>
    intro e m he hp hm
    have : e = b := by omega
    subst this
    obtain ⟨R, h1, h2⟩ := hn m (hp.turn hi) hm
    refine ⟨R, evs (fun j => by rw [spec_pwSpread.l2]) ?_, h2⟩
    rw [w64 (x := (i : Int) + 1) (by omega) (by omega)]
    exact evp (by omega) (evn (by omega) h1)
  | succ r ih =>
    intro e m he hp hm
    have hsq := sq_le (show e < b by omega)
    have hlen : i + e * e < m.length := by omega
    obtain ⟨R, h1, h2⟩ := ih (e + 1) (m.set (i + e * e) (m.getD (i + e * e) 0 + l.getD i 0)) (by omega) (hp.put hlen) (by rw [List.length_set]; exact hm)
    refine ⟨R, evs (fun j => by rw [spec_pwSpread.l2]) ?_, h2⟩
    rw [idx_ok i e (by omega) (by omega), put_ok hp hs (by omega) (sp_bound b _ hb2 hk) hlen, ic_length, w64 (x := (e : Int) + 1) (by omega) (by omega)]
    exact evp (by omega) (evp (by omega) (evp (by omega) (evp (by omega) h1)))
theorem spec_l1 (b k N : Nat) (hb : 2 ≤ b) (hb2 : b ≤ 10) (hN : N ≤ 12) (hk : k + 1 ≤ N) (l : List Nat) (hs : Spread b k l) (hl : l.length = N * ((b - 1) * (b - 1)) + 1) (Q : List Nat → Prop)
    (hn : ∀ m', Spread b (k + 1) m' → m'.length = l.length → ∃ R, Ev (fun j => spec_pwSpread.l0 j (N : Int) (b : Int) (ic m') ((k + 1 : Nat) : Int)) (ic R) ∧ Q R) (r : Nat) :
    ∀ (i : Nat) (m : List Nat), i + r = l.length → PS b l i 0 m → m.length = l.length → ∃ R, Ev (fun j => spec_pwSpread.l1 j (N : Int) (b : Int) (k : Int) (ic m) (ic l) (l.length : Int) (i : Int)) (ic R) ∧ Q R := by
  have hc : (b - 1) * (b - 1) ≤ 9 * 9 := Nat.mul_le_mul (by omega) (by omega)
  have hkc : N * ((b - 1) * (b - 1)) ≤ 12 * 81 := Nat.mul_le_mul (by omega) (by omega)
  have hk2 : (k + 1) * ((b - 1) * (b - 1)) ≤ N * ((b - 1) * (b - 1)) := Nat.mul_le_mul_right _ hk
  rw [Nat.succ_mul] at hk2
  induction r with
  | zero =>
    intro i m hi hp hm
    have : i = l.length := by omega
    subst this
    obtain ⟨R, h1, h2⟩ := hn m (hp.done hb hs) hm
    refine ⟨R, evs (fun j => by rw [spec_pwSpread.l1]) ?_, h2⟩
    rw [w64 (x := (k : Int) + 1) (by omega) (by omega)]
    exact evn (by omega) h1
  | succ r ih =>
    intro i m hi hp hm
    by_cases hx : l.getD i 0 = 0
    · obtain ⟨R, h1, h2⟩ := ih (i + 1) m (by omega) (hp.skip (by omega) hx) hm
      refine ⟨R, evs (fun j => by rw [spec_pwSpread.l1]) ?_, h2⟩
      rw [rdD, ic_length, hx]
      refine evp (by omega) (evp (by omega) (evp (by omega) ?_))
      refine evs (fun j => by rw [spec_pwSpread.l2]) ?_
      rw [w64 (x := (i : Int) + 1) (by omega) (by omega)]
      exact evn (by omega) h1
    · have hfar : i ≤ k * ((b - 1) * (b - 1)) := by
        rcases Nat.lt_or_ge (k * ((b - 1) * (b - 1))) i with h | h
        · exact absurd (hs.far hb i h) hx
        · exact h
      obtain ⟨R, h1, h2⟩ := spec_l2 b k N hb hb2 (by omega) l hs (by omega) i (by omega) hx l.length (by omega) Q (fun m' hp' hm' => ih (i + 1) m' (by omega) hp' hm') b 0 m (by omega) hp hm
      refine ⟨R, evs (fun j => by rw [spec_pwSpread.l1]) ?_, h2⟩
      rw [rdD, ic_length]
      exact evp (by omega) (evp (by omega) (evp (by omega) h1))
theorem spec_l0 (b N : Nat) (hb : 2 ≤ b) (hb2 : b ≤ 10) (hN : N ≤ 12) (r : Nat) : ∀ (k : Nat) (l : List Nat), k + r = N → Spread b k l → l.length = N * ((b - 1) * (b - 1)) + 1 →
    ∃ R, Ev (fun j => spec_pwSpread.l0 j (N : Int) (b : Int) (ic l) (k : Int)) (ic R) ∧ (Spread b N R ∧ R.length = N * ((b - 1) * (b - 1)) + 1) := by
  induction r with
  | zero =>
    intro k l h hs hl
    have : k = N := by omega
    subst this
    refine ⟨l, evs (fun j => by rw [spec_pwSpread.l0]) ?_, hs, hl⟩
    exact evn (by omega) (Ev.now _)
  | succ r ih =>
    intro k l h hs hl
    have hc : (b - 1) * (b - 1) ≤ 9 * 9 := Nat.mul_le_mul (by omega) (by omega)
    have hkc : N * ((b - 1) * (b - 1)) ≤ 12 * 81 := Nat.mul_le_mul (by omega) (by omega)
    obtain ⟨R, h1, h2⟩ := spec_l1 b k N hb hb2 hN (by omega) l hs hl _ (fun m' hs' hm' => ih (k + 1) m' (by omega) hs' (by rw [hm', hl])) l.length 0 (List.replicate l.length 0) (by omega) (PS.start b l _) (by simp)
    refine ⟨R, evs (fun j => by rw [spec_pwSpread.l0]) ?_, h2⟩
    rw [ic_length, Int.toNat_natCast, ic_reps]
    exact evp (by omega) (evp (by omega) (evp (by omega) h1))
theorem spec_spread_ev (b N : Nat) (hb : 2 ≤ b) (hb2 : b ≤ 10) (hN : N ≤ 12) : ∃ R, Ev (fun j => spec_pwSpread.f j (N : Int) (b : Int)) (ic R) ∧ (Spread b N R ∧ R.length = N * ((b - 1) * (b - 1)) + 1) := by
  have hc : (b - 1) * (b - 1) ≤ 9 * 9 := Nat.mul_le_mul (by omega) (by omega)
  have hkc : N * ((b - 1) * (b - 1)) ≤ 12 * 81 := Nat.mul_le_mul hN (by omega)
  have hkb : N * (b - 1) ≤ 12 * 9 := Nat.mul_le_mul hN (by omega)
  have e : wrap64 ((wrap64 ((wrap64 ((N : Int) * (wrap64 ((b : Int) - 1)))) * (wrap64 ((b : Int) - 1)))) + 1) = ((N * ((b - 1) * (b - 1)) + 1 : Nat) : Int) := by
    rw [w64 (x := (b : Int) - 1) (by omega) (by omega), show (b : Int) - 1 = ((b - 1 : Nat) : Int) by omega, ← Int.natCast_mul, w64n _ (by omega), ← Int.natCast_mul, Nat.mul_assoc]
    generalize N * ((b - 1) * (b - 1)) = C at hkc
    rw [w64n _ (by omega), show (C : Int) + 1 = ((C + 1 : Nat) : Int) by omega, w64n _ (by omega)]
  have e2 : (List.replicate (N * ((b - 1) * (b - 1)) + 1) (0 : Int)).set (0 : Int).toNat 1 = ic (1 :: List.replicate (N * ((b - 1) * (b - 1))) 0) := by
    rw [List.replicate_succ, ic_cons, ← ic_reps]
    rfl
  obtain ⟨R, h1, h2⟩ := spec_l0 b N hb hb2 hN N 0 (1 :: List.replicate (N * ((b - 1) * (b - 1))) 0) (by omega) (Spread.zero b _) (by simp)
  refine ⟨R, ?_, h2⟩
  unfold spec_pwSpread.f
  rw [e, Int.toNat_natCast]
  refine evp (Int.natCast_nonneg _) (evp (by omega) (evc rfl (evp (by rw [List.length_replicate]; exact Int.natCast_pos.2 (Nat.succ_pos _)) ?_)))
  rw [e2]
  exact h1

noncomputable def csum (b : Nat) (l : List Nat) (i : Nat) : Nat := wsum (fun s => if hap b s = true then 1 else 0) (l.take i) 0
theorem csum_succ (b : Nat) (l : List Nat) (i : Nat) (hi : i < l.length) : csum b l (i + 1) = csum b l i + (if hap b i = true then l.getD i 0 else 0) := by
  unfold csum
  rw [List.take_succ_eq_append_getElem hi, wsum_append, List.length_take, Nat.zero_add, Nat.min_eq_left (by omega)]
  simp only [wsum, Nat.add_zero]
  rw [show l.getD i 0 = l[i] by simp [List.getD_eq_getElem?_getD, hi]]
  split <;> simp
theorem csum_le (b : Nat) (l : List Nat) (i : Nat) : csum b l i ≤ wsum (fun _ => 1) l 0 := by
  unfold csum
  refine Nat.le_trans ?_ (wsum_take_le (fun _ => 1) l i 0)
  generalize l.take i = m
  suffices h : ∀ o, wsum (fun s => if hap b s = true then 1 else 0) m o ≤ wsum (fun _ => 1) m o from h 0
  induction m with
  | nil => intro o; exact Nat.le_refl _
  | cons x m ih =>
    intro o
    have := ih (o + 1)
    have h2 : x * (if hap b o = true then 1 else 0) ≤ x * 1 := Nat.mul_le_mul_left _ (by split <;> omega)
    simp only [wsum]
    omega
theorem impl_count_loop (b : Nat) (hb : 2 ≤ b) (hb2 : b ≤ 16) (l : List Nat) (hl : l.length ≤ 1000) (hw : wsum (fun _ => 1) l 0 ≤ 1000000000000) (r : Nat) : ∀ i : Nat, i + r = l.length →
    Ev (fun k => impl_CountHappy.l0 k (b : Int) ((csum b l i : Nat) : Int) (ic l) (l.length : Int) (i : Int)) (((csum b l l.length : Nat) : Int), true) := by
  induction r with
  | zero =>
    intro i hi
    have : i = l.length := by omega
    subst this
    refine evs (fun k => by rw [impl_CountHappy.l0]) ?_
    exact evn (by omega) (Ev.now _)
  | succ r ih =>
    intro i hi
    have h1 := ih (i + 1) (by omega)
    have hc := csum_succ b l i (by omega)
    have hb1 := csum_le b l (i + 1)
    rw [show ((i + 1 : Nat) : Int) = (i : Int) + 1 by omega] at h1
    refine evs (fun k => by rw [impl_CountHappy.l0]) ?_
    rw [rdD, ic_length, w64 (x := (i : Int) + 1) (by omega) (by omega)]
    refine evp (by omega) (evp (by omega) (evp (by omega) ?_))
    by_cases hx : l.getD i 0 = 0
    · rw [hx] at hc ⊢
      have hc2 : csum b l (i + 1) = csum b l i := by rw [hc]; split <;> rfl
      rw [hc2] at h1
      exact evn (by omega) h1
    · refine evp (by omega) (evb (impl_isHappy_ev b i hb hb2 (by omega)) ?_)
      by_cases hh : hap b i = true
      · rw [if_pos hh] at hc
        rw [hc] at h1 hb1
        rw [show ((csum b l i : Nat) : Int) + ((l.getD i 0 : Nat) : Int) = ((csum b l i + l.getD i 0 : Nat) : Int) by omega, w64n _ (by omega)]
        exact evp hh h1
      · rw [if_neg hh, Nat.add_zero] at hc
        rw [hc] at h1
        exact evn hh h1
theorem spec_count_loop (b : Nat) (hb : 2 ≤ b) (hb2 : b ≤ 16) (l : List Nat) (hl : l.length ≤ 1000) (hw : wsum (fun _ => 1) l 0 ≤ 1000000000000) (r : Nat) : ∀ i : Nat, i + r = l.length →
    Ev (fun k => spec_CountHappy.l0 k (b : Int) ((csum b l i : Nat) : Int) (ic l) (l.length : Int) (i : Int)) (((csum b l l.length : Nat) : Int), true) := by
  induction r with
  | zero =>
    intro i hi
    have : i = l.length := by omega
    subst this
    refine evs (fun k => by rw [spec_CountHappy.l0]) ?_
    exact evn (by omega) (Ev.now _)
  | succ r ih =>
    intro i hi
    have h1 := ih (i + 1) (by omega)
    have hc := csum_succ b l i (by omega)
    have hb1 := csum_le b l (i + 1)
    rw [show ((i + 1 : Nat) : Int) = (i : Int) + 1 by omega] at h1
    refine evs (fun k => by rw [spec_CountHappy.l0]) ?_
    rw [rdD, ic_length, w64 (x := (i : Int) + 1) (by omega) (by omega)]
    refine evp (by omega) (evp (by omega) (evp (by omega) (evb (spec_pwHappy_ev b i hb hb2 (by omega)) ?_)))
    by_cases hh : hap b i = true
    · rw [if_pos hh] at hc
      rw [hc] at h1 hb1
      rw [show ((csum b l i : Nat) : Int) + ((l.getD i 0 : Nat) : Int) = ((csum b l i + l.getD i 0 : Nat) : Int) by omega, w64n _ (by omega)]
      exact evp hh h1
    · rw [if_neg hh, Nat.add_zero] at hc
      rw [hc] at h1
      exact evn hh h1
theorem lsum_wsum (l : List Nat) : ∀ o, wsum (fun _ => 1) l o = lsum l := by
  induction l with
  | nil => intro o; rfl
  | cons x l ih => intro o; simp only [wsum, lsum]; rw [ih]; omega
noncomputable def hlist (b : Nat) : Nat → List Nat
  | 0 => []
  | m + 1 => if hap b (m + 1) = true then hlist b m ++ [m + 1] else hlist b m
theorem hlist_len (b : Nat) (m : Nat) : (hlist b m).length = sumTo (fun x => if hap b x = true then 1 else 0) (m + 1) := by
  induction m with
  | zero => simp [hlist, sumTo, hap_zero]
  | succ m ih =>
    simp only [hlist, sumTo]
    simp only [sumTo] at ih
    split <;> simp [ih]
theorem hlist_le (b : Nat) (m : Nat) : (hlist b m).length ≤ m ∧ ∀ x ∈ hlist b m, x ≤ m := by
  induction m with
  | zero => simp [hlist]
  | succ m ih =>
    simp only [hlist]
    split
    · refine ⟨by simp; omega, fun x hx => ?_⟩
      rcases List.mem_append.1 hx with h | h
      · have := ih.2 x h; omega
      · simp at h; omega
    · exact ⟨by omega, fun x hx => by have := ih.2 x hx; omega⟩
theorem impl_hu_loop (b N : Nat) (hb : 2 ≤ b) (hb2 : b ≤ 16) (hN : N ≤ 2000) (r : Nat) : ∀ i : Nat, i + r = N →
    Ev (fun k => impl_HappyUpTo.l0 k (N : Int) (b : Int) (ic (hlist b i)) ((i : Int) + 1)) (ic (hlist b N), true) := by
  induction r with
  | zero =>
    intro i hi
    have : i = N := by omega
    subst this
    refine evs (fun k => by rw [impl_HappyUpTo.l0]) ?_
    exact evn (by omega) (Ev.now _)
  | succ r ih =>
    intro i hi
    have h1 := ih (i + 1) (by omega)
    have hle := (hlist_le b i).1
    rw [show ((i + 1 : Nat) : Int) = (i : Int) + 1 by omega] at h1
    simp only [hlist] at h1
    refine evs (fun k => by rw [impl_HappyUpTo.l0]) ?_
    rw [w64 (x := (i : Int) + 1 + 1) (by omega) (by omega)]
    refine evp (by omega) (evb (a := hap b (i + 1)) ?_ ?_)
    · have := impl_isHappy_ev b (i + 1) hb hb2 (by omega)
      rw [show ((i + 1 : Nat) : Int) = (i : Int) + 1 by omega] at this
      exact this
    · by_cases hh : hap b (i + 1) = true
      · rw [if_pos hh, ic_append] at h1
        exact evp hh (evp (by rw [ic_length]; omega) h1)
      · rw [if_neg hh] at h1
        exact evn hh h1
theorem spec_hu_loop (b N : Nat) (hb : 2 ≤ b) (hb2 : b ≤ 16) (hN : N ≤ 2000) (r : Nat) : ∀ i : Nat, i + r = N →
    Ev (fun k => spec_HappyUpTo.l0 k (N : Int) (b : Int) (ic (hlist b i)) ((i : Int) + 1)) (ic (hlist b N), true) := by
  induction r with
  | zero =>
    intro i hi
    have : i = N := by omega
    subst this
    refine evs (fun k => by rw [spec_HappyUpTo.l0]) ?_
    exact evn (by omega) (Ev.now _)
  | succ r ih =>
    intro i hi
    have h1 := ih (i + 1) (by omega)
    have hle := (hlist_le b i).1
    rw [show ((i + 1 : Nat) : Int) = (i : Int) + 1 by omega] at h1
    simp only [hlist] at h1
    refine evs (fun k => by rw [spec_HappyUpTo.l0]) ?_
    rw [w64 (x := (i : Int) + 1 + 1) (by omega) (by omega)]
    refine evp (by omega) (evb (a := hap b (i + 1)) ?_ ?_)
    · have := spec_pwHappy_ev b (i + 1) hb hb2 (by omega)
      rw [show ((i + 1 : Nat) : Int) = (i : Int) + 1 by omega] at this
      exact this
    · by_cases hh : hap b (i + 1) = true
      · rw [if_pos hh, ic_append] at h1
        exact evp hh (evp (by rw [ic_length]; omega) h1)
      · rw [if_neg hh] at h1
        exact evn hh h1
noncomputable def huR (a b : Int) : List Int × Bool := if (0 ≤ a ∧ a ≤ 2000) ∧ 2 ≤ b ∧ b ≤ 16 then (ic (hlist b.toNat a.toNat), true) else ([], false)
theorem impl_hu_ev (a b : Int) : Ev (fun k => impl_HappyUpTo.f k a b) (huR a b) := by
  unfold impl_HappyUpTo.f huR
  refine evc (impl_isBase_eq b) ?_
  by_cases hb : 2 ≤ b ∧ b ≤ 16
  · refine evp (decide_eq_true hb) (evc (impl_in_eq a 0 2000) ?_)
    by_cases ha : 0 ≤ a ∧ a ≤ 2000
    · rw [decide_eq_true ha, if_pos ⟨ha, hb⟩]
      refine evs (fun k => by rw [impl_HappyUpTo.j0]) ?_
      obtain ⟨a, rfl⟩ := natOf ha.1
      obtain ⟨b, rfl⟩ := natOf (a := b) (by omega)
      exact evn (by simp) (impl_hu_loop b a (by omega) (by omega) (by omega) a 0 (by omega))
    · rw [decide_eq_false ha, if_neg (fun h => ha h.1)]
      refine evs (fun k => by rw [impl_HappyUpTo.j0]) ?_
      exact evp rfl (Ev.now _)
  · rw [if_neg (fun h => hb h.2)]
    refine evn (by rw [decide_eq_false hb]; simp) ?_
    refine evs (fun k => by rw [impl_HappyUpTo.j0]) ?_
    exact evp rfl (Ev.now _)
theorem spec_hu_ev (a b : Int) : Ev (fun k => spec_HappyUpTo.f k a b) (huR a b) := by
  unfold spec_HappyUpTo.f huR
  refine evc (spec_l1In_eq a 0 2000) ?_
  by_cases ha : 0 ≤ a ∧ a ≤ 2000
  · refine evp (decide_eq_true ha) (evc (spec_dgBase_eq b) ?_)
    by_cases hb : 2 ≤ b ∧ b ≤ 16
    · rw [decide_eq_true hb, if_pos ⟨ha, hb⟩]
      refine evs (fun k => by rw [spec_HappyUpTo.j0]) ?_
      obtain ⟨a, rfl⟩ := natOf ha.1
      obtain ⟨b, rfl⟩ := natOf (a := b) (by omega)
      exact evn (by simp) (spec_hu_loop b a (by omega) (by omega) (by omega) a 0 (by omega))
    · rw [decide_eq_false hb, if_neg (fun h => hb h.2)]
      refine evs (fun k => by rw [spec_HappyUpTo.j0]) ?_
      exact evp rfl (Ev.now _)
  · rw [if_neg (fun h => ha h.1)]
    refine evn (by rw [decide_eq_false ha]; simp) ?_
    refine evs (fun k => by rw [spec_HappyUpTo.j0]) ?_
    exact evp rfl (Ev.now _)
theorem rising_loop (l : List Nat) (hl : l.length ≤ 1000000) (hr : ∀ i, i + 1 < l.length → l.getD i 0 < l.getD (i + 1) 0) (r : Nat) : ∀ i : Nat, i + 1 + r = l.length → Ev (fun k => laws_rRising.l0 k (ic l) ((i : Int) + 1)) true := by
  induction r with
  | zero =>
    intro i h
    refine evs (fun k => by rw [laws_rRising.l0]) ?_
    exact evn (by rw [ic_length]; omega) (Ev.now _)
  | succ r ih =>
    intro i h
    have h1 := ih (i + 1) (by omega)
    have h2 := hr i (by omega)
    rw [show ((i + 1 : Nat) : Int) = (i : Int) + 1 by omega] at h1
    refine evs (fun k => by rw [laws_rRising.l0]) ?_
    rw [ic_length, w64 (x := (i : Int) + 1 - 1) (by omega) (by omega), w64 (x := (i : Int) + 1 + 1) (by omega) (by omega), show (i : Int) + 1 - 1 = (i : Int) by omega, show (i : Int) + 1 = ((i + 1 : Nat) : Int) by omega, rdD, rdD]
    rw [show ((i : Int) + 1 + 1) = ((i + 1 : Nat) : Int) + 1 by omega] at h1
    exact evp (by omega) (evp (by omega) (evp (by omega) (evp (by omega) (evn (by omega) h1))))
theorem rising_ev (l : List Nat) (hl : l.length ≤ 1000000) (hr : ∀ i, i + 1 < l.length → l.getD i 0 < l.getD (i + 1) 0) : Ev (fun k => laws_rRising.f k (ic l)) true := by
  unfold laws_rRising.f
  by_cases h : l = []
  · subst h
    refine evs (fun k => by rw [laws_rRising.l0]) ?_
    exact evn (by simp [ic]) (Ev.now _)
  · have := List.length_pos_iff.2 h
    exact rising_loop l hl hr (l.length - 1) 0 (by omega)
theorem hlist_rise (b m : Nat) : ∀ i, i + 1 < (hlist b m).length → (hlist b m).getD i 0 < (hlist b m).getD (i + 1) 0 := by
  induction m with
  | zero => intro i h; simp [hlist] at h
  | succ m ih =>
    intro i h
    simp only [hlist] at h ⊢
    by_cases hh : hap b (m + 1) = true
    · rw [if_pos hh] at h ⊢
      rw [List.length_append, List.length_singleton] at h
      by_cases e : i + 1 < (hlist b m).length
      · have := ih i e
        simp only [List.getD_eq_getElem?_getD] at this ⊢
        rw [List.getElem?_append_left (by omega), List.getElem?_append_left e]
        exact this
      · have e2 : i + 1 = (hlist b m).length := by omega
        have h3 : (hlist b m).getD i 0 ≤ m := by
          refine (hlist_le b m).2 _ ?_
          rw [List.getD_eq_getElem?_getD, List.getElem?_eq_getElem (show i < (hlist b m).length by omega)]
          exact List.getElem_mem _
        simp only [List.getD_eq_getElem?_getD] at h3 ⊢
        rw [List.getElem?_append_left (show i < (hlist b m).length by omega), List.getElem?_append_right (by omega), e2, Nat.sub_self]
        simp
        omega
    · rw [if_neg hh] at h ⊢
      exact ih i h
noncomputable def ihR (a b : Int) : Bool × Bool := if (0 ≤ a ∧ a ≤ 1000000000000) ∧ 2 ≤ b ∧ b ≤ 16 then (hap b.toNat a.toNat, true) else (false, false)
theorem impl_ih_ev (a b : Int) : Ev (fun k => impl_IsHappy.f k a b) (ihR a b) := by
  unfold impl_IsHappy.f ihR
  refine evc (impl_isNumber_eq a b) ?_
  by_cases h : (0 ≤ a ∧ a ≤ 1000000000000) ∧ 2 ≤ b ∧ b ≤ 16
  · rw [if_pos h]
    obtain ⟨a, rfl⟩ := natOf h.1.1
    obtain ⟨b, rfl⟩ := natOf (a := b) (by omega)
    exact evp (decide_eq_true h) (evb (impl_isHappy_ev b a (by omega) (by omega) (by omega)) (Ev.now _))
  · rw [if_neg h]
    exact evn (by rw [decide_eq_false h]; simp) (Ev.now _)
theorem spec_ih_ev (a b : Int) : Ev (fun k => spec_IsHappy.f k a b) (ihR a b) := by
  unfold spec_IsHappy.f ihR
  refine evc (spec_dgAsked_eq a b) ?_
  by_cases h : (0 ≤ a ∧ a ≤ 1000000000000) ∧ 2 ≤ b ∧ b ≤ 16
  · rw [if_pos h]
    obtain ⟨a, rfl⟩ := natOf h.1.1
    obtain ⟨b, rfl⟩ := natOf (a := b) (by omega)
    exact evp (decide_eq_true h) (evb (spec_pwHappy_ev b a (by omega) (by omega) (by omega)) (Ev.now _))
  · rw [if_neg h]
    exact evn (by rw [decide_eq_false h]; simp) (Ev.now _)
theorem drawIs_ok (l : List Int) (hl : ∀ x ∈ l, 0 ≤ x ∧ x ≤ 255) : ∃ n b : Int, Ev (fun k => spec_DrawIsHappy.f k l) (n, b) := by
  obtain ⟨v, p, s, e, _, _⟩ := number_ok l hl 0 0 (by omega) (by omega)
  obtain ⟨b, p2, s2, e2, _, _⟩ := base_ok l hl p s (by omega) (by omega)
  refine ⟨v, b, ?_⟩
  unfold spec_DrawIsHappy.f
  refine evb (a := (v, b)) ?_ (Ev.now _)
  unfold spec_DrawDigitsOf.f
  exact evb e (evc e2 (Ev.now _))
theorem j4_ok (l : List Int) (hl : ∀ x ∈ l, 0 ≤ x ∧ x ≤ 255) : Ev (fun k => laws_FnHappyCounted.j4 k l) true := by
  obtain ⟨a, p1, s1, e1, _, _, _⟩ := among_ok l hl 0 0 [0, 1, 10, 100, 500, 2000, 2001, (-1)] (by simp) (by simp) (by omega) (by omega)
  obtain ⟨b, p2, s2, e2, _, _⟩ := base_ok l hl p1 s1 (by omega) (by omega)
  have ed : spec_DrawHappyUpTo.f l = some (a, b) := by
    unfold spec_DrawHappyUpTo.f
    rw [e1, Option.bind_some, e2]
    rfl
  obtain ⟨x, c, e3⟩ := drawIs_ok l hl
  refine evs (fun k => by rw [laws_FnHappyCounted.j4]) ?_
  refine evc ed (evb (impl_hu_ev a b) (evb (spec_hu_ev a b) (evb e3 (evb (impl_ih_ev x c) (evb (spec_ih_ev x c) ?_)))))
  have hlen : (huR a b).1.length ≤ 1000000 := by
    unfold huR
    split
    · rw [ic_length]
      have := (hlist_le b.toNat a.toNat).1
      omega
    · simp
  have hris : Ev (fun k => laws_rRising.f k (huR a b).1) true := by
    unfold huR
    split
    · have := (hlist_le b.toNat a.toNat).1
      exact rising_ev _ (by omega) (hlist_rise _ _)
    · exact rising_ev [] (by simp) (by simp)
  refine evn (by simp) (evb (laws_rSame_self _ (by omega)) (evp rfl (evn (by simp) (evn (by simp) (evb hris ?_)))))
  refine evs (fun k => by rw [laws_FnHappyCounted.j5]) ?_
  refine evn (by simp) ?_
  unfold ihR
  by_cases h : (0 ≤ x ∧ x ≤ 1000000000000) ∧ 2 ≤ c ∧ c ≤ 16
  · rw [if_pos h]
    obtain ⟨x, rfl⟩ := natOf h.1.1
    obtain ⟨c, rfl⟩ := natOf (a := c) (by omega)
    have hps := psum_bound (b := c) (p := 2) (by omega) (by omega) (by omega) x (by omega)
    have hP : Ev (fun k => impl_PowerSum.f k (x : Int) (c : Int) 2) (((psum c 2 x : Nat) : Int), true) := by
      unfold impl_PowerSum.f
      refine evc (impl_isNumber_eq _ _) (evp (decide_eq_true h) (evc (a := true) ?_ (evp rfl (evb (impl_powerSum_ev c 2 x (by omega) (by omega) (by omega) (by omega) (by omega)) (Ev.now _)))))
      simp only [impl_isPower.f, impl_in_eq, Option.bind_some]
      rfl
    have e5 : ihR ((psum c 2 x : Nat) : Int) (c : Int) = (hap c (psum c 2 x), true) := by
      unfold ihR
      rw [if_pos (show (0 ≤ ((psum c 2 x : Nat) : Int) ∧ ((psum c 2 x : Nat) : Int) ≤ 1000000000000) ∧ 2 ≤ (c : Int) ∧ (c : Int) ≤ 16 by omega)]
      simp only [Int.toNat_natCast]
    have hI := impl_ih_ev ((psum c 2 x : Nat) : Int) (c : Int)
    rw [e5] at hI
    refine evp rfl (evb hP (evb hI (evp rfl (evp rfl (evr ?_)))))
    rw [hap_step (by omega)]
    simp
  · rw [if_neg h]
    exact evn (by simp) (Ev.now _)

theorem law_l0 (l1 : List Int) (b N : Nat) (hb : 2 ≤ b) (hb2 : b ≤ 10) (hN : N ≤ 12) (R : List Nat) (cnt : Nat) (hn : Ev (fun k => laws_FnHappyCounted.l1 k l1 (N : Int) (b : Int) (cnt : Int) (ic R) ((b ^ N : Nat) : Int) 0 (ic R) (R.length : Int) 0) true) (r : Nat) : ∀ i : Nat, i + r = N →
    Ev (fun k => laws_FnHappyCounted.l0 k l1 (N : Int) (b : Int) (cnt : Int) (ic R) ((b ^ i : Nat) : Int) 0 (i : Int)) true := by
  induction r with
  | zero =>
    intro i hi
    have : i = N := by omega
    subst this
    refine evs (fun k => by rw [laws_FnHappyCounted.l0]) ?_
    rw [ic_length]
    exact evn (by omega) hn
  | succ r ih =>
    intro i hi
    have h1 := ih (i + 1) (by omega)
    have h2 := sp_bound b (i + 1) hb2 (by omega)
    rw [show ((i + 1 : Nat) : Int) = (i : Int) + 1 by omega] at h1
    refine evs (fun k => by rw [laws_FnHappyCounted.l0]) ?_
    rw [show ((b ^ i : Nat) : Int) * (b : Int) = ((b ^ (i + 1) : Nat) : Int) by rw [Nat.pow_succ, Int.natCast_mul], w64n _ (by omega), w64 (x := (i : Int) + 1) (by omega) (by omega)]
    exact evp (by omega) h1
theorem law_l1 (l1 : List Int) (hl1 : ∀ x ∈ l1, 0 ≤ x ∧ x ≤ 255) (b N : Nat) (hb : 2 ≤ b) (hb2 : b ≤ 10) (hN : N ≤ 12) (R : List Nat) (hR : Spread b N R) (hlen : R.length = N * ((b - 1) * (b - 1)) + 1) (r : Nat) : ∀ i : Nat, i + r = R.length →
    Ev (fun k => laws_FnHappyCounted.l1 k l1 (N : Int) (b : Int) ((csum b R R.length : Nat) : Int) (ic R) ((b ^ N : Nat) : Int) ((csum b R i : Nat) : Int) (ic R) (R.length : Int) (i : Int)) true := by
  have hall := hR.all
  have hbp := sp_bound b N hb2 hN
  have hc : (b - 1) * (b - 1) ≤ 9 * 9 := Nat.mul_le_mul (by omega) (by omega)
  have hkc : N * ((b - 1) * (b - 1)) ≤ 12 * 81 := Nat.mul_le_mul hN (by omega)
  have hkb : N * (b - 1) ≤ 12 * 9 := Nat.mul_le_mul hN (by omega)
  have hR1 : R.length ≤ 1000 := by omega
  induction r with
  | zero =>
    intro i hi
    have : i = R.length := by omega
    subst this
    refine evs (fun k => by rw [laws_FnHappyCounted.l1]) ?_
    have hs : Ev (fun k => laws_rSum.f k (ic R)) ((b ^ N : Nat) : Int) := by
      have h := laws_rSum_all R (by omega) (by rw [← lsum_wsum R 0, hall]; omega)
      rw [← lsum_wsum R 0, hall] at h
      unfold laws_rSum.f
      exact h
    refine evn (by omega) (evb hs (evp rfl (evp rfl ?_)))
    have e : wrap64 ((wrap64 ((wrap64 ((N : Int) * (wrap64 ((b : Int) - 1)))) * (wrap64 ((b : Int) - 1)))) + 1) = ((N * ((b - 1) * (b - 1)) + 1 : Nat) : Int) := by
      rw [w64 (x := (b : Int) - 1) (by omega) (by omega), show (b : Int) - 1 = ((b - 1 : Nat) : Int) by omega, ← Int.natCast_mul, w64n _ (by omega), ← Int.natCast_mul, Nat.mul_assoc]
      generalize N * ((b - 1) * (b - 1)) = C at hkc
      rw [w64n _ (by omega), show (C : Int) + 1 = ((C + 1 : Nat) : Int) by omega, w64n _ (by omega)]
    rw [e, ic_length, hlen]
    refine evs (fun k => by rw [laws_FnHappyCounted.j3]) (evn (by simp) ?_)
    by_cases h : b ^ N ≤ 2001
    · have hp : 1 ≤ b ^ N := Nat.pow_pos (by omega)
      have hu := impl_hu_ev (((b ^ N : Nat) : Int) - 1) (b : Int)
      have e6 : huR (((b ^ N : Nat) : Int) - 1) (b : Int) = (ic (hlist b (b ^ N - 1)), true) := by
        unfold huR
        generalize b ^ N = B at hp h
        rw [if_pos (show (0 ≤ (B : Int) - 1 ∧ (B : Int) - 1 ≤ 2000) ∧ 2 ≤ (b : Int) ∧ (b : Int) ≤ 16 by omega), Int.toNat_natCast, show ((B : Int) - 1).toNat = B - 1 by omega]
      rw [e6] at hu
      have hcount : (hlist b (b ^ N - 1)).length = csum b R R.length := by
        rw [hlist_len, show b ^ N - 1 + 1 = b ^ N by omega]
        unfold csum
        rw [List.take_length, hR]
        exact sumTo_congr _ (fun x _ => by rw [hap_step hb])
      rw [← hlen]
      generalize b ^ N = B at hp h hu hcount hbp
      rw [w64 (x := (B : Int) - 1) (by omega) (by omega)]
      refine evp (by omega) (evb hu (evp rfl (evp ?_ (j4_ok l1 hl1))))
      rw [ic_length, hcount]
    · generalize b ^ N = B at h
      exact evn (by omega) (j4_ok l1 hl1)
  | succ r ih =>
    intro i hi
    have h1 := ih (i + 1) (by omega)
    have hcs := csum_succ b R i (by omega)
    have hb1 := csum_le b R (i + 1)
    rw [show ((i + 1 : Nat) : Int) = (i : Int) + 1 by omega] at h1
    have hI := impl_ih_ev (i : Int) (b : Int)
    have e5 : ihR (i : Int) (b : Int) = (hap b i, true) := by
      unfold ihR
      rw [if_pos (show (0 ≤ (i : Int) ∧ (i : Int) ≤ 1000000000000) ∧ 2 ≤ (b : Int) ∧ (b : Int) ≤ 16 by omega), Int.toNat_natCast, Int.toNat_natCast]
    rw [e5] at hI
    refine evs (fun k => by rw [laws_FnHappyCounted.l1]) ?_
    rw [rdD, ic_length, w64 (x := (i : Int) + 1) (by omega) (by omega)]
    refine evp (by omega) (evp (by omega) (evp (by omega) (evb hI (evp rfl ?_))))
    by_cases hh : hap b i = true
    · rw [if_pos hh] at hcs
      rw [hcs] at h1 hb1
      rw [show ((csum b R i : Nat) : Int) + ((R.getD i 0 : Nat) : Int) = ((csum b R i + R.getD i 0 : Nat) : Int) by omega, w64n _ (by omega)]
      exact evp hh h1
    · rw [if_neg hh, Nat.add_zero] at hcs
      rw [hcs] at h1
      exact evn hh h1
theorem FnHappyCounted : laws_FnHappyCounted.Pure := by
  intro l0 l1 _ _ w0 _ _ w1
  have hb : ∀ l : List Int, (∀ x ∈ l, (Lit.int .u8 x).wf = true) → ∀ x ∈ l, 0 ≤ x ∧ x ≤ 255 := by
    intro l h x hx
    have := h x hx
    simpa [Lit.wf, IntKind.min, IntKind.max, IntKind.signed, IntKind.bits] using this
  have hl0 := hb l0 w0
  have hl1 := hb l1 w1
  refine Ev.rounds (g := fun k => laws_FnHappyCounted.f k l0 l1) ?_
  unfold laws_FnHappyCounted.f
  obtain ⟨t, ht⟩ : ∃ t, laws_big.f l0 l1 = some t := by
    unfold laws_big.f
    split <;> exact ⟨_, rfl⟩
  refine evc ht ?_
  cases t with
  | true => exact evp rfl (Ev.now _)
  | false =>
    refine evn (by simp) ?_
    obtain ⟨n, p1, s1, e1, _, _, _⟩ := among_ok l0 hl0 0 0 [0, 1, 2, 3, 5, 9, 12, 13, (-1)] (by simp) (by simp) (by omega) (by omega)
    obtain ⟨b, p2, s2, e2, _, _, _⟩ := among_ok l0 hl0 p1 s1 [10, 10, 2, 3, 5, 8, 11, 1] (by simp) (by simp) (by omega) (by omega)
    have ed : spec_DrawCountHappy.f l0 = some (n, b) := by
      unfold spec_DrawCountHappy.f
      rw [e1, Option.bind_some, e2]
      rfl
    refine evc ed ?_
    have sB : impl_isSmallBase.f b = some (decide (2 ≤ b ∧ b ≤ 10)) := by simp only [impl_isSmallBase.f, impl_in_eq, Option.bind_some]
    by_cases h : (0 ≤ n ∧ n ≤ 12) ∧ 2 ≤ b ∧ b ≤ 10
    · obtain ⟨n, rfl⟩ := natOf h.1.1
      obtain ⟨b, rfl⟩ := natOf (a := b) (by omega)
      have hb2 : 2 ≤ b := by omega
      have hb10 : b ≤ 10 := by omega
      have hn : n ≤ 12 := by omega
      have hc : (b - 1) * (b - 1) ≤ 9 * 9 := Nat.mul_le_mul (by omega) (by omega)
      have hkc : n * ((b - 1) * (b - 1)) ≤ 12 * 81 := Nat.mul_le_mul hn (by omega)
      obtain ⟨R, r1, r2, r3⟩ := impl_spread_ev b n hb2 hb10 hn
      obtain ⟨S, q1, q2, q3⟩ := spec_spread_ev b n hb2 hb10 hn
      obtain rfl : R = S := wsum_ext R S (by omega) (fun F => by rw [r2 F, q2 F])
      have hw : wsum (fun _ => 1) R 0 ≤ 1000000000000 := by rw [r2.all]; exact sp_bound b n hb10 hn
      have hR1 : R.length ≤ 1000 := by omega
      have hc0 : csum b R 0 = 0 := rfl
      have sA : spec_pwSpreadAsked.f (n : Int) (b : Int) = some true := by
        unfold spec_pwSpreadAsked.f
        rw [spec_l1In_eq, Option.bind_some, decide_eq_true (by omega), if_pos rfl, spec_l1In_eq, Option.bind_some, decide_eq_true (by omega)]
      have iC : Ev (fun k => impl_CountHappy.f k (n : Int) (b : Int)) (((csum b R R.length : Nat) : Int), true) := by
        unfold impl_CountHappy.f
        refine evc sB (evp (decide_eq_true h.2) (evc (impl_in_eq _ 0 12) ?_))
        rw [decide_eq_true (show (0 : Int) ≤ (n : Int) ∧ (n : Int) ≤ 12 by omega)]
        refine evs (fun k => by rw [impl_CountHappy.j0]) ?_
        refine evn (by simp) (evb r1 ?_)
        rw [ic_length]
        exact impl_count_loop b hb2 (by omega) R hR1 hw R.length 0 (by omega)
      have sC : Ev (fun k => spec_CountHappy.f k (n : Int) (b : Int)) (((csum b R R.length : Nat) : Int), true) := by
        unfold spec_CountHappy.f
        refine evc sA (evp rfl (evb q1 ?_))
        rw [ic_length]
        exact spec_count_loop b hb2 (by omega) R hR1 hw R.length 0 (by omega)
      have iS : Ev (fun k => impl_SumsSpread.f k (n : Int) (b : Int)) (ic R, true) := by
        unfold impl_SumsSpread.f
        exact evc sB (evp (decide_eq_true h.2) (evc (impl_in_eq _ 0 12) (evp (decide_eq_true (by omega)) (evb r1 (Ev.now _)))))
      have sS : Ev (fun k => spec_SumsSpread.f k (n : Int) (b : Int)) (ic R, true) := by
        unfold spec_SumsSpread.f
        exact evc sA (evp rfl (evb q1 (Ev.now _)))
      refine evb iC (evb sC (evb iS (evb sS ?_)))
      refine evn (by simp) (evp rfl (evn (by simp) (evb (laws_rSame_self _ (by rw [ic_length]; omega)) (evp rfl ?_))))
      refine evs (fun k => by rw [laws_FnHappyCounted.j0]) ?_
      refine evn (by simp) (evp rfl ?_)
      have hl := law_l1 l1 hl1 b n hb2 hb10 hn R r2 r3 R.length 0 (by omega)
      have := law_l0 l1 b n hb2 hb10 hn R (csum b R R.length) hl n 0 (by omega)
      simpa using this
    · have sA : spec_pwSpreadAsked.f n b = some false := by
        unfold spec_pwSpreadAsked.f
        rw [spec_l1In_eq, Option.bind_some]
        by_cases hn : 0 ≤ n ∧ n ≤ 12
        · rw [decide_eq_true hn, if_pos rfl, spec_l1In_eq, Option.bind_some, decide_eq_false (fun hb => h ⟨hn, hb⟩)]
        · rw [decide_eq_false hn, if_neg (by simp)]
      have iC : Ev (fun k => impl_CountHappy.f k n b) (0, false) := by
        unfold impl_CountHappy.f
        refine evc sB ?_
        by_cases hbb : 2 ≤ b ∧ b ≤ 10
        · refine evp (decide_eq_true hbb) (evc (impl_in_eq _ 0 12) ?_)
          rw [decide_eq_false (fun hn => h ⟨hn, hbb⟩)]
          refine evs (fun k => by rw [impl_CountHappy.j0]) ?_
          exact evp rfl (Ev.now _)
        · refine evn (by rw [decide_eq_false hbb]; simp) ?_
          refine evs (fun k => by rw [impl_CountHappy.j0]) ?_
          exact evp rfl (Ev.now _)
      have sC : Ev (fun k => spec_CountHappy.f k n b) (0, false) := by
        unfold spec_CountHappy.f
        exact evc sA (evn (by simp) (Ev.now _))
      have iS : Ev (fun k => impl_SumsSpread.f k n b) ([], false) := by
        unfold impl_SumsSpread.f
        refine evc sB ?_
        by_cases hbb : 2 ≤ b ∧ b ≤ 10
        · exact evp (decide_eq_true hbb) (evc (impl_in_eq _ 0 12) (evn (by rw [decide_eq_false (fun hn => h ⟨hn, hbb⟩)]; simp) (Ev.now _)))
        · exact evn (by rw [decide_eq_false hbb]; simp) (Ev.now _)
      have sS : Ev (fun k => spec_SumsSpread.f k n b) ([], false) := by
        unfold spec_SumsSpread.f
        exact evc sA (evn (by simp) (Ev.now _))
      refine evb iC (evb sC (evb iS (evb sS ?_)))
      refine evn (by simp) (evp rfl (evn (by simp) (evb (laws_rSame_self _ (by simp)) (evp rfl ?_))))
      refine evs (fun k => by rw [laws_FnHappyCounted.j0]) ?_
      exact evn (by simp) (evn (by simp) (j4_ok l1 hl1))

end Go.Proofs.Ytikkpehjleoplaa.Pure
