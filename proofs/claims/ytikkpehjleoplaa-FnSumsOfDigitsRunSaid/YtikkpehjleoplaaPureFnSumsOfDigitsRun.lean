/- For all codes: sum runs end at what remainders tell; least numbers of a sum persistence have it, and none before. -/
import Derived.Test.YtikkpehjleoplaaPFnSumsOfDigitsRunx6
import Derived.Test.YtikkpehjleoplaaWMore
set_option linter.unusedVariables false
set_option linter.unusedSimpArgs false
namespace Go.Proofs.Ytikkpehjleoplaa.Pure
open Go.RowKit Go.Proofs.Ytikkpehjleoplaa.PFnSumsOfDigitsRun Go.Proofs.YtikkpehjleoplaaW.PrintWords Go.Proofs.YtikkpehjleoplaaW.PrintLast

theorem w64 {x : Int} (h1 : -9223372036854775808 ≤ x) (h2 : x ≤ 9223372036854775807) : wrap64 x = x := by unfold wrap64; omega

theorem w64n (n : Nat) (h : n ≤ 9223372036854775807) : wrap64 (n : Int) = (n : Int) := w64 (by omega) (by omega)

theorem evp {α : Type} {c : Prop} [Decidable c] {a b : Nat → Option α} {r : α} (h : c) (k : Ev a r) : Ev (fun n => if c then a n else b n) r := Ev.congr (fun _ => if_pos h) k
theorem evn {α : Type} {c : Prop} [Decidable c] {a b : Nat → Option α} {r : α} (h : ¬ c) (k : Ev b r) : Ev (fun n => if c then a n else b n) r := Ev.congr (fun _ => if_neg h) k
theorem evr {α : Type} {x r : α} (h : x = r) : Ev (fun _ => some x) r := h ▸ Ev.now x
theorem evb {α β : Type} {g : Nat → Option α} {f : Nat → α → Option β} {a : α} {r : β} (h : Ev g a) (k : Ev (fun n => f n a) r) : Ev (fun n => (g n).bind fun x => f n x) r := Ev.bind h k
theorem evc {α β : Type} {x : Option α} {a : α} {f : Nat → α → Option β} {r : β} (h : x = some a) (k : Ev (fun n => f n a) r) : Ev (fun n => x.bind fun y => f n y) r := by subst h; exact k
theorem evs {α : Type} {g f : Nat → Option α} {r : α} (h : ∀ k, g (k + 1) = f k) (k : Ev f r) : Ev g r := Ev.step h k
theorem rd_mid (pre post : List Int) (x : Int) : rd (pre ++ x :: post) (pre.length : Int) = x := by simp [rd]
theorem set_mid {α : Type} (pre post : List α) (x y : α) : (pre ++ x :: post).set pre.length y = pre ++ y :: post := by simp
theorem rd_get (xs : List Int) (i : Nat) (h : i < xs.length) : rd xs (i : Int) = xs[i] := by simp [rd, h]
theorem rd_mem (xs : List Int) (i : Int) (h0 : 0 ≤ i) (h : i < xs.length) : rd xs i ∈ xs := by
  have hi : i.toNat < xs.length := by omega
  simp only [rd, List.getD_eq_getElem?_getD, List.getElem?_eq_getElem hi, Option.getD_some]
  exact List.getElem_mem hi
def ic (l : List Nat) : List Int := l.map (fun x : Nat => (x : Int))
theorem ic_cons (x : Nat) (l : List Nat) : ic (x :: l) = (x : Int) :: ic l := rfl
theorem ic_append (l m : List Nat) : ic (l ++ m) = ic l ++ ic m := by simp [ic]
theorem ic_length (l : List Nat) : (ic l).length = l.length := by simp [ic]
def lsd (b : Nat) : Nat → Nat → List Nat
  | 0, _ => []
  | f + 1, n => if n = 0 then [] else n % b :: lsd b f (n / b)
theorem lsd_zero (b f : Nat) : lsd b f 0 = [] := by cases f <;> simp [lsd]
theorem lsd_fuel {b : Nat} (hb : 2 ≤ b) (n : Nat) : ∀ f g : Nat, n ≤ f → n ≤ g → lsd b f n = lsd b g n := by
  induction n using Nat.strongRecOn with
  | _ n ih =>
    intro f g hf hg
    by_cases h : n = 0
    · subst h
      rw [lsd_zero, lsd_zero]
    · obtain ⟨f, rfl⟩ : ∃ x, f = x + 1 := ⟨f - 1, by omega⟩
      obtain ⟨g, rfl⟩ : ∃ x, g = x + 1 := ⟨g - 1, by omega⟩
      have hlt : n / b < n := Nat.div_lt_self (by omega) (by omega)
      simp only [lsd, if_neg h]
      rw [ih (n / b) hlt f g (by omega) (by omega)]
def low (b n : Nat) : List Nat := lsd b n n
theorem low_zero (b : Nat) : low b 0 = [] := rfl
theorem low_succ {b n : Nat} (hb : 2 ≤ b) (hn : 1 ≤ n) : low b n = n % b :: low b (n / b) := by
  obtain ⟨m, rfl⟩ : ∃ x, n = x + 1 := ⟨n - 1, by omega⟩
  have hlt : (m + 1) / b < m + 1 := Nat.div_lt_self (by omega) (by omega)
  show lsd b (m + 1) (m + 1) = _
  simp only [lsd]
  rw [if_neg (by omega)]
  show _ = _ :: lsd b _ _
  rw [lsd_fuel hb ((m + 1) / b) m ((m + 1) / b) (by omega) (Nat.le_refl _)]
def dgl (b n : Nat) : List Nat := if n = 0 then [0] else (low b n).reverse
def val (b : Nat) (v : Nat) : List Nat → Nat
  | [] => v
  | d :: l => val b (v * b + d) l
theorem val_append (b v : Nat) (l m : List Nat) : val b v (l ++ m) = val b (val b v l) m := by
  induction l generalizing v with
  | nil => rfl
  | cons d l ih => exact ih _
theorem val_ge {b : Nat} (hb : 1 ≤ b) (l : List Nat) : ∀ v : Nat, v ≤ val b v l := by
  induction l with
  | nil => intro v; exact Nat.le_refl _
  | cons d l ih =>
    intro v
    have h := ih (v * b + d)
    have h2 : v * 1 ≤ v * b := Nat.mul_le_mul_left _ hb
    simp only [val]
    omega
theorem low_lt {b : Nat} (hb : 2 ≤ b) (n : Nat) : ∀ d ∈ low b n, d < b := by
  induction n using Nat.strongRecOn with
  | _ n ih =>
    by_cases h : n = 0
    · subst h
      simp [low_zero]
    · have hlt : n / b < n := Nat.div_lt_self (by omega) (by omega)
      rw [low_succ hb (by omega)]
      intro d hd
      rcases List.mem_cons.1 hd with rfl | hd
      · exact Nat.mod_lt _ (by omega)
      · exact ih _ hlt d hd
theorem low_val {b : Nat} (hb : 2 ≤ b) (n : Nat) : val b 0 (low b n).reverse = n := by
  induction n using Nat.strongRecOn with
  | _ n ih =>
    by_cases h : n = 0
    · subst h
      rfl
    · have hlt : n / b < n := Nat.div_lt_self (by omega) (by omega)
      rw [low_succ hb (by omega), List.reverse_cons, val_append, ih _ hlt]
      simp only [val]
      have := Nat.div_add_mod n b
      rw [Nat.mul_comm (n / b) b]
      omega
theorem dgl_val {b : Nat} (hb : 2 ≤ b) (n : Nat) : val b 0 (dgl b n) = n := by
  unfold dgl
  by_cases h : n = 0
  · subst h
    rw [if_pos rfl]
    simp [val]
  · rw [if_neg h, low_val hb]
theorem dgl_lt {b : Nat} (hb : 2 ≤ b) (n : Nat) : ∀ d ∈ dgl b n, d < b := by
  unfold dgl
  by_cases h : n = 0
  · subst h
    rw [if_pos rfl]
    intro d hd
    rw [List.mem_singleton.1 hd]
    omega
  · rw [if_neg h]
    intro d hd
    exact low_lt hb n d (List.mem_reverse.1 hd)
theorem low_len {b : Nat} (hb : 2 ≤ b) (k : Nat) : ∀ n : Nat, n < 2 ^ k → (low b n).length ≤ k := by
  induction k with
  | zero =>
    intro n hn
    have : n = 0 := by rw [Nat.pow_zero] at hn; omega
    subst this
    simp [low_zero]
  | succ k ih =>
    intro n hn
    by_cases h : n = 0
    · subst h
      simp [low_zero]
    · rw [low_succ hb (by omega), List.length_cons]
      have h2 : n / b < 2 ^ k := by
        refine Nat.div_lt_of_lt_mul ?_
        rw [Nat.pow_succ] at hn
        have : 2 * 2 ^ k ≤ b * 2 ^ k := Nat.mul_le_mul_right _ hb
        omega
      have := ih _ h2
      omega
theorem dgl_len1 {b : Nat} (hb : 2 ≤ b) (n : Nat) (hn : n ≤ 1000000000001) : 1 ≤ (dgl b n).length ∧ (dgl b n).length ≤ 40 := by
  unfold dgl
  by_cases h : n = 0
  · subst h
    rw [if_pos rfl]
    simp
  · rw [if_neg h, List.length_reverse]
    refine ⟨?_, low_len hb 40 n (by omega)⟩
    rw [low_succ hb (by omega), List.length_cons]
    omega
theorem dgl_len {b : Nat} (hb : 2 ≤ b) (n : Nat) (hn : n ≤ 1000000000000) : 1 ≤ (dgl b n).length ∧ (dgl b n).length ≤ 40 := dgl_len1 hb n (by omega)
def lsum : List Nat → Nat
  | [] => 0
  | d :: l => d + lsum l
def dsum (b n : Nat) : Nat := lsum (dgl b n)
theorem lsum_zero (l : List Nat) (b : Nat) (h : lsum l = 0) : val b 0 l = 0 := by
  induction l with
  | nil => rfl
  | cons d l ih =>
    simp only [lsum] at h
    have hd : d = 0 := by omega
    subst hd
    simp only [val, Nat.zero_mul, Nat.add_zero]
    exact ih (by omega)
theorem dsum_pos {b : Nat} (hb : 2 ≤ b) (n : Nat) (hn : 1 ≤ n) : 1 ≤ dsum b n := by
  have h := dgl_val hb n
  have h2 := lsum_zero (dgl b n) b
  unfold dsum
  by_cases h3 : lsum (dgl b n) = 0
  · have := h2 h3
    omega
  · omega
theorem lsum_le {b : Nat} (hb : 1 ≤ b) (l : List Nat) : ∀ v : Nat, v + lsum l ≤ val b v l := by
  induction l with
  | nil => intro v; simp [lsum, val]
  | cons d l ih =>
    intro v
    have h := ih (v * b + d)
    have h2 : v * 1 ≤ v * b := Nat.mul_le_mul_left _ hb
    simp only [lsum, val]
    omega
theorem dsum_le {b : Nat} (hb : 2 ≤ b) (n : Nat) : dsum b n ≤ n := by
  have h := lsum_le (b := b) (by omega) (dgl b n) 0
  rw [dgl_val hb] at h
  unfold dsum
  omega
theorem ic_reverse (l : List Nat) : ic l.reverse = (ic l).reverse := by simp [ic]
theorem ic_rd (pre post : List Nat) (x : Nat) : rd (ic (pre ++ x :: post)) (pre.length : Int) = (x : Int) := by
  rw [ic_append, ic_cons, show ((pre.length : Nat) : Int) = (((ic pre).length : Nat) : Int) by simp [ic], rd_mid]

def lw (b s : Nat) : Nat := (s % (b - 1) + 1) * b ^ (s / (b - 1))
theorem lw_pow_pos {b : Nat} (hb : 2 ≤ b) (q : Nat) : 1 ≤ b ^ q := Nat.pow_pos (by omega)
theorem lw_split {b : Nat} (hb : 2 ≤ b) (q r : Nat) (hr : r < b - 1) : lw b (q * (b - 1) + r) = (r + 1) * b ^ q := by
  unfold lw
  have h1 : (q * (b - 1) + r) % (b - 1) = r := by rw [Nat.mul_comm, Nat.mul_add_mod, Nat.mod_eq_of_lt hr]
  have h2 : (q * (b - 1) + r) / (b - 1) = q := by rw [Nat.mul_comm, Nat.mul_add_div (by omega), Nat.div_eq_of_lt hr]; omega
  rw [h1, h2]
theorem lw_of {b : Nat} (hb : 2 ≤ b) (s : Nat) : ∃ q r, r < b - 1 ∧ s = q * (b - 1) + r := ⟨s / (b - 1), s % (b - 1), Nat.mod_lt _ (by omega), by rw [Nat.mul_comm]; exact (Nat.div_add_mod s (b - 1)).symm⟩
theorem lw_succ {b : Nat} (hb : 2 ≤ b) (s : Nat) : lw b s ≤ lw b (s + 1) := by
  obtain ⟨q, r, hr, rfl⟩ := lw_of hb s
  rw [lw_split hb q r hr]
  by_cases h : r + 1 < b - 1
  · rw [Nat.add_assoc, lw_split hb q (r + 1) h]
    exact Nat.mul_le_mul_right _ (by omega)
  · have e : q * (b - 1) + r + 1 = (q + 1) * (b - 1) + 0 := by rw [Nat.succ_mul]; omega
    rw [e, lw_split hb (q + 1) 0 (by omega), Nat.pow_succ, Nat.mul_comm (b ^ q) b, Nat.zero_add, Nat.one_mul]
    exact Nat.mul_le_mul_right _ (by omega)
theorem lw_mono {b : Nat} (hb : 2 ≤ b) {s t : Nat} (h : s ≤ t) : lw b s ≤ lw b t := by
  induction t with
  | zero => have : s = 0 := by omega
            subst this; exact Nat.le_refl _
  | succ t ih =>
    by_cases h2 : s = t + 1
    · subst h2; exact Nat.le_refl _
    · exact Nat.le_trans (ih (by omega)) (lw_succ hb t)
theorem lw_digit {b : Nat} (hb : 2 ≤ b) (s d v : Nat) (hd : d < b) (hv : lw b s ≤ v + 1) : lw b (s + d) ≤ v * b + d + 1 := by
  obtain ⟨q, r, hr, rfl⟩ := lw_of hb s
  rw [lw_split hb q r hr] at hv
  obtain ⟨c, rfl⟩ : ∃ c, b = c + 1 := ⟨b - 1, by omega⟩
  simp only [Nat.add_sub_cancel] at hr ⊢
  have hp := lw_pow_pos hb q
  generalize hP : (c + 1) ^ q = P at *
  have hv2 : (r + 1) * P * (c + 1) ≤ (v + 1) * (c + 1) := Nat.mul_le_mul_right _ hv
  have e1 : (v + 1) * (c + 1) = v * (c + 1) + (c + 1) := by rw [Nat.add_mul]; omega
  by_cases h : r + d < c
  · have e := lw_split hb q (r + d) (by simpa using h)
    simp only [Nat.add_sub_cancel] at e
    rw [Nat.add_assoc, e, hP]
    -- (r+d+1) P + (c - d) ≤ (r+1) P (c+1)
    have h3 : (r + d + 1) * P + (c - d) * P ≤ (r + 1) * P * (c + 1) := by
      rw [← Nat.add_mul, Nat.mul_assoc, Nat.mul_comm P, ← Nat.mul_assoc]
      refine Nat.mul_le_mul_right _ ?_
      have : (r + 1) * (c + 1) = r * c + r + c + 1 := by rw [Nat.add_mul, Nat.mul_add]; omega
      have h5 : r * 0 ≤ r * c := Nat.mul_le_mul_left _ (Nat.zero_le _)
      omega
    have h4 : (c - d) * 1 ≤ (c - d) * P := Nat.mul_le_mul_left _ hp
    omega
  · have e0 : q * c + r + d = (q + 1) * c + (r + d - c) := by rw [Nat.succ_mul]; omega
    have hlt : r + d - c < c := by omega
    have e := lw_split hb (q + 1) (r + d - c) (by simpa using hlt)
    simp only [Nat.add_sub_cancel] at e
    rw [e0, e, Nat.pow_succ, hP]
    have h3 : (r + d - c + 1) * (P * (c + 1)) + (c - d) * (P * (c + 1)) = (r + 1) * (P * (c + 1)) := by
      rw [← Nat.add_mul]
      congr 1
      omega
    have hp2 : 1 ≤ P * (c + 1) := Nat.mul_pos hp (by omega)
    have h4 : (c - d) * 1 ≤ (c - d) * (P * (c + 1)) := Nat.mul_le_mul_left _ hp2
    rw [Nat.mul_assoc] at hv2
    omega
theorem lw_list {b : Nat} (hb : 2 ≤ b) (l : List Nat) : ∀ v s : Nat, (∀ d ∈ l, d < b) → lw b s ≤ v + 1 → lw b (s + lsum l) ≤ val b v l + 1 := by
  induction l with
  | nil => intro v s _ h; simpa [lsum, val] using h
  | cons d l ih =>
    intro v s hd h
    have h1 := lw_digit hb s d v (hd d (by simp)) h
    have h2 := ih (v * b + d) (s + d) (fun x hx => hd x (by simp [hx])) h1
    simp only [lsum, val]
    rw [← Nat.add_assoc]
    exact h2
theorem lw_zero (b : Nat) : lw b 0 = 1 := by simp [lw]
theorem lw_le {b : Nat} (hb : 2 ≤ b) (n : Nat) : lw b (dsum b n) ≤ n + 1 := by
  have h := lw_list hb (dgl b n) 0 0 (dgl_lt hb n) (by rw [lw_zero]; omega)
  rw [dgl_val hb, Nat.zero_add] at h
  exact h
theorem lw_le' {b : Nat} (hb : 2 ≤ b) (n a : Nat) (h : a ≤ dsum b n) : lw b a ≤ n + 1 := Nat.le_trans (lw_mono hb h) (lw_le hb n)
theorem lsum_append (l m : List Nat) : lsum (l ++ m) = lsum l + lsum m := by
  induction l with
  | nil => simp [lsum]
  | cons d l ih => simp only [List.cons_append, lsum, ih]; omega
theorem lsum_reverse (l : List Nat) : lsum l.reverse = lsum l := by
  induction l with
  | nil => rfl
  | cons d l ih => rw [List.reverse_cons, lsum_append, ih]; simp only [lsum]; omega
theorem dsum_low {b : Nat} (n : Nat) : dsum b n = lsum (low b n) := by
  unfold dsum dgl
  by_cases h : n = 0
  · subst h; rfl
  · rw [if_neg h, lsum_reverse]
theorem dsum_step {b : Nat} (hb : 2 ≤ b) (v d : Nat) (hd : d < b) : dsum b (v * b + d) = dsum b v + d := by
  by_cases h : v * b + d = 0
  · have hd0 : d = 0 := by omega
    have hv : v = 0 := by
      rcases Nat.mul_eq_zero.1 (show v * b = 0 by omega) with h | h <;> omega
    subst hd0 hv
    simp
  · rw [dsum_low, dsum_low, low_succ hb (by omega)]
    have e1 : (v * b + d) % b = d := by rw [Nat.mul_comm, Nat.mul_add_mod, Nat.mod_eq_of_lt hd]
    have e2 : (v * b + d) / b = v := by rw [Nat.mul_comm, Nat.mul_add_div (by omega), Nat.div_eq_of_lt hd]; omega
    rw [e1, e2]
    simp only [lsum]
    omega
theorem dsum_small {b : Nat} (hb : 2 ≤ b) (d : Nat) (hd : d < b) : dsum b d = d := by
  have h := dsum_step hb 0 d hd
  rw [Nat.zero_mul, Nat.zero_add] at h
  have h0 : dsum b 0 = 0 := by simp [dsum, dgl, lsum]
  omega
theorem dsum_nines {b : Nat} (hb : 2 ≤ b) (k : Nat) : ∀ v, dsum b (val b v (List.replicate k (b - 1))) = dsum b v + k * (b - 1) := by
  induction k with
  | zero => intro v; simp [val]
  | succ k ih =>
    intro v
    rw [List.replicate_succ]
    simp only [val]
    rw [ih, dsum_step hb v (b - 1) (by omega), Nat.succ_mul]
    omega
theorem val_nines {b : Nat} (hb : 2 ≤ b) (k : Nat) : ∀ v, val b v (List.replicate k (b - 1)) + 1 = (v + 1) * b ^ k := by
  induction k with
  | zero => intro v; simp [val]
  | succ k ih =>
    intro v
    rw [List.replicate_succ]
    simp only [val]
    rw [ih, Nat.pow_succ, Nat.mul_comm (b ^ k) b, ← Nat.mul_assoc]
    congr 1
    rw [Nat.add_mul]
    omega
def lsd_least (b a : Nat) : List Nat := a % (b - 1) :: List.replicate (a / (b - 1)) (b - 1)
theorem least_val {b : Nat} (hb : 2 ≤ b) (a : Nat) : val b 0 (lsd_least b a) + 1 = lw b a := by
  unfold lsd_least lw
  simp only [val]
  rw [Nat.zero_mul, Nat.zero_add, val_nines hb]
theorem least_sum {b : Nat} (hb : 2 ≤ b) (a : Nat) : dsum b (val b 0 (lsd_least b a)) = a := by
  unfold lsd_least
  simp only [val]
  have hm := Nat.mod_lt a (show 0 < b - 1 by omega)
  rw [Nat.zero_mul, Nat.zero_add, dsum_nines hb, dsum_small hb _ (by omega), Nat.mul_comm]
  exact Nat.mod_add_div a (b - 1)

theorem dsum_split {b : Nat} (hb : 2 ≤ b) (n : Nat) : dsum b n = dsum b (n / b) + n % b := by
  have h := dsum_step hb (n / b) (n % b) (Nat.mod_lt _ (by omega))
  rwa [Nat.mul_comm, Nat.div_add_mod] at h
theorem dsum_lt {b : Nat} (hb : 2 ≤ b) (n : Nat) (hn : b ≤ n) : dsum b n < n := by
  have h := dsum_split hb n
  have h1 := dsum_le hb (n / b)
  have h2 := Nat.div_add_mod n b
  have h3 : 1 ≤ n / b := (Nat.le_div_iff_mul_le (by omega)).2 (by omega)
  have h4 : 2 * (n / b) ≤ b * (n / b) := Nat.mul_le_mul_right _ hb
  omega
theorem dsum_rest {b : Nat} (hb : 2 ≤ b) (n : Nat) : ∃ q, n = dsum b n + q * (b - 1) := by
  induction n using Nat.strongRecOn with
  | _ n ih =>
    by_cases h : n = 0
    · subst h
      exact ⟨0, by simp [dsum, dgl, lsum]⟩
    · have hlt : n / b < n := Nat.div_lt_self (by omega) (by omega)
      obtain ⟨q, hq⟩ := ih (n / b) hlt
      refine ⟨q + n / b, ?_⟩
      have h1 := dsum_split hb n
      have h2 := Nat.div_add_mod n b
      obtain ⟨c, rfl⟩ : ∃ c, b = c + 1 := ⟨b - 1, by omega⟩
      simp only [Nat.add_sub_cancel] at hq ⊢
      have e1 : (c + 1) * (n / (c + 1)) = n / (c + 1) * c + n / (c + 1) := by rw [Nat.mul_comm, Nat.mul_add, Nat.mul_one]
      rw [Nat.add_mul]
      omega
def droot (b n : Nat) : Nat := if n = 0 then 0 else 1 + (n - 1) % (b - 1)
theorem droot_small {b : Nat} (hb : 2 ≤ b) (n : Nat) (hn : n < b) : droot b n = n := by
  unfold droot
  by_cases h : n = 0
  · rw [if_pos h, h]
  · rw [if_neg h, Nat.mod_eq_of_lt (by omega)]
    omega
theorem droot_dsum {b : Nat} (hb : 2 ≤ b) (n : Nat) : droot b (dsum b n) = droot b n := by
  by_cases h : n = 0
  · subst h
    simp [dsum, dgl, lsum]
  · have h1 := dsum_pos hb n (by omega)
    obtain ⟨q, hq⟩ := dsum_rest hb n
    unfold droot
    rw [if_neg h, if_neg (by omega)]
    have e : n - 1 = (dsum b n - 1) + q * (b - 1) := by omega
    rw [e, Nat.add_mul_mod_self_right]
def srun (b : Nat) : Nat → Nat → List Nat
  | 0, n => [n]
  | f + 1, n => if b ≤ n then n :: srun b f (dsum b n) else [n]
theorem srun_ne (b f n : Nat) : srun b f n ≠ [] := by cases f <;> simp only [srun] <;> (try split) <;> simp
theorem srun_fuel {b : Nat} (hb : 2 ≤ b) (n : Nat) : ∀ f g : Nat, n ≤ f → n ≤ g → srun b f n = srun b g n := by
  induction n using Nat.strongRecOn with
  | _ n ih =>
    intro f g hf hg
    by_cases h : b ≤ n
    · obtain ⟨f, rfl⟩ : ∃ x, f = x + 1 := ⟨f - 1, by omega⟩
      obtain ⟨g, rfl⟩ : ∃ x, g = x + 1 := ⟨g - 1, by omega⟩
      have hlt := dsum_lt hb n h
      simp only [srun, if_pos h]
      rw [ih _ hlt f g (by omega) (by omega)]
    · cases f <;> cases g <;> simp only [srun, if_neg h]
def sumrun (b n : Nat) : List Nat := srun b n n
theorem sumrun_small {b n : Nat} (h : n < b) : sumrun b n = [n] := by
  unfold sumrun
  cases n with
  | zero => rfl
  | succ n => simp only [srun]; rw [if_neg (by omega)]
theorem sumrun_big {b n : Nat} (hb : 2 ≤ b) (h : b ≤ n) : sumrun b n = n :: sumrun b (dsum b n) := by
  obtain ⟨m, rfl⟩ : ∃ x, n = x + 1 := ⟨n - 1, by omega⟩
  have hlt := dsum_lt hb (m + 1) h
  unfold sumrun
  simp only [srun]
  rw [if_pos h, srun_fuel hb (dsum b (m + 1)) m (dsum b (m + 1)) (by omega) (Nat.le_refl _)]
theorem sumrun_ne (b n : Nat) : sumrun b n ≠ [] := srun_ne b n n
theorem sumrun_len {b : Nat} (hb : 2 ≤ b) (n : Nat) : 1 ≤ (sumrun b n).length ∧ (sumrun b n).length ≤ n + 1 := by
  induction n using Nat.strongRecOn with
  | _ n ih =>
    by_cases h : b ≤ n
    · have hlt := dsum_lt hb n h
      rw [sumrun_big hb h, List.length_cons]
      have := ih _ hlt
      omega
    · rw [sumrun_small (by omega)]
      simp
theorem sumrun_last {b : Nat} (hb : 2 ≤ b) (n : Nat) : (sumrun b n).getLast (sumrun_ne b n) = droot b n := by
  induction n using Nat.strongRecOn with
  | _ n ih =>
    by_cases h : b ≤ n
    · have hlt := dsum_lt hb n h
      have e := sumrun_big hb h
      have : (sumrun b n).getLast (sumrun_ne b n) = (n :: sumrun b (dsum b n)).getLast (by simp) := by simp only [e]
      rw [this, List.getLast_cons (sumrun_ne b _), ih _ hlt, droot_dsum hb]
    · have e := sumrun_small (show n < b by omega)
      have : (sumrun b n).getLast (sumrun_ne b n) = [n].getLast (by simp) := by simp only [e]
      rw [this, List.getLast_singleton, droot_small hb n (by omega)]
def spers (b n : Nat) : Nat := (sumrun b n).length - 1
theorem spers_small {b n : Nat} (h : n < b) : spers b n = 0 := by unfold spers; rw [sumrun_small h]; rfl
theorem spers_big {b n : Nat} (hb : 2 ≤ b) (h : b ≤ n) : spers b n = spers b (dsum b n) + 1 := by
  have h2 := (sumrun_len hb (dsum b n)).1
  unfold spers
  rw [sumrun_big hb h, List.length_cons]
  omega
def leastp (b : Nat) : Nat → Nat
  | 0 => 0
  | 1 => b
  | k + 2 => lw b (leastp b (k + 1)) - 1
theorem leastp_ge {b : Nat} (hb : 2 ≤ b) (k : Nat) : b ≤ leastp b (k + 1) := by
  induction k with
  | zero => exact Nat.le_refl _
  | succ k ih =>
    show b ≤ lw b (leastp b (k + 1)) - 1
    have h := lw_mono hb ih
    have e : b = 1 * (b - 1) + 1 := by omega
    by_cases h2 : b = 2
    · subst h2
      have : lw 2 2 = 4 := by decide
      omega
    · have h3 := lw_split hb 1 1 (by omega)
      rw [← e, Nat.pow_one] at h3
      omega
theorem leastp_pers {b : Nat} (hb : 2 ≤ b) (k : Nat) : spers b (leastp b k) = k := by
  induction k with
  | zero => exact spers_small (by show 0 < b; omega)
  | succ k ih =>
    rw [spers_big hb (leastp_ge hb k)]
    cases k with
    | zero =>
      show spers b (dsum b b) + 1 = 1
      have h := dsum_step hb 1 0 (by omega)
      rw [Nat.one_mul, Nat.add_zero, dsum_small hb 1 (by omega)] at h
      rw [h, spers_small (by omega)]
    | succ k =>
      have e : leastp b (k + 2) = val b 0 (lsd_least b (leastp b (k + 1))) := by
        have := least_val hb (leastp b (k + 1))
        show lw b _ - 1 = _
        omega
      show spers b (dsum b (leastp b (k + 2))) + 1 = _
      rw [e, least_sum hb, ih]
theorem leastp_le {b : Nat} (hb : 2 ≤ b) (k : Nat) : ∀ n, spers b n = k → leastp b k ≤ n := by
  induction k with
  | zero => intro n _; exact Nat.zero_le _
  | succ k ih =>
    intro n hn
    have hbn : b ≤ n := by
      by_cases h : b ≤ n
      · exact h
      · rw [spers_small (by omega)] at hn
        omega
    cases k with
    | zero => exact hbn
    | succ k =>
      rw [spers_big hb hbn] at hn
      have h := ih (dsum b n) (by omega)
      have h2 := lw_le' hb n _ h
      show lw b (leastp b (k + 1)) - 1 ≤ n
      omega

def Ev2 {α : Type} (g : Nat → Nat → Option α) (r : α) : Prop := ∃ K, ∀ i j, K ≤ i → K ≤ j → g i j = some r
theorem Ev2.diag {α : Type} {g : Nat → Nat → Option α} {r : α} (h : Ev2 g r) : Ev (fun k => g k k) r := by
  obtain ⟨K, h⟩ := h
  exact ⟨K, fun k hk => h k k hk hk⟩
theorem Ev2.step {α β : Type} {g : Nat → Nat → Option α} {a : Nat → Option β} {f : Nat → Nat → β → Option α} {y : β} {r : α} (h : ∀ i j, g i (j + 1) = (a i).bind fun z => f i j z) (ha : Ev a y) (hf : Ev2 (fun i j => f i j y) r) : Ev2 g r := by
  obtain ⟨K, ha⟩ := ha
  obtain ⟨L, hf⟩ := hf
  refine ⟨K + L + 1, fun i j hi hj => ?_⟩
  obtain ⟨j, rfl⟩ : ∃ m, j = m + 1 := ⟨j - 1, by omega⟩
  rw [h, ha i (by omega), Option.bind_some]
  exact hf i j (by omega) (by omega)
theorem Ev2.done {α : Type} {g : Nat → Nat → Option α} {r : α} (h : ∀ i j, g i (j + 1) = some r) : Ev2 g r := by
  refine ⟨1, fun i j hi hj => ?_⟩
  obtain ⟨j, rfl⟩ : ∃ m, j = m + 1 := ⟨j - 1, by omega⟩
  exact h i j
theorem Ev2.congr_ {α : Type} {g f : Nat → Nat → Option α} {r s : α} (h : ∀ i j, g i j = f i j) (hf : Ev2 f r) (e : r = s := by first | rfl | simp) : Ev2 g s := by
  subst e
  obtain ⟨L, hf⟩ := hf
  exact ⟨L, fun i j hi hj => by rw [h]; exact hf i j hi hj⟩

theorem impl_in_eq (a b c : Int) : impl_in.f a b c = some (decide (b ≤ a ∧ a ≤ c)) := by
  unfold impl_in.f
  by_cases h : b ≤ a <;> simp [h]
theorem spec_l1In_eq (a b c : Int) : spec_l1In.f a b c = some (decide (b ≤ a ∧ a ≤ c)) := by
  unfold spec_l1In.f
  by_cases h : b ≤ a <;> simp [h]

theorem impl_isBase_eq (b : Int) : impl_isBase.f b = some (decide (2 ≤ b ∧ b ≤ 16)) := by simp only [impl_isBase.f, impl_in_eq, Option.bind_some]
theorem spec_dgBase_eq (b : Int) : spec_dgBase.f b = some (decide (2 ≤ b ∧ b ≤ 16)) := by simp only [spec_dgBase.f, spec_l1In_eq, Option.bind_some]

theorem impl_isNumber_eq (n b : Int) : impl_isNumber.f n b = some (decide ((0 ≤ n ∧ n ≤ 1000000000000) ∧ 2 ≤ b ∧ b ≤ 16)) := by
  simp only [impl_isNumber.f, impl_in_eq, impl_isBase_eq, Option.bind_some, decide_eq_true_eq]
  by_cases h : 0 ≤ n ∧ n ≤ 1000000000000 <;> simp [h]
theorem spec_dgAsked_eq (n b : Int) : spec_dgAsked.f n b = some (decide ((0 ≤ n ∧ n ≤ 1000000000000) ∧ 2 ≤ b ∧ b ≤ 16)) := by
  simp only [spec_dgAsked.f, spec_dgNumber.f, spec_l1In_eq, spec_dgBase_eq, Option.bind_some, decide_eq_true_eq]
  by_cases h : 0 ≤ n ∧ n ≤ 1000000000000 <;> simp [h]

theorem tmod_cast (a b : Nat) : Int.tmod (a : Int) (b : Int) = ((a % b : Nat) : Int) := (Int.ofNat_tmod a b).symm
theorem tdiv_cast (a b : Nat) : Int.tdiv (a : Int) (b : Int) = ((a / b : Nat) : Int) := (Int.ofNat_tdiv a b).symm
theorem natOf {a : Int} (h : 0 ≤ a) : ∃ n : Nat, a = (n : Int) := ⟨a.toNat, by omega⟩

theorem reverse_loop (n : Nat) : ∀ (mid pre post : List Int), mid.length ≤ n → pre.length = post.length → (pre ++ mid ++ post).length ≤ 1000000000000 →
    Ev (fun k => slices_Reverse_int_int.l0 k (pre ++ mid ++ post) (pre.length : Int) ((pre.length : Int) + (mid.length : Int) - 1)) (pre ++ mid.reverse ++ post) := by
  induction n with
  | zero =>
    intro mid pre post hm _ _
    obtain rfl : mid = [] := List.eq_nil_of_length_eq_zero (by omega)
    refine evs (fun k => by rw [slices_Reverse_int_int.l0]) ?_
    exact evn (by simp; omega) (evr (by simp))
  | succ n ih =>
    intro mid pre post hm hp hl
    cases mid with
    | nil =>
      refine evs (fun k => by rw [slices_Reverse_int_int.l0]) ?_
      exact evn (by simp; omega) (evr (by simp))
    | cons a t =>
      by_cases ht : t = []
      · subst ht
        refine evs (fun k => by rw [slices_Reverse_int_int.l0]) ?_
        exact evn (by simp) (evr (by simp))
      · obtain ⟨m, b, rfl⟩ : ∃ m b, t = m ++ [b] := ⟨t.dropLast, t.getLast ht, (List.dropLast_concat_getLast ht).symm⟩
        simp only [List.length_append, List.length_cons, List.length_nil] at hm hl
        have e0 : pre ++ (a :: (m ++ [b])) ++ post = pre ++ a :: (m ++ b :: post) := by simp
        have e1 : pre ++ (a :: (m ++ [b])) ++ post = (pre ++ a :: m) ++ b :: post := by simp
        have hj : ((pre.length : Int) + (((a :: (m ++ [b])).length : Nat) : Int) - 1) = (((pre ++ a :: m).length : Nat) : Int) := by simp; omega
        have r1 : rd (pre ++ (a :: (m ++ [b])) ++ post) (((pre ++ a :: m).length : Nat) : Int) = b := by rw [e1, rd_mid]
        have r0 : rd (pre ++ (a :: (m ++ [b])) ++ post) ((pre.length : Nat) : Int) = a := by rw [e0, rd_mid]
        have hset : ((pre ++ (a :: (m ++ [b])) ++ post).set (pre.length : Int).toNat b).set (((pre ++ a :: m).length : Nat) : Int).toNat a = (pre ++ [b]) ++ m ++ (a :: post) := by
          rw [e0, Int.toNat_natCast, Int.toNat_natCast, set_mid]
          have e2 : pre ++ b :: (m ++ b :: post) = (pre ++ b :: m) ++ b :: post := by simp
          have e3 : (pre ++ a :: m).length = (pre ++ b :: m).length := by simp
          rw [e2, e3, set_mid]
          simp
        have h := ih m (pre ++ [b]) (a :: post) (by omega) (by simp; omega) (by simp; omega)
        have hj2 : (((pre ++ a :: m).length : Nat) : Int) = (pre.length : Int) + (m.length : Int) + 1 := by simp; omega
        have hlen : (((pre ++ (a :: (m ++ [b])) ++ post).length : Nat) : Int) = (pre.length : Int) + (m.length : Int) + 2 + (post.length : Int) := by simp; omega
        refine evs (fun k => by rw [slices_Reverse_int_int.l0]) ?_
        rw [hj, r1, r0, hset, hlen, hj2, w64 (x := (pre.length : Int) + 1) (by omega) (by omega), w64 (x := (pre.length : Int) + (m.length : Int) + 1 - 1) (by omega) (by omega)]
        refine evp (by omega) (evp (by omega) (evp (by omega) (evp (by omega) (evp (by omega) ?_))))
        have e4 : (((pre ++ [b]).length : Nat) : Int) = (pre.length : Int) + 1 := by simp
        rw [e4, show (pre.length : Int) + 1 + (m.length : Int) - 1 = (pre.length : Int) + (m.length : Int) + 1 - 1 by omega] at h
        have e5 : (pre ++ [b]) ++ m.reverse ++ (a :: post) = pre ++ (a :: (m ++ [b])).reverse ++ post := by simp
        rw [e5] at h
        exact h
theorem reverse_ev (l : List Int) (h : l.length ≤ 1000000000000) : Ev (fun k => slices_Reverse_int_int.f k l) l.reverse := by
  unfold slices_Reverse_int_int.f
  rw [w64 (by omega) (by omega)]
  have := reverse_loop l.length l [] [] (Nat.le_refl _) rfl (by simpa using h)
  simpa using this

theorem spec_dgOf_loop (b : Nat) (hb : 2 ≤ b) (n : Nat) : ∀ acc : List Nat, acc.length + (low b n).length ≤ 1000000 → n ≤ 1000000000001 → Ev (fun k => spec_dgOf.l0 k (n : Int) (b : Int) (ic acc)) (ic ((low b n).reverse ++ acc)) := by
  induction n using Nat.strongRecOn with
  | _ n ih =>
    intro acc hl hn
    refine evs (fun k => by rw [spec_dgOf.l0]) ?_
    by_cases h : n = 0
    · subst h
      exact evn (by omega) (evr (by simp [low_zero]))
    · have hlt : n / b < n := Nat.div_lt_self (by omega) (by omega)
      rw [low_succ hb (by omega), List.length_cons] at hl
      have h2 := ih (n / b) hlt (n % b :: acc) (by simp only [List.length_cons]; omega) (by omega)
      rw [tmod_cast, tdiv_cast, w64n (n / b) (by omega), low_succ hb (by omega)]
      refine evp (by omega) (evn (by omega) ?_)
      simp only [Option.bind_some]
      refine evp (by simp only [List.length_cons, List.length_nil, ic_length]; omega) ?_
      simpa [ic] using h2
theorem spec_dgOf_ev1 (b n : Nat) (hb : 2 ≤ b) (hn : n ≤ 1000000000001) : Ev (fun k => spec_dgOf.f k (n : Int) (b : Int)) (ic (dgl b n)) := by
  unfold spec_dgOf.f
  by_cases h : n = 0
  · subst h
    exact evp (by omega) (evr (by simp [dgl, ic]))
  · have hl := low_len hb 40 n (by omega)
    have h2 := spec_dgOf_loop b hb n [] (by simp; omega) hn
    unfold dgl
    rw [if_neg h]
    exact evn (by omega) (by simpa [ic] using h2)
theorem impl_digitsOf_loop (b : Nat) (hb : 2 ≤ b) (n : Nat) : ∀ acc : List Nat, acc.length + (low b n).length ≤ 1000000 → n ≤ 1000000000001 → Ev (fun k => impl_digitsOf.l0 k (n : Int) (b : Int) (ic acc)) (ic (acc ++ low b n).reverse) := by
  induction n using Nat.strongRecOn with
  | _ n ih =>
    intro acc hl hn
    refine evs (fun k => by rw [impl_digitsOf.l0]) ?_
    by_cases h : n = 0
    · subst h
      refine evn (by omega) (evb (reverse_ev (ic acc) (by rw [ic_length]; omega)) (evr ?_))
      rw [low_zero, List.append_nil, ic_reverse]
    · have hlt : n / b < n := Nat.div_lt_self (by omega) (by omega)
      rw [low_succ hb (by omega), List.length_cons] at hl
      have h2 := ih (n / b) hlt (acc ++ [n % b]) (by simp only [List.length_append, List.length_cons, List.length_nil]; omega) (by omega)
      rw [tmod_cast, tdiv_cast, w64n (n / b) (by omega), low_succ hb (by omega)]
      refine evp (by omega) (evn (by omega) (evp (by rw [ic_length]; omega) ?_))
      rw [ic_append, List.append_assoc] at h2
      simpa [ic] using h2
theorem impl_digitsOf_ev1 (b n : Nat) (hb : 2 ≤ b) (hn : n ≤ 1000000000001) : Ev (fun k => impl_digitsOf.f k (n : Int) (b : Int)) (ic (dgl b n)) := by
  unfold impl_digitsOf.f
  have hdv : n / b ≤ n := Nat.div_le_self _ _
  have hl := low_len hb 40 (n / b) (by omega)
  have h2 := impl_digitsOf_loop b hb (n / b) [n % b] (by simp only [List.length_cons, List.length_nil]; omega) (by omega)
  rw [tmod_cast, tdiv_cast, w64n (n / b) (by omega)]
  refine evn (by omega) ?_
  unfold dgl
  by_cases h : n = 0
  · subst h
    rw [if_pos rfl]
    rw [Nat.zero_div, low_zero] at h2 
    simpa [ic, Nat.zero_mod] using h2
  · rw [if_neg h, low_succ hb (by omega)]
    simpa [ic] using h2
theorem spec_dgOf_ev (b n : Nat) (hb : 2 ≤ b) (hn : n ≤ 1000000000000) : Ev (fun k => spec_dgOf.f k (n : Int) (b : Int)) (ic (dgl b n)) := spec_dgOf_ev1 b n hb (by omega)
theorem impl_digitsOf_ev (b n : Nat) (hb : 2 ≤ b) (hn : n ≤ 1000000000000) : Ev (fun k => impl_digitsOf.f k (n : Int) (b : Int)) (ic (dgl b n)) := impl_digitsOf_ev1 b n hb (by omega)

theorem spec_dgSum_loop (post : List Nat) : ∀ (pre : List Nat) (a : Nat), (pre ++ post).length ≤ 1000000000000 → a + lsum post ≤ 1000000000000000000 →
    Ev (fun k => spec_dgSum.l0 k (a : Int) (ic (pre ++ post)) ((pre ++ post).length : Int) (pre.length : Int)) ((a + lsum post : Nat) : Int) := by
  induction post with
  | nil =>
    intro pre a h1 h2
    refine evs (fun k => by rw [spec_dgSum.l0]) ?_
    exact evn (by simp) (evr (by simp [lsum]))
  | cons d post ih =>
    intro pre a h1 h2
    simp only [lsum] at h2
    have hl : (pre ++ d :: post).length = pre.length + (post.length + 1) := by simp
    have h3 := ih (pre ++ [d]) (a + d) (by simp at h1 ⊢; omega) (by omega)
    rw [List.append_assoc, List.singleton_append] at h3
    refine evs (fun k => by rw [spec_dgSum.l0]) ?_
    rw [ic_rd, ic_length, hl, w64 (x := (a : Int) + (d : Int)) (by omega) (by omega), w64 (x := (pre.length : Int) + 1) (by omega) (by omega)]
    refine evp (by omega) (evp (by omega) (evp (by omega) ?_))
    rw [hl] at h3
    have e1 : (((pre ++ [d]).length : Nat) : Int) = (pre.length : Int) + 1 := by simp
    have e2 : ((a + d : Nat) : Int) = (a : Int) + (d : Int) := by omega
    rw [e1, e2] at h3
    have e3 : a + lsum (d :: post) = a + d + lsum post := by simp only [lsum]; omega
    rw [e3]
    exact h3
theorem spec_dgSum_all (l : List Nat) (h1 : l.length ≤ 1000000000000) (h2 : lsum l ≤ 1000000000000000000) : Ev (fun k => spec_dgSum.l0 k 0 (ic l) ((ic l).length : Int) 0) ((lsum l : Nat) : Int) := by
  have h := spec_dgSum_loop l [] 0 (by simpa using h1) (by omega)
  rw [ic_length]
  simpa using h

theorem impl_digitSum_loop (post : List Nat) : ∀ (pre : List Nat) (a : Nat), (pre ++ post).length ≤ 1000000000000 → a + lsum post ≤ 1000000000000000000 →
    Ev (fun k => impl_digitSum.l0 k (a : Int) (ic (pre ++ post)) ((pre ++ post).length : Int) (pre.length : Int)) ((a + lsum post : Nat) : Int) := by
  induction post with
  | nil =>
    intro pre a h1 h2
    refine evs (fun k => by rw [impl_digitSum.l0]) ?_
    exact evn (by simp) (evr (by simp [lsum]))
  | cons d post ih =>
    intro pre a h1 h2
    simp only [lsum] at h2
    have hl : (pre ++ d :: post).length = pre.length + (post.length + 1) := by simp
    have h3 := ih (pre ++ [d]) (a + d) (by simp at h1 ⊢; omega) (by omega)
    rw [List.append_assoc, List.singleton_append] at h3
    refine evs (fun k => by rw [impl_digitSum.l0]) ?_
    rw [ic_rd, ic_length, hl, w64 (x := (a : Int) + (d : Int)) (by omega) (by omega), w64 (x := (pre.length : Int) + 1) (by omega) (by omega)]
    refine evp (by omega) (evp (by omega) (evp (by omega) ?_))
    rw [hl] at h3
    have e1 : (((pre ++ [d]).length : Nat) : Int) = (pre.length : Int) + 1 := by simp
    have e2 : ((a + d : Nat) : Int) = (a : Int) + (d : Int) := by omega
    rw [e1, e2] at h3
    have e3 : a + lsum (d :: post) = a + d + lsum post := by simp only [lsum]; omega
    rw [e3]
    exact h3
theorem impl_digitSum_all (l : List Nat) (h1 : l.length ≤ 1000000000000) (h2 : lsum l ≤ 1000000000000000000) : Ev (fun k => impl_digitSum.l0 k 0 (ic l) ((ic l).length : Int) 0) ((lsum l : Nat) : Int) := by
  have h := impl_digitSum_loop l [] 0 (by simpa using h1) (by omega)
  rw [ic_length]
  simpa using h

theorem dgl_sum_le {b : Nat} (hb : 2 ≤ b) (n : Nat) : lsum (dgl b n) ≤ n := dsum_le hb n
theorem spec_dgSum_ev (b n : Nat) (hb : 2 ≤ b) (hn : n ≤ 1000000000000) : Ev (fun k => spec_dgSum.f k (ic (dgl b n))) ((dsum b n : Nat) : Int) := by
  have hl := dgl_len hb n hn
  have hs := dgl_sum_le hb n
  exact spec_dgSum_all (dgl b n) (by omega) (by omega)
theorem impl_digitSum_ev (b n : Nat) (hb : 2 ≤ b) (hn : n ≤ 1000000000000) : Ev (fun k => impl_digitSum.f k (n : Int) (b : Int)) ((dsum b n : Nat) : Int) := by
  have hl := dgl_len hb n hn
  have hs := dgl_sum_le hb n
  exact evb (impl_digitsOf_ev b n hb hn) (impl_digitSum_all (dgl b n) (by omega) (by omega))

theorem low_byte (x : Int) : 0 ≤ Go.bits .and .u64 ((IntKind.u64.wrap x) / 1099511627776) 255 ∧ Go.bits .and .u64 ((IntKind.u64.wrap x) / 1099511627776) 255 ≤ 255 := by
  have h0 : 0 ≤ IntKind.u64.wrap x ∧ IntKind.u64.wrap x < 18446744073709551616 := by rw [IntKind.wrap_u64]; omega
  obtain ⟨y, hy⟩ := Int.eq_ofNat_of_zero_le (show 0 ≤ IntKind.u64.wrap x / 1099511627776 by omega)
  rw [hy]
  have h1 := bits_and_u64_nat y 255 (by omega) (by omega)
  have e : y &&& 255 = y % 256 := Nat.and_two_pow_sub_one_eq_mod y 8
  rw [e] at h1
  rw [show ((255 : Int)) = ((255 : Nat) : Int) from rfl, h1]
  omega
theorem next_ok (l : List Int) (hl : ∀ x ∈ l, 0 ≤ x ∧ x ≤ 255) (p s : Int) (h0 : 0 ≤ p) (h1 : p ≤ 1000000000000) :
    ∃ v s' : Int, spec_l1Cur_next.f l p s = some (v, p + 1, s') ∧ 0 ≤ v ∧ v ≤ 255 := by
  unfold spec_l1Cur_next.f
  rw [w64 (x := p + 1) (by omega) (by omega)]
  by_cases hp : p < (l.length : Int)
  · have hm := hl _ (rd_mem l p h0 hp)
    rw [if_pos hp, if_pos h0]
    by_cases hq : p + 1 ≤ (l.length : Int)
    · rw [if_pos hq]
      refine ⟨_, _, rfl, ?_⟩
      rw [w64 (by omega) (by omega)]
      exact hm
    · omega
  · rw [if_neg hp]
    by_cases hq : p + 1 ≤ (l.length : Int)
    · omega
    · rw [if_neg hq]
      refine ⟨_, _, rfl, ?_⟩
      have h := low_byte (IntKind.u64.wrap (IntKind.u64.wrap (s * 6364136223846793005)) + 1442695040888963407)
      rw [w64 (by omega) (by omega)]
      exact h
theorem pick_ok (l : List Int) (hl : ∀ x ∈ l, 0 ≤ x ∧ x ≤ 255) (p s n : Int) (h0 : 0 ≤ p) (h1 : p ≤ 999999999990) (hn : n ≤ 1000000) :
    ∃ v p' s' : Int, spec_l1Cur_pick.f l p s n = some (v, p', s') ∧ 0 ≤ v ∧ v ≤ 1000000 ∧ (v = 0 ∨ v < n) ∧ p ≤ p' ∧ p' ≤ p + 2 := by
  unfold spec_l1Cur_pick.f
  by_cases h : n ≤ 1
  · rw [if_pos h]
    exact ⟨0, p, s, rfl, by omega, by omega, by omega, by omega, by omega⟩
  · rw [if_neg h]
    obtain ⟨v, s1, e1, h2, h3⟩ := next_ok l hl p s h0 (by omega)
    rw [e1]
    simp only [Option.bind_some]
    by_cases h4 : n > 200
    · rw [if_pos h4]
      obtain ⟨v2, s2, e2, h5, h6⟩ := next_ok l hl (p + 1) s1 (by omega) (by omega)
      rw [e2]
      simp only [Option.bind_some]
      rw [if_neg (by omega), w64 (x := v * 256) (by omega) (by omega), w64 (by omega) (by omega)]
      have h7 := Int.tmod_nonneg n (show 0 ≤ v * 256 + v2 by omega)
      have h8 := Int.tmod_lt_of_pos (v * 256 + v2) (show 0 < n by omega)
      exact ⟨_, _, _, rfl, h7, by omega, Or.inr h8, by omega, by omega⟩
    · rw [if_neg h4, if_neg (by omega)]
      have h7 := Int.tmod_nonneg n (show 0 ≤ v by omega)
      have h8 := Int.tmod_lt_of_pos v (show 0 < n by omega)
      exact ⟨_, _, _, rfl, h7, by omega, Or.inr h8, by omega, by omega⟩
theorem among_ok (l : List Int) (hl : ∀ x ∈ l, 0 ≤ x ∧ x ≤ 255) (p s : Int) (m : List Int) (hm : m ≠ []) (hm2 : m.length ≤ 1000000) (h0 : 0 ≤ p) (h1 : p ≤ 999999999990) :
    ∃ v p' s' : Int, spec_l1Cur_among.f l p s m = some (v, p', s') ∧ v ∈ m ∧ p ≤ p' ∧ p' ≤ p + 2 := by
  unfold spec_l1Cur_among.f
  have hpos := List.length_pos_iff.2 hm
  obtain ⟨v, p', s', e1, h2, h3, h4, h5, h6⟩ := pick_ok l hl p s m.length h0 h1 (by omega)
  rw [e1]
  simp only [Option.bind_some]
  rw [if_pos h2, if_pos (by omega)]
  exact ⟨_, _, _, rfl, rd_mem m v h2 (by omega), h5, h6⟩

theorem base_ok (l : List Int) (hl : ∀ x ∈ l, 0 ≤ x ∧ x ≤ 255) (p s : Int) (h0 : 0 ≤ p) (h1 : p ≤ 999999999990) : ∃ v p' s' : Int, spec_l1Cur_base.f l p s = some (v, p', s') ∧ p ≤ p' ∧ p' ≤ p + 2 := by
  unfold spec_l1Cur_base.f
  obtain ⟨v, p', s', e, _, h2, h3⟩ := among_ok l hl p s [10, 10, 10, 2, 3, 5, 7, 16, 12, 10, 10, 16, 1, 17, 0] (by simp) (by simp) h0 h1
  rw [e]
  exact ⟨_, _, _, rfl, h2, h3⟩

theorem one_ok (l : List Int) (hl : ∀ x ∈ l, 0 ≤ x ∧ x ≤ 255) (p s n : Int) (h0 : 0 ≤ p) (h1 : p ≤ 999999999990) (hn : n ≤ 1000000) : ∃ (v : Bool) (p' s' : Int), spec_l1Cur_one.f l p s n = some (v, p', s') ∧ p ≤ p' ∧ p' ≤ p + 2 := by
  obtain ⟨v1, p1, s1, e1, a1, b1, c1, d1, f1⟩ := pick_ok l hl p s n h0 h1 hn
  unfold spec_l1Cur_one.f
  rw [e1]
  exact ⟨_, _, _, rfl, d1, f1⟩
theorem sureNumber_loop (l : List Int) (hl : ∀ x ∈ l, 0 ≤ x ∧ x ≤ 255) (d : Nat) : ∀ x p s : Int, 0 ≤ p → p + 2 * (d : Int) ≤ 100000000 → ∃ v p' s' : Int, Ev (fun k => spec_l1Cur_sureNumber.l0 k x (d : Int) l p s) (v, p', s') ∧ p ≤ p' ∧ p' ≤ p + 2 * (d : Int) := by
  induction d with
  | zero =>
    intro x p s h0 h1
    exact ⟨x, p, s, evs (fun k => by rw [spec_l1Cur_sureNumber.l0]) (evn (by omega) (Ev.now _)), by omega, by omega⟩
  | succ d ih =>
    intro x p s h0 h1
    obtain ⟨v, p1, s1, e1, _, _, _, h2, h3⟩ := pick_ok l hl p s 10 h0 (by omega) (by omega)
    obtain ⟨v', p2, s2, e2, h4, h5⟩ := ih (wrap64 (wrap64 (x * 10) + v)) p1 s1 (by omega) (by omega)
    refine ⟨v', p2, s2, evs (fun k => by rw [spec_l1Cur_sureNumber.l0]) (evp (by omega) ?_), by omega, by omega⟩
    simp only [e1, Option.bind_some]
    rw [w64 (x := (((d + 1 : Nat)) : Int) - 1) (by omega) (by omega), show (((d + 1 : Nat)) : Int) - 1 = (d : Int) by omega]
    exact e2
theorem sureNumber_ok (l : List Int) (hl : ∀ x ∈ l, 0 ≤ x ∧ x ≤ 255) (p s : Int) (h0 : 0 ≤ p) (h1 : p ≤ 90000000) : ∃ v p' s' : Int, Ev (fun k => spec_l1Cur_sureNumber.f k l p s) (v, p', s') ∧ p ≤ p' ∧ p' ≤ p + 30 := by
  obtain ⟨v1, p1, s1, e1, a1, b1, c1, d1, f1⟩ := pick_ok l hl p s 8 (by omega) (by omega) (by omega)
  simp only [spec_l1Cur_sureNumber.f, e1, Option.bind_some]
  by_cases h0 : v1 = 0
  · obtain ⟨v2, p2, s2, e2, a2, b2, c2, d2, f2⟩ := pick_ok l hl p1 s1 256 (by omega) (by omega) (by omega)
    refine ⟨v2, p2, s2, evp h0 ?_, by omega, by omega⟩
    simp only [e2, Option.bind_some]
    exact Ev.now _
  · by_cases h1 : v1 = 1
    · obtain ⟨v, p2, s2, e2, _, h2, h3⟩ := among_ok l hl p1 s1 [0, 1, 9, 10, 99, 100, 153, 370, 1000, 6174, 9999, 999999999999, 1000000000000] (by simp) (by simp) (by omega) (by omega)
      refine ⟨v, p2, s2, evn h0 (evp h1 ?_), by omega, by omega⟩
      simp only [e2, Option.bind_some]
      exact Ev.now _
    · by_cases h2 : v1 = 2
      · obtain ⟨v2, p2, s2, e2, a2, b2, c2, d2, f2⟩ := pick_ok l hl p1 s1 256 (by omega) (by omega) (by omega)
        obtain ⟨v3, p3, s3, e3, a3, b3, c3, d3, f3⟩ := pick_ok l hl p2 s2 256 (by omega) (by omega) (by omega)
        refine ⟨wrap64 (v2 * v3), p3, s3, evn h0 (evn h1 (evp h2 ?_)), by omega, by omega⟩
        simp only [e2, e3, Option.bind_some]
        exact Ev.now _
      · obtain ⟨v2, p2, s2, e2, a2, b2, c2, d2, f2⟩ := pick_ok l hl p1 s1 11 (by omega) (by omega) (by omega)
        obtain ⟨d, rfl⟩ := natOf (a := v2) a2
        obtain ⟨v3, p3, s3, e3, h4, h5⟩ := sureNumber_loop l hl (1 + d) 0 p2 s2 (by omega) (by omega)
        refine ⟨v3, p3, s3, evn h0 (evn h1 (evn h2 ?_)), by omega, by omega⟩
        simp only [e2, Option.bind_some]
        rw [w64 (x := (1 : Int) + (d : Int)) (by omega) (by omega)]
        simpa using e3
theorem number_ok (l : List Int) (hl : ∀ x ∈ l, 0 ≤ x ∧ x ≤ 255) (p s : Int) (h0 : 0 ≤ p) (h1 : p ≤ 80000000) : ∃ v p' s' : Int, Ev (fun k => spec_l1Cur_number.f k l p s) (v, p', s') ∧ p ≤ p' ∧ p' ≤ p + 40 := by
  obtain ⟨v1, p1, s1, e1, d1, f1⟩ := one_ok l hl p s 20 (by omega) (by omega) (by omega)
  simp only [spec_l1Cur_number.f, e1, Option.bind_some]
  by_cases h0 : v1 = true
  · obtain ⟨v, p2, s2, e2, _, h2, h3⟩ := among_ok l hl p1 s1 [(-1), 1000000000001, 4611686018427387904, (-4611686018427387904)] (by simp) (by simp) (by omega) (by omega)
    refine ⟨v, p2, s2, evp h0 ?_, by omega, by omega⟩
    simp only [e2, Option.bind_some]
    exact Ev.now _
  · obtain ⟨v, p2, s2, e2, h2, h3⟩ := sureNumber_ok l hl p1 s1 (by omega) (by omega)
    exact ⟨v, p2, s2, evn h0 (evb e2 (Ev.now _)), by omega, by omega⟩

theorem ic_snoc (l : List Nat) (x : Nat) : ic l ++ [(x : Int)] = ic (l ++ [x]) := by simp [ic]
theorem impl_dn (b : Nat) (hb : 2 ≤ b) (n : Nat) : ∀ acc : List Nat, n ≤ 1000000000000 → acc.length + n ≤ 2000000000000 → Ev2 (fun i j => impl_SumRun.dn (fun x => impl_digitSum.f i x (b : Int)) (b : Int) j (ic (acc ++ [n])) (n : Int)) (ic (acc ++ sumrun b n)) := by
  induction n using Nat.strongRecOn with
  | _ n ih =>
    intro acc hn hl
    by_cases h : b ≤ n
    · have hlt := dsum_lt hb n h
      have h2 := ih _ hlt (acc ++ [n]) (by omega) (by simp; omega)
      rw [sumrun_big hb h]
      refine Ev2.step (fun i j => by rw [impl_SumRun.dn, if_pos (by omega)]) (impl_digitSum_ev b n hb hn) ?_
      refine Ev2.congr_ ?_ h2
      intro i j
      rw [if_pos (by rw [ic_length]; simp; omega), ic_snoc]
    · rw [sumrun_small (show n < b by omega)]
      exact Ev2.done (fun i j => by rw [impl_SumRun.dn, if_neg (by omega)])
theorem impl_dn2 (b : Nat) (hb : 2 ≤ b) (n : Nat) : ∀ acc : List Nat, n ≤ 1000000000000 → acc.length + n ≤ 2000000000000 → Ev2 (fun i j => impl_SumPersistence.dn (fun x => impl_digitSum.f i x (b : Int)) (b : Int) j (ic (acc ++ [n])) (n : Int)) (ic (acc ++ sumrun b n)) := by
  induction n using Nat.strongRecOn with
  | _ n ih =>
    intro acc hn hl
    by_cases h : b ≤ n
    · have hlt := dsum_lt hb n h
      have h2 := ih _ hlt (acc ++ [n]) (by omega) (by simp; omega)
      rw [sumrun_big hb h]
      refine Ev2.step (fun i j => by rw [impl_SumPersistence.dn, if_pos (by omega)]) (impl_digitSum_ev b n hb hn) ?_
      refine Ev2.congr_ ?_ h2
      intro i j
      rw [if_pos (by rw [ic_length]; simp; omega), ic_snoc]
    · rw [sumrun_small (show n < b by omega)]
      exact Ev2.done (fun i j => by rw [impl_SumPersistence.dn, if_neg (by omega)])
theorem spec_prRun_loop (b : Nat) (hb : 2 ≤ b) (n : Nat) : ∀ acc : List Nat, n ≤ 1000000000000 → acc.length + n ≤ 2000000000000 → Ev (fun k => spec_prRun.l0 k (n : Int) (b : Int) true (ic (acc ++ [n]))) (ic (acc ++ sumrun b n)) := by
  induction n using Nat.strongRecOn with
  | _ n ih =>
    intro acc hn hl
    refine evs (fun k => by rw [spec_prRun.l0]) ?_
    by_cases h : b ≤ n
    · have hlt := dsum_lt hb n h
      have h2 := ih _ hlt (acc ++ [n]) (by omega) (by simp; omega)
      rw [sumrun_big hb h]
      refine evp (by omega) (evp rfl (evb (spec_dgOf_ev b n hb hn) (evb (spec_dgSum_ev b n hb hn) (evp (by rw [ic_length]; simp; omega) ?_))))
      rw [ic_snoc]
      simpa using h2
    · rw [sumrun_small (show n < b by omega)]
      exact evn (by omega) (Ev.now _)
theorem impl_SumRun_ev (b n : Nat) (hb : 2 ≤ b) (hb2 : b ≤ 16) (hn : n ≤ 1000000000000) : Ev (fun k => impl_SumRun.f k (n : Int) (b : Int)) (ic (sumrun b n), true) := by
  simp only [impl_SumRun.f, impl_isNumber_eq, Option.bind_some, decide_eq_true_eq]
  exact evp (by omega) (evb (Ev2.diag (impl_dn b hb n [] hn (by simp; omega))) (Ev.now _))
theorem spec_SumRun_ev (b n : Nat) (hb : 2 ≤ b) (hb2 : b ≤ 16) (hn : n ≤ 1000000000000) : Ev (fun k => spec_SumRun.f k (n : Int) (b : Int)) (ic (sumrun b n), true) := by
  simp only [spec_SumRun.f, spec_dgAsked_eq, Option.bind_some, decide_eq_true_eq]
  exact evp (by omega) (evb (spec_prRun_loop b hb n [] hn (by simp; omega)) (Ev.now _))
theorem pers_eq (b n : Nat) (hb : 2 ≤ b) (hn : n ≤ 1000000000000) : wrap64 (((ic (sumrun b n)).length : Int) - 1) = (spers b n : Int) := by
  have h := sumrun_len hb n
  rw [ic_length, w64 (by omega) (by omega)]
  unfold spers
  omega
theorem impl_SumPers_ev (b n : Nat) (hb : 2 ≤ b) (hb2 : b ≤ 16) (hn : n ≤ 1000000000000) : Ev (fun k => impl_SumPersistence.f k (n : Int) (b : Int)) ((spers b n : Int), true) := by
  simp only [impl_SumPersistence.f, impl_isNumber_eq, Option.bind_some, decide_eq_true_eq]
  exact evp (by omega) (evb (Ev2.diag (impl_dn2 b hb n [] hn (by simp; omega))) (evr (by rw [List.nil_append, pers_eq b n hb hn])))
theorem spec_SumPers_ev (b n : Nat) (hb : 2 ≤ b) (hb2 : b ≤ 16) (hn : n ≤ 1000000000000) : Ev (fun k => spec_SumPersistence.f k (n : Int) (b : Int)) ((spers b n : Int), true) := by
  simp only [spec_SumPersistence.f, spec_dgAsked_eq, Option.bind_some, decide_eq_true_eq]
  exact evp (by omega) (evb (spec_prRun_loop b hb n [] hn (by simp; omega)) (evr (by rw [List.nil_append, pers_eq b n hb hn])))

theorem impl_value_loop (b : Nat) (hb : 2 ≤ b) (hb2 : b ≤ 16) (post : List Nat) : ∀ (pre : List Nat) (v : Nat), v ≤ 1000000000000 → (∀ d ∈ post, d < b) → (pre ++ post).length ≤ 1000000000000 →
    Ev (fun k => impl_value.l0 k (b : Int) (v : Int) (ic (pre ++ post)) ((pre ++ post).length : Int) (pre.length : Int)) (if val b v post ≤ 1000000000000 then ((val b v post : Nat) : Int) else 1000000000001) := by
  induction post with
  | nil =>
    intro pre v hv hd hl
    refine evs (fun k => by rw [impl_value.l0]) ?_
    exact evn (by simp) (evr (by simp [val, hv]))
  | cons d post ih =>
    intro pre v hv hd hl
    have hl2 : (pre ++ d :: post).length = pre.length + (post.length + 1) := by simp
    have hd1 := hd d (by simp)
    have hm : v * b ≤ 1000000000000 * 16 := Nat.mul_le_mul hv hb2
    have e1 : (v : Int) * (b : Int) = ((v * b : Nat) : Int) := (Int.natCast_mul _ _).symm
    have e2 : ((v * b : Nat) : Int) + (d : Int) = ((v * b + d : Nat) : Int) := by omega
    refine evs (fun k => by rw [impl_value.l0]) ?_
    rw [ic_rd, ic_length, hl2, e1, w64n (v * b) (by omega), e2, w64n (v * b + d) (by omega), w64 (x := (pre.length : Int) + 1) (by omega) (by omega)]
    refine evp (by omega) (evp (by omega) (evp (by omega) ?_))
    rw [show val b v (d :: post) = val b (v * b + d) post from rfl]
    by_cases h : v * b + d ≤ 1000000000000
    · have h3 := ih (pre ++ [d]) (v * b + d) h (fun x hx => hd x (by simp [hx])) (by simp at hl ⊢; omega)
      rw [List.append_assoc, List.singleton_append, hl2] at h3
      have e3 : (((pre ++ [d]).length : Nat) : Int) = (pre.length : Int) + 1 := by simp
      rw [e3] at h3
      exact evn (by omega) h3
    · have h4 := val_ge (b := b) (by omega) post (v * b + d)
      rw [if_neg (by omega)]
      exact evp (by omega) (Ev.now _)
theorem impl_value_ev (b : Nat) (hb : 2 ≤ b) (hb2 : b ≤ 16) (l : List Nat) (hd : ∀ d ∈ l, d < b) (hl : l.length ≤ 1000000000000) : Ev (fun k => impl_value.f k (ic l) (b : Int)) (if val b 0 l ≤ 1000000000000 then ((val b 0 l : Nat) : Int) else 1000000000001) := by
  have h := impl_value_loop b hb hb2 l [] 0 (by omega) hd (by simpa using hl)
  unfold impl_value.f
  rw [ic_length]
  simpa using h
theorem spec_dgFrom_loop (b : Nat) (hb : 2 ≤ b) (hb2 : b ≤ 16) (post : List Nat) : ∀ (pre : List Nat) (v : Nat), v ≤ 1000000000000 → (∀ d ∈ post, d < b) → (pre ++ post).length ≤ 1000000000000 →
    Ev (fun k => spec_dgFrom.l0 k (b : Int) (v : Int) (ic (pre ++ post)) ((pre ++ post).length : Int) (pre.length : Int)) (if val b v post ≤ 1000000000000 then (((val b v post : Nat) : Int), true) else (0, false)) := by
  induction post with
  | nil =>
    intro pre v hv hd hl
    refine evs (fun k => by rw [spec_dgFrom.l0]) ?_
    exact evn (by simp) (evr (by simp [val, hv]))
  | cons d post ih =>
    intro pre v hv hd hl
    have hl2 : (pre ++ d :: post).length = pre.length + (post.length + 1) := by simp
    have hd1 := hd d (by simp)
    have hm : v * b ≤ 1000000000000 * 16 := Nat.mul_le_mul hv hb2
    have e1 : (v : Int) * (b : Int) = ((v * b : Nat) : Int) := (Int.natCast_mul _ _).symm
    have e2 : ((v * b : Nat) : Int) + (d : Int) = ((v * b + d : Nat) : Int) := by omega
    refine evs (fun k => by rw [spec_dgFrom.l0]) ?_
    rw [ic_rd, ic_length, hl2, e1, w64n (v * b) (by omega), e2, w64n (v * b + d) (by omega), w64 (x := (pre.length : Int) + 1) (by omega) (by omega)]
    refine evp (by omega) (evp (by omega) (evp (by omega) ?_))
    rw [show val b v (d :: post) = val b (v * b + d) post from rfl]
    by_cases h : v * b + d ≤ 1000000000000
    · have h3 := ih (pre ++ [d]) (v * b + d) h (fun x hx => hd x (by simp [hx])) (by simp at hl ⊢; omega)
      rw [List.append_assoc, List.singleton_append, hl2] at h3
      have e3 : (((pre ++ [d]).length : Nat) : Int) = (pre.length : Int) + 1 := by simp
      rw [e3] at h3
      exact evn (by omega) h3
    · have h4 := val_ge (b := b) (by omega) post (v * b + d)
      rw [if_neg (by omega)]
      exact evp (by omega) (Ev.now _)
def told (n : Nat) : Int × Bool := if n ≤ 1000000000000 then ((n : Int), true) else (0, false)
theorem spec_dgFrom_ev (b : Nat) (hb : 2 ≤ b) (hb2 : b ≤ 16) (l : List Nat) (hd : ∀ d ∈ l, d < b) (hl : l.length ≤ 1000000000000) : Ev (fun k => spec_dgFrom.f k (ic l) (b : Int)) (told (val b 0 l)) := by
  have h := spec_dgFrom_loop b hb hb2 l [] 0 (by omega) hd (by simpa using hl)
  unfold spec_dgFrom.f told
  rw [ic_length]
  simpa using h
theorem leastp_tab : ∀ b, b < 17 → 2 ≤ b → leastp b 1 ≤ 1000000 ∧ leastp b 2 ≤ 1000000 ∧ leastp b 3 ≤ 1000000 ∧ leastp b 1 / (b - 1) ≤ 40 ∧ leastp b 2 / (b - 1) ≤ 40 := by decide
theorem leastp_next {b : Nat} (hb : 2 ≤ b) (k : Nat) : val b 0 (lsd_least b (leastp b (k + 1))) = leastp b (k + 2) := by
  have h := least_val hb (leastp b (k + 1))
  show _ = lw b (leastp b (k + 1)) - 1
  omega
theorem lsd_lt {b : Nat} (hb : 2 ≤ b) (a : Nat) : ∀ d ∈ lsd_least b a, d < b := by
  intro d hd
  rcases List.mem_cons.1 hd with rfl | hd
  · have := Nat.mod_lt a (show 0 < b - 1 by omega)
    omega
  · have := List.eq_of_mem_replicate hd
    omega
theorem impl_ls_in (b : Nat) (hb : 2 ≤ b) (hb2 : b ≤ 16) (x0 : Int) (r : Int × Bool) (m : Nat) (hm : m ≤ 1000000) (t : Int) (e : Nat) : ∀ (i : Nat) (L : List Nat), i + e = m → L.length = i + 1 →
    (Ev (fun k => impl_value.f k (ic (L ++ List.replicate e (b - 1))) (b : Int)) t) → (Ev (fun k => if t > 1000000000000 then some (0, false) else impl_LeastSumPersistent.l0 k (wrap64 (x0 - 1)) (b : Int) t) r) →
    Ev (fun k => impl_LeastSumPersistent.l1 k x0 (b : Int) (ic L) (m : Int) (i : Int)) r := by
  induction e with
  | zero =>
    intro i L h1 h2 h3 h4
    refine evs (fun k => by rw [impl_LeastSumPersistent.l1]) ?_
    rw [List.replicate_zero, List.append_nil] at h3
    exact evn (by omega) (evb h3 h4)
  | succ e ih =>
    intro i L h1 h2 h3 h4
    have h5 := ih (i + 1) (L ++ [b - 1]) (by omega) (by simp; omega) (by rw [List.append_assoc, List.singleton_append, ← List.replicate_succ]; exact h3) h4
    refine evs (fun k => by rw [impl_LeastSumPersistent.l1]) ?_
    rw [w64 (x := (b : Int) - 1) (by omega) (by omega), w64 (x := (i : Int) + 1) (by omega) (by omega), show (b : Int) - 1 = ((b - 1 : Nat) : Int) by omega]
    refine evp (by omega) (evp (by rw [ic_length]; omega) ?_)
    rw [show ic L ++ [((b - 1 : Nat) : Int)] = ic (L ++ [b - 1]) by simp [ic]]
    exact h5
theorem impl_ls_loop (b : Nat) (hb : 2 ≤ b) (hb2 : b ≤ 16) (k : Nat) (hk : k ≤ 3) (e : Nat) : ∀ j : Nat, 1 ≤ j → j + e = k → Ev (fun n => impl_LeastSumPersistent.l0 n ((1 + e : Nat) : Int) (b : Int) (leastp b j : Int)) ((leastp b k : Int), true) := by
  obtain ⟨t1, t2, t3, t4, t5⟩ := leastp_tab b (by omega) hb
  induction e with
  | zero =>
    intro j h1 h2
    obtain rfl : j = k := by omega
    refine evs (fun n => by rw [impl_LeastSumPersistent.l0]) ?_
    exact evn (by omega) (Ev.now _)
  | succ e ih =>
    intro j h1 h2
    have h3 := ih (j + 1) (by omega) (by omega)
    obtain ⟨j, rfl⟩ : ∃ x, j = x + 1 := ⟨j - 1, by omega⟩
    have hj : leastp b (j + 1) ≤ 1000000 := by
      rcases (show j = 0 ∨ j = 1 by omega) with rfl | rfl <;> assumption
    have hj2 : leastp b (j + 2) ≤ 1000000 := by
      rcases (show j = 0 ∨ j = 1 by omega) with rfl | rfl <;> assumption
    have hj3 : leastp b (j + 1) / (b - 1) ≤ 40 := by
      rcases (show j = 0 ∨ j = 1 by omega) with rfl | rfl <;> assumption
    have hv := impl_value_ev b hb hb2 (lsd_least b (leastp b (j + 1))) (lsd_lt hb _) (by simp [lsd_least]; omega)
    rw [leastp_next hb, if_pos (by omega)] at hv
    refine evs (fun n => by rw [impl_LeastSumPersistent.l0]) ?_
    rw [w64 (x := (b : Int) - 1) (by omega) (by omega), show (b : Int) - 1 = ((b - 1 : Nat) : Int) by omega, tmod_cast, tdiv_cast, w64n _ (by omega)]
    refine evp (by omega) (evn (by omega) ?_)
    refine impl_ls_in b hb hb2 _ _ (leastp b (j + 1) / (b - 1)) (by omega) (leastp b (j + 2) : Int) (leastp b (j + 1) / (b - 1)) 0 [leastp b (j + 1) % (b - 1)] (by omega) rfl hv ?_
    rw [w64 (x := (((1 + (e + 1) : Nat)) : Int) - 1) (by omega) (by omega), show (((1 + (e + 1) : Nat)) : Int) - 1 = ((1 + e : Nat) : Int) by omega]
    exact evn (by omega) h3
theorem mn_eq (a b : Int) : mn a b = if a ≤ b then a else b := by unfold mn; split <;> split <;> omega
def lspR (k b : Int) : Int × Bool := if (0 ≤ k ∧ k ≤ 3) ∧ 2 ≤ b ∧ b ≤ 16 then ((leastp b.toNat k.toNat : Int), true) else (0, false)
theorem impl_Least_ev (k b : Int) : Ev (fun n => impl_LeastSumPersistent.f n k b) (lspR k b) := by
  have no : Ev (fun n => impl_LeastSumPersistent.j0 n k b true) (0, false) := by
    refine evs (fun n => by rw [impl_LeastSumPersistent.j0]) ?_
    exact evp rfl (Ev.now _)
  simp only [impl_LeastSumPersistent.f, impl_in_eq, impl_isBase_eq, Option.bind_some, decide_eq_true_eq]
  unfold lspR
  by_cases h1 : 0 ≤ k ∧ k ≤ 3
  · refine evp h1 ?_
    by_cases h2 : 2 ≤ b ∧ b ≤ 16
    · obtain ⟨k, rfl⟩ := natOf h1.1
      obtain ⟨b, rfl⟩ := natOf (a := b) (by omega)
      rw [decide_eq_true h2, if_pos ⟨h1, h2⟩, Int.toNat_natCast, Int.toNat_natCast]
      refine evs (fun n => by rw [impl_LeastSumPersistent.j0]) ?_
      refine evn (by simp) ?_
      rcases Nat.eq_zero_or_pos k with h0 | h0
      · subst h0
        have e : wrap64 (mn ((0 : Nat) : Int) 1 * (b : Int)) = 0 := by rw [mn_eq, if_pos (by omega)]; simp [wrap64]
        rw [e]
        refine evs (fun n => by rw [impl_LeastSumPersistent.l0]) ?_
        exact evn (by omega) (Ev.now _)
      · have e : wrap64 (mn (k : Int) 1 * (b : Int)) = (leastp b 1 : Int) := by
          rw [mn_eq]
          have : (if (k : Int) ≤ 1 then (k : Int) else 1) = 1 := by split <;> omega
          rw [this, Int.one_mul, w64n b (by omega)]
          rfl
        rw [e]
        have := impl_ls_loop b (by omega) (by omega) k (by omega) (k - 1) 1 (by omega) (by omega)
        rw [show 1 + (k - 1) = k by omega] at this
        exact this
    · rw [decide_eq_false h2, if_neg (fun h => h2 h.2)]
      exact no
  · rw [if_neg (fun h => h1 h.1)]
    exact evn h1 no
theorem spec_ls_in (b : Nat) (hb : 2 ≤ b) (hb2 : b ≤ 16) (x0 : Int) (n : Nat) (hn : n ≤ 1000000) (i0 : Int) (r : Int × Bool) (v : Nat) (hv : v ≤ 1000000000000) (e : Nat) : ∀ (i : Nat) (L : List Nat), i + e = n / (b - 1) → L.length ≤ i + 1 → i ≤ 1000 → n / (b - 1) ≤ 1000 →
    (Ev (fun k => spec_dgFrom.f k (ic (L ++ List.replicate e (b - 1))) (b : Int)) (told v)) → (Ev (fun k => spec_LeastSumPersistent.l0 k x0 (b : Int) (v : Int) (wrap64 (i0 + 1))) r) →
    Ev (fun k => spec_LeastSumPersistent.l1 k x0 (b : Int) (n : Int) i0 (ic L) (i : Int)) r := by
  induction e with
  | zero =>
    intro i L h1 h2 h5 h6 h3 h4
    refine evs (fun k => by rw [spec_LeastSumPersistent.l1]) ?_
    rw [List.replicate_zero, List.append_nil] at h3
    unfold told at h3
    rw [if_pos hv] at h3
    rw [w64 (x := (b : Int) - 1) (by omega) (by omega), show (b : Int) - 1 = ((b - 1 : Nat) : Int) by omega, tdiv_cast, w64n _ (by omega)]
    exact evn (by omega) (evn (by omega) (evb h3 (evp rfl h4)))
  | succ e ih =>
    intro i L h1 h2 h5 h6 h3 h4
    have h7 := ih (i + 1) (L ++ [b - 1]) (by omega) (by simp; omega) (by omega) h6 (by rw [List.append_assoc, List.singleton_append, ← List.replicate_succ]; exact h3) h4
    refine evs (fun k => by rw [spec_LeastSumPersistent.l1]) ?_
    rw [w64 (x := (b : Int) - 1) (by omega) (by omega), w64 (x := (i : Int) + 1) (by omega) (by omega), show (b : Int) - 1 = ((b - 1 : Nat) : Int) by omega, tdiv_cast, w64n _ (by omega)]
    refine evn (by omega) (evp (by omega) (evp (by rw [ic_length]; omega) ?_))
    rw [show ic L ++ [((b - 1 : Nat) : Int)] = ic (L ++ [b - 1]) by simp [ic]]
    exact h7
theorem spec_ls_loop (b : Nat) (hb : 2 ≤ b) (hb2 : b ≤ 16) (k : Nat) (hk : k ≤ 3) (e : Nat) : ∀ j : Nat, 1 ≤ j → j + e = k → Ev (fun n => spec_LeastSumPersistent.l0 n (k : Int) (b : Int) (leastp b j : Int) ((j + 1 : Nat) : Int)) ((leastp b k : Int), true) := by
  obtain ⟨t1, t2, t3, t4, t5⟩ := leastp_tab b (by omega) hb
  induction e with
  | zero =>
    intro j h1 h2
    obtain rfl : j = k := by omega
    refine evs (fun n => by rw [spec_LeastSumPersistent.l0]) ?_
    exact evn (by omega) (Ev.now _)
  | succ e ih =>
    intro j h1 h2
    have h3 := ih (j + 1) (by omega) (by omega)
    obtain ⟨j, rfl⟩ : ∃ x, j = x + 1 := ⟨j - 1, by omega⟩
    have hj : leastp b (j + 1) ≤ 1000000 := by
      rcases (show j = 0 ∨ j = 1 by omega) with rfl | rfl <;> assumption
    have hj2 : leastp b (j + 2) ≤ 1000000 := by
      rcases (show j = 0 ∨ j = 1 by omega) with rfl | rfl <;> assumption
    have hj3 : leastp b (j + 1) / (b - 1) ≤ 40 := by
      rcases (show j = 0 ∨ j = 1 by omega) with rfl | rfl <;> assumption
    have hl := lsd_lt hb (leastp b (j + 1))
    have hval := leastp_next hb j
    have key : ∀ L : List Nat, L.length ≤ 1 → (∀ d ∈ L ++ List.replicate (leastp b (j + 1) / (b - 1)) (b - 1), d < b) → val b 0 (L ++ List.replicate (leastp b (j + 1) / (b - 1)) (b - 1)) = leastp b (j + 2) →
        Ev (fun n => spec_LeastSumPersistent.j2 n (k : Int) (b : Int) (leastp b (j + 1) : Int) ((j + 1 + 1 : Nat) : Int) (ic L)) ((leastp b k : Int), true) := by
      intro L hL hd hv
      have hf := spec_dgFrom_ev b hb hb2 _ hd (by simp; omega)
      rw [hv] at hf
      refine evs (fun n => by rw [spec_LeastSumPersistent.j2]) ?_
      rw [w64 (x := (b : Int) - 1) (by omega) (by omega), show (b : Int) - 1 = ((b - 1 : Nat) : Int) by omega, tdiv_cast, w64n _ (by omega)]
      refine evn (by omega) (evn (by omega) ?_)
      refine spec_ls_in b hb hb2 _ _ (by omega) _ _ (leastp b (j + 2)) (by omega) _ 0 L (by omega) (by omega) (by omega) (by omega) hf ?_
      rw [w64 (x := (((j + 1 + 1 : Nat)) : Int) + 1) (by omega) (by omega), show (((j + 1 + 1 : Nat)) : Int) + 1 = ((j + 1 + 1 + 1 : Nat) : Int) by omega]
      exact h3
    refine evs (fun n => by rw [spec_LeastSumPersistent.l0]) ?_
    rw [w64 (x := (b : Int) - 1) (by omega) (by omega), show (b : Int) - 1 = ((b - 1 : Nat) : Int) by omega, tmod_cast]
    refine evp (by omega) (evn (by omega) (evn (by omega) ?_))
    by_cases h0 : leastp b (j + 1) % (b - 1) = 0
    · refine evn (by omega) ?_
      refine key [] (by simp) (fun d hd => hl d (by unfold lsd_least; exact List.mem_cons_of_mem _ (by simpa using hd))) ?_
      rw [← hval]
      unfold lsd_least
      rw [h0]
      simp [val]
    · refine evp (by omega) (evp (by simp) ?_)
      exact key [leastp b (j + 1) % (b - 1)] (by simp) (fun d hd => hl d (by unfold lsd_least; simpa using hd)) hval
theorem spec_Least_ev (k b : Int) : Ev (fun n => spec_LeastSumPersistent.f n k b) (lspR k b) := by
  have no : Ev (fun n => spec_LeastSumPersistent.j0 n k b true) (0, false) := by
    refine evs (fun n => by rw [spec_LeastSumPersistent.j0]) ?_
    exact evp rfl (Ev.now _)
  simp only [spec_LeastSumPersistent.f, spec_l1In_eq, spec_dgBase_eq, Option.bind_some, decide_eq_true_eq]
  unfold lspR
  by_cases h2 : 2 ≤ b ∧ b ≤ 16
  · refine evp h2 ?_
    by_cases h1 : 0 ≤ k ∧ k ≤ 3
    · obtain ⟨k, rfl⟩ := natOf h1.1
      obtain ⟨b, rfl⟩ := natOf (a := b) (by omega)
      rw [decide_eq_true h1, if_pos ⟨h1, h2⟩, Int.toNat_natCast, Int.toNat_natCast]
      refine evs (fun n => by rw [spec_LeastSumPersistent.j0]) ?_
      refine evn (by simp) ?_
      rcases Nat.eq_zero_or_pos k with h0 | h0
      · subst h0
        refine evs (fun n => by rw [spec_LeastSumPersistent.l0]) ?_
        exact evn (by omega) (Ev.now _)
      · refine evs (fun n => by rw [spec_LeastSumPersistent.l0]) ?_
        rw [show wrap64 ((1 : Int) + 1) = ((1 + 1 : Nat) : Int) by rw [w64 (by omega) (by omega)]; rfl]
        exact evp (by omega) (evp rfl (spec_ls_loop b (by omega) (by omega) k (by omega) (k - 1) 1 (by omega) (by omega)))
    · rw [decide_eq_false h1, if_neg (fun h => h1 h.1)]
      exact no
  · rw [if_neg (fun h => h2 h.2)]
    exact evn h2 no

theorem laws_qSame_loop (post : List Int) : ∀ (pre post' : List Int), post'.length = post.length → (pre ++ post).length ≤ 4611686018427387904 →
    Ev (fun k => laws_qSame.l0 k (pre ++ post) (pre ++ post') ((pre ++ post).length : Int) (pre.length : Int)) (decide (post = post')) := by
  induction post with
  | nil =>
    intro pre post' hl h
    obtain rfl : post' = [] := List.eq_nil_of_length_eq_zero hl
    refine evs (fun k => by rw [laws_qSame.l0]) ?_
    exact evn (by simp) (evr (by simp))
  | cons x post ih =>
    intro pre post' hl h
    obtain ⟨y, post', rfl⟩ : ∃ y z, post' = y :: z := by cases post' with
      | nil => simp at hl
      | cons y z => exact ⟨y, z, rfl⟩
    refine evs (fun k => by rw [laws_qSame.l0]) ?_
    refine evp (by simp; omega) (evp (by omega) (evp (by simp; omega) (evp (by simp; omega) ?_)))
    rw [rd_mid, rd_mid]
    by_cases he : x = y
    · subst he
      refine evp rfl ?_
      have h2 := ih (pre ++ [x]) post' (by simpa using hl) (by simpa using h)
      simp only [List.append_assoc, List.singleton_append] at h2
      rw [w64 (by omega) (by simp at h; omega)]
      simpa using h2
    · exact evn he (evr (by simp [he]))
theorem laws_qSame_ev (l l' : List Int) (h : l.length ≤ 4611686018427387904) : Ev (fun k => laws_qSame.f k l l') (decide (l = l')) := by
  unfold laws_qSame.f
  by_cases hl : l.length = l'.length
  · exact evp (by omega) (by simpa using laws_qSame_loop l [] l' hl.symm (by simpa using h))
  · exact evn (by omega) (evr (by symm; rw [decide_eq_false_iff_not]; exact fun e => hl (by rw [e])))
theorem laws_qSame_self (l : List Int) (h : l.length ≤ 4611686018427387904) : Ev (fun k => laws_qSame.f k l l) true := by simpa using laws_qSame_ev l l h

theorem drawSum_ok (l : List Int) (hl : ∀ x ∈ l, 0 ≤ x ∧ x ≤ 255) : ∃ n b : Int, Ev (fun k => spec_DrawSumRun.f k l) (n, b) := by
  obtain ⟨v, p, s, e, _, _⟩ := number_ok l hl 0 0 (by omega) (by omega)
  obtain ⟨b, p2, s2, e2, _, _⟩ := base_ok l hl p s (by omega) (by omega)
  refine ⟨v, b, evb (a := (v, b)) ?_ (Ev.now _)⟩
  refine evb e ?_
  simp only [e2, Option.bind_some]
  exact Ev.now _
theorem impl_root2 (b : Nat) (hb : 2 ≤ b) (n : Nat) : n ≤ 1000000000000 → Ev (fun k => impl_DigitalRoot.l0 k (n : Int) (b : Int)) ((droot b n : Int), true) := by
  induction n using Nat.strongRecOn with
  | _ n ih =>
    intro hn
    refine evs (fun k => by rw [impl_DigitalRoot.l0]) ?_
    by_cases h : b ≤ n
    · have hlt := dsum_lt hb n h
      have h2 := ih _ hlt (by omega)
      rw [droot_dsum hb] at h2
      exact evp (by omega) (evb (impl_digitSum_ev b n hb hn) h2)
    · rw [droot_small hb n (by omega)]
      exact evn (by omega) (Ev.now _)
theorem rem_eq (b n : Nat) (hb : 2 ≤ b) (hb2 : b ≤ 16) (hn : n ≤ 1000000000000) : impl_RootByRemainder.f (n : Int) (b : Int) = some ((droot b n : Int), true) ∧ spec_RootByRemainder.f (n : Int) (b : Int) = some ((droot b n : Int), true) := by
  have h1 : impl_isNumber.f (n : Int) (b : Int) = some true := by rw [impl_isNumber_eq, decide_eq_true (by omega)]
  have h2 : spec_dgAsked.f (n : Int) (b : Int) = some true := by rw [spec_dgAsked_eq, decide_eq_true (by omega)]
  unfold impl_RootByRemainder.f spec_RootByRemainder.f droot
  rw [h1, h2]
  simp only [Option.bind_some, if_true]
  rcases Nat.eq_zero_or_pos n with h0 | h0
  · subst h0
    exact ⟨rfl, rfl⟩
  · have e1 : wrap64 ((n : Int) - 1) = ((n - 1 : Nat) : Int) := by rw [w64 (by omega) (by omega)]; omega
    have e2 : wrap64 ((b : Int) - 1) = ((b - 1 : Nat) : Int) := by rw [w64 (by omega) (by omega)]; omega
    have hm := Nat.mod_lt (n - 1) (show 0 < b - 1 by omega)
    rw [e1, e2, tmod_cast, if_neg (by omega), if_neg (by omega), if_neg (by omega), if_neg (by omega)]
    generalize (n - 1) % (b - 1) = m at hm
    rw [w64 (x := 1 + (m : Int)) (by omega) (by omega), w64 (x := (m : Int) + 1) (by omega) (by omega), show (1 : Int) + (m : Int) = ((1 + m : Nat) : Int) by omega, show (m : Int) + 1 = ((1 + m : Nat) : Int) by omega]
    have z : ¬ ((b - 1 : Nat) : Int) = 0 := by omega
    refine ⟨?_, ?_⟩ <;> first | rfl | (rw [if_neg z])
theorem j3_ok (l : List Int) (hl : ∀ x ∈ l, 0 ≤ x ∧ x ≤ 255) : Ev (fun k => laws_FnSumsOfDigitsRun.j3 k l) true := by
  have hd : ∃ a b : Int, spec_DrawLeastSumPersistent.f l = some (a, b) := by
    obtain ⟨v, p, s, e, a1, _, c1, d1, f1⟩ := pick_ok l hl 0 0 6 (by omega) (by omega) (by omega)
    obtain ⟨b, p2, s2, e2, _, _⟩ := base_ok l hl p s (by omega) (by omega)
    unfold spec_DrawLeastSumPersistent.f
    simp only [e, e2, Option.bind_some]
    exact ⟨_, _, rfl⟩
  obtain ⟨a, b, e⟩ := hd
  refine evs (fun k => by rw [laws_FnSumsOfDigitsRun.j3]) ?_
  simp only [e, Option.bind_some]
  refine evb (impl_Least_ev a b) (evb (spec_Least_ev a b) (evn (by simp) ?_))
  refine evs (fun k => by rw [laws_FnSumsOfDigitsRun.j4]) ?_
  refine evn (by simp) ?_
  unfold lspR
  by_cases h : (0 ≤ a ∧ a ≤ 3) ∧ 2 ≤ b ∧ b ≤ 16
  · rw [if_pos h]
    obtain ⟨a, rfl⟩ := natOf h.1.1
    obtain ⟨b, rfl⟩ := natOf (a := b) (by omega)
    rw [Int.toNat_natCast, Int.toNat_natCast]
    obtain ⟨t1, t2, t3, _, _⟩ := leastp_tab b (by omega) (by omega)
    have hle : leastp b a ≤ 1000000 := by
      rcases (show a = 0 ∨ a = 1 ∨ a = 2 ∨ a = 3 by omega) with rfl | rfl | rfl | rfl
      · exact Nat.zero_le _
      · assumption
      · assumption
      · assumption
    have hp := impl_SumPers_ev b (leastp b a) (by omega) (by omega) (by omega)
    rw [leastp_pers (by omega)] at hp
    exact evp rfl (evb hp (evp rfl (evr (by simp))))
  · rw [if_neg h]
    exact evn (by simp) (Ev.now _)
theorem sumrun_split {b : Nat} (hb : 2 ≤ b) (n : Nat) : ∀ (pre : List Nat) (x : Nat) (y : Nat) (post : List Nat), sumrun b n = pre ++ x :: y :: post → y = dsum b x ∧ b ≤ x ∧ x ≤ n := by
  induction n using Nat.strongRecOn with
  | _ n ih =>
    intro pre x y post h
    by_cases hn : b ≤ n
    · have hlt := dsum_lt hb n hn
      rw [sumrun_big hb hn] at h
      cases pre with
      | nil =>
        simp only [List.nil_append, List.cons.injEq] at h
        obtain ⟨h1, h2⟩ := h
        subst h1
        have h3 : sumrun b (dsum b n) = dsum b n :: (sumrun b (dsum b n)).tail := by
          by_cases h4 : b ≤ dsum b n
          · rw [sumrun_big hb h4]; rfl
          · rw [sumrun_small (by omega)]; rfl
        rw [h3] at h2
        exact ⟨(List.cons.inj h2).1.symm, hn, Nat.le_refl _⟩
      | cons z pre =>
        simp only [List.cons_append, List.cons.injEq] at h
        have h5 := ih _ hlt pre x y post h.2
        exact ⟨h5.1, h5.2.1, by omega⟩
    · rw [sumrun_small (by omega)] at h
      have := congrArg List.length h
      simp at this
      omega
theorem l0_ok (l : List Int) (hl : ∀ x ∈ l, 0 ≤ x ∧ x ≤ 255) (b n : Nat) (hb : 2 ≤ b) (hb2 : b ≤ 16) (hn : n ≤ 1000000000000) (post : List Nat) : ∀ (pre : List Nat) (x : Nat), sumrun b n = pre ++ x :: post →
    Ev (fun k => laws_FnSumsOfDigitsRun.l0 k l (n : Int) (b : Int) (ic (sumrun b n)) (spers b n : Int) ((pre.length + 1 : Nat) : Int)) true := by
  have hlen := sumrun_len hb n
  induction post with
  | nil =>
    intro pre x hp
    have hl1 : (sumrun b n).length = pre.length + 1 := by rw [hp]; simp
    refine evs (fun k => by rw [laws_FnSumsOfDigitsRun.l0]) ?_
    refine evn (by rw [ic_length]; omega) (evb (impl_Least_ev _ _) ?_)
    unfold lspR
    by_cases h : (0 ≤ (spers b n : Int) ∧ (spers b n : Int) ≤ 3) ∧ 2 ≤ (b : Int) ∧ (b : Int) ≤ 16
    · rw [if_pos h, Int.toNat_natCast, Int.toNat_natCast]
      have := leastp_le hb (spers b n) n rfl
      exact evp rfl (evn (by simp only; omega) (j3_ok l hl))
    · rw [if_neg h]
      exact evn (by simp) (j3_ok l hl)
  | cons y post ih =>
    intro pre x hp
    obtain ⟨h1, h2, h3⟩ := sumrun_split hb n pre x y post hp
    have hnext := ih (pre ++ [x]) y (by rw [hp]; simp)
    have hl1 : (sumrun b n).length = pre.length + (post.length + 2) := by rw [hp]; simp
    have r1 : rd (ic (sumrun b n)) (pre.length : Int) = (x : Int) := by rw [hp, ic_rd]
    have r2 : rd (ic (sumrun b n)) ((pre.length + 1 : Nat) : Int) = (y : Int) := by
      rw [hp, show pre ++ x :: y :: post = (pre ++ [x]) ++ y :: post by simp, show pre.length + 1 = (pre ++ [x]).length by simp, ic_rd]
    have hlt := dsum_lt hb x h2
    obtain ⟨q, hq⟩ := dsum_rest hb x
    have hsum : Ev (fun k => impl_DigitSum.f k (x : Int) (b : Int)) ((dsum b x : Int), true) := by
      simp only [impl_DigitSum.f, impl_isNumber_eq, Option.bind_some, decide_eq_true_eq]
      exact evp (by omega) (evb (impl_digitSum_ev b x hb (by omega)) (Ev.now _))
    refine evs (fun k => by rw [laws_FnSumsOfDigitsRun.l0]) ?_
    rw [w64 (x := ((pre.length + 1 : Nat) : Int) - 1) (by omega) (by omega), show ((pre.length + 1 : Nat) : Int) - 1 = (pre.length : Int) by omega, r1, r2]
    have hm : Int.tmod (wrap64 ((x : Int) - (dsum b x : Int))) (wrap64 ((b : Int) - 1)) = 0 := by
      have e1 : (x : Int) - (dsum b x : Int) = ((q * (b - 1) : Nat) : Int) := by omega
      rw [e1, w64n _ (by omega), w64 (x := (b : Int) - 1) (by omega) (by omega), show (b : Int) - 1 = ((b - 1 : Nat) : Int) by omega, tmod_cast, Nat.mul_mod_left]
      rfl
    refine evp (by rw [ic_length]; omega) (evp (by omega) (evp (by rw [ic_length]; omega) (evb hsum (evp rfl (evp (by omega) (evp (by simp only; omega) (evn (by simp only; omega) (evn (by rw [w64 (by omega) (by omega)]; omega) (evp hm ?_)))))))))
    rw [w64 (x := ((pre.length + 1 : Nat) : Int) + 1) (by omega) (by omega)]
    have e2 : (((pre ++ [x]).length + 1 : Nat) : Int) = ((pre.length + 1 : Nat) : Int) + 1 := by simp
    rw [e2] at hnext
    exact hnext
theorem FnSumsOfDigitsRun : laws_FnSumsOfDigitsRun.Pure := by
  intro l0 l1 _ _ w0 _ _ w1
  have hb : ∀ l : List Int, (∀ x ∈ l, (Lit.int .u8 x).wf = true) → ∀ x ∈ l, 0 ≤ x ∧ x ≤ 255 := by
    intro l h x hx
    have := h x hx
    simpa [Lit.wf, IntKind.min, IntKind.max, IntKind.signed, IntKind.bits] using this
  have hl0 := hb l0 w0
  have hl1 := hb l1 w1
  refine Ev.rounds (g := fun k => laws_FnSumsOfDigitsRun.f k l0 l1) ?_
  unfold laws_FnSumsOfDigitsRun.f
  obtain ⟨t, ht⟩ : ∃ t, laws_big.f l0 l1 = some t := by
    unfold laws_big.f
    split <;> exact ⟨_, rfl⟩
  rw [ht]
  simp only [Option.bind_some]
  cases t with
  | true => exact evp rfl (Ev.now _)
  | false =>
    refine evn (by simp) ?_
    obtain ⟨n, b, e⟩ := drawSum_ok l0 hl0
    refine evb e ?_
    by_cases h : (0 ≤ n ∧ n ≤ 1000000000000) ∧ 2 ≤ b ∧ b ≤ 16
    · obtain ⟨n, rfl⟩ := natOf (a := n) (by omega)
      obtain ⟨b, rfl⟩ := natOf (a := b) (by omega)
      have hb : 2 ≤ b := by omega
      have hb2 : b ≤ 16 := by omega
      have hn : n ≤ 1000000000000 := by omega
      obtain ⟨e1, e2⟩ := rem_eq b n hb hb2 hn
      have hlen := sumrun_len hb n
      refine evb (impl_SumRun_ev b n hb hb2 hn) (evb (spec_SumRun_ev b n hb hb2 hn) (evb (impl_SumPers_ev b n hb hb2 hn) (evb (spec_SumPers_ev b n hb hb2 hn) (evc e1 (evc e2 ?_)))))
      refine evn (by simp) (evb (laws_qSame_self _ (by rw [ic_length]; omega)) (evp rfl (evn (by simp) (evp rfl (evn (by simp) (evp rfl (evn (by simp) ?_)))))))
      refine evs (fun k => by rw [laws_FnSumsOfDigitsRun.j0]) ?_
      have hroot : Ev (fun k => impl_DigitalRoot.f k (n : Int) (b : Int)) ((droot b n : Int), true) := by
        simp only [impl_DigitalRoot.f, impl_isNumber_eq, Option.bind_some, decide_eq_true_eq]
        exact evp h (impl_root2 b hb n hn)
      have hlast : rd (ic (sumrun b n)) (((sumrun b n).length : Int) - 1) = (droot b n : Int) := by
        rw [← sumrun_last hb n, List.getLast_eq_getElem, show ((sumrun b n).length : Int) - 1 = (((sumrun b n).length - 1 : Nat) : Int) by omega, rd_get _ _ (by rw [ic_length]; omega)]
        simp [ic]
      rw [ic_length, w64 (x := ((sumrun b n).length : Int) - 1) (by omega) (by omega)]
      refine evn (by simp) (evp rfl (evp (by omega) (evp (by omega) (evb hroot (evp ?_ (evp hlast (evp rfl ?_)))))))
      · have hsp : spers b n = (sumrun b n).length - 1 := rfl
        rw [w64 (by omega) (by omega)]
        omega
      · refine evs (fun k => by rw [laws_FnSumsOfDigitsRun.j1]) ?_
        refine evn (by simp) ?_
        cases hq : sumrun b n with
        | nil => rw [hq] at hlen; simp at hlen
        | cons x post =>
          have := l0_ok l1 hl1 b n hb hb2 hn post [] x hq
          rw [hq] at this
          exact this
    · have no1 : impl_isNumber.f n b = some false := by rw [impl_isNumber_eq, decide_eq_false h]
      have no2 : spec_dgAsked.f n b = some false := by rw [spec_dgAsked_eq, decide_eq_false h]
      have a1 : Ev (fun k => impl_SumRun.f k n b) ([], false) := evc no1 (evn (by simp) (Ev.now _))
      have a2 : Ev (fun k => spec_SumRun.f k n b) ([], false) := evc no2 (evn (by simp) (Ev.now _))
      have a3 : Ev (fun k => impl_SumPersistence.f k n b) (0, false) := evc no1 (evn (by simp) (Ev.now _))
      have a4 : Ev (fun k => spec_SumPersistence.f k n b) (0, false) := evc no2 (evn (by simp) (Ev.now _))
      have a5 : impl_RootByRemainder.f n b = some (0, false) := by unfold impl_RootByRemainder.f; rw [no1]; rfl
      have a6 : spec_RootByRemainder.f n b = some (0, false) := by unfold spec_RootByRemainder.f; rw [no2]; rfl
      refine evb a1 (evb a2 (evb a3 (evb a4 (evc a5 (evc a6 ?_)))))
      refine evn (by simp) (evb (laws_qSame_self _ (by simp)) (evp rfl (evn (by simp) (evp rfl (evn (by simp) (evp rfl (evn (by simp) ?_)))))))
      refine evs (fun k => by rw [laws_FnSumsOfDigitsRun.j0]) ?_
      exact evn (by simp) (evn (by simp) (j3_ok l1 hl1))

end Go.Proofs.Ytikkpehjleoplaa.Pure
