/- For all codes: digits, counts and texts tell their numbers, and sums leave the remainder of digital roots. -/
import Derived.Test.YtiheocddlopfcaaPFnDigitsTellNumbersx9
import Derived.Test.YtiheocddlopfcaaWMore
set_option linter.unusedVariables false
set_option linter.unusedSimpArgs false
namespace Go.Proofs.Ytiheocddlopfcaa.Pure
open Go.RowKit Go.Proofs.Ytiheocddlopfcaa.PFnDigitsTellNumbers Go.Proofs.YtiheocddlopfcaaW.PrintWords Go.Proofs.YtiheocddlopfcaaW.PrintLast

theorem w64 {x : Int} (h1 : -9223372036854775808 ≤ x) (h2 : x ≤ 9223372036854775807) : wrap64 x = x := by unfold wrap64; omega
theorem w64o {x : Int} (h1 : -9223372036854775808 ≤ x := by omega) (h2 : x ≤ 9223372036854775807 := by omega) : wrap64 x = x := w64 h1 h2
abbrev Bs (l : List Int) : Prop := ∀ x ∈ l, 0 ≤ x ∧ x ≤ 255

theorem w64n (n : Nat) (h : n ≤ 9223372036854775807) : wrap64 (n : Int) = (n : Int) := w64 (by omega) (by omega)

theorem evp {α : Type} {c : Prop} [Decidable c] {a b : Nat → Option α} {r : α} (h : c) (k : Ev a r) : Ev (fun n => if c then a n else b n) r := Ev.congr (fun _ => if_pos h) k
theorem evn {α : Type} {c : Prop} [Decidable c] {a b : Nat → Option α} {r : α} (h : ¬ c) (k : Ev b r) : Ev (fun n => if c then a n else b n) r := Ev.congr (fun _ => if_neg h) k
theorem evr {α : Type} {x r : α} (h : x = r) : Ev (fun _ => some x) r := h ▸ Ev.now x
theorem evb {α β : Type} {g : Nat → Option α} {f : Nat → α → Option β} {a : α} {r : β} (h : Ev g a) (k : Ev (fun n => f n a) r) : Ev (fun n => (g n).bind fun x => f n x) r := Ev.bind h k
theorem evc {α β : Type} {x : Option α} {a : α} {f : Nat → α → Option β} {r : β} (h : x = some a) (k : Ev (fun n => f n a) r) : Ev (fun n => x.bind fun y => f n y) r := by subst h; exact k
theorem evs {α : Type} {g f : Nat → Option α} {r : α} (h : ∀ k, g (k + 1) = f k) (k : Ev f r) : Ev g r := Ev.step h k
theorem rd_mid (pre post : List Int) (x : Int) : rd (pre ++ x :: post) (pre.length : Int) = x := by simp [rd]
theorem set_mid {α : Type} (pre post : List α) (x y : α) : (pre ++ x :: post).set pre.length y = pre ++ y :: post := by simp
theorem rd_mem (xs : List Int) (i : Int) (h0 : 0 ≤ i) (h : i < xs.length) : rd xs i ∈ xs := by
 have hi : i.toNat < xs.length := by omega
 simp only [rd, List.getD_eq_getElem?_getD, List.getElem?_eq_getElem hi, Option.getD_some]
 exact List.getElem_mem hi
def ic (l : List Nat) : List Int := l.map (fun x : Nat => (x : Int))
theorem ic_cons (x : Nat) (l : List Nat) : ic (x :: l) = (x : Int) :: ic l := rfl
theorem ic_append (l m : List Nat) : ic (l ++ m) = ic l ++ ic m := by simp [ic]
theorem ic_length (l : List Nat) : (ic l).length = l.length := by simp [ic]
def lsd (b : Nat) : Nat → Nat → List Nat
 | 0, _ => []
 | f + 1, n => if n = 0 then [] else n % b :: lsd b f (n / b)
theorem lsd_zero (b f : Nat) : lsd b f 0 = [] := by cases f <;> simp [lsd]
theorem lsd_fuel {b : Nat} (hb : 2 ≤ b) (n : Nat) : ∀ f g : Nat, n ≤ f → n ≤ g → lsd b f n = lsd b g n := by
 induction n using Nat.strongRecOn with
 | _ n ih =>
  intro f g hf hg
  by_cases h : n = 0
  ·subst h
   rw [lsd_zero, lsd_zero]
  ·obtain ⟨f, rfl⟩ : ∃ x, f = x + 1 := ⟨f - 1, by omega⟩
   obtain ⟨g, rfl⟩ : ∃ x, g = x + 1 := ⟨g - 1, by omega⟩
   have hlt : n / b < n := Nat.div_lt_self (by omega) (by omega)
   simp only [lsd, if_neg h]
   rw [ih (n / b) hlt f g (by omega) (by omega)]
def low (b n : Nat) : List Nat := lsd b n n
theorem low_zero (b : Nat) : low b 0 = [] := rfl
theorem low_succ {b n : Nat} (hb : 2 ≤ b) (hn : 1 ≤ n) : low b n = n % b :: low b (n / b) := by
 obtain ⟨m, rfl⟩ : ∃ x, n = x + 1 := ⟨n - 1, by omega⟩
 have hlt : (m + 1) / b < m + 1 := Nat.div_lt_self (by omega) (by omega)
 show lsd b (m + 1) (m + 1) = _
 simp only [lsd]
 rw [if_neg (by omega)]
 show _ = _ :: lsd b _ _
 rw [lsd_fuel hb ((m + 1) / b) m ((m + 1) / b) (by omega) (Nat.le_refl _)]
def dgl (b n : Nat) : List Nat := if n = 0 then [0] else (low b n).reverse
def val (b : Nat) (v : Nat) : List Nat → Nat
 | [] => v
 | d :: l => val b (v * b + d) l
theorem val_append (b v : Nat) (l m : List Nat) : val b v (l ++ m) = val b (val b v l) m := by
 induction l generalizing v with
 | nil => rfl
 | cons d l ih => exact ih _
theorem val_ge {b : Nat} (hb : 1 ≤ b) (l : List Nat) : ∀ v : Nat, v ≤ val b v l := by
 induction l with
 | nil => intro v; exact Nat.le_refl _
 | cons d l ih =>
  intro v
  have h := ih (v * b + d)
  have h2 : v * 1 ≤ v * b := Nat.mul_le_mul_left _ hb
  simp only [val]
  omega
theorem low_lt {b : Nat} (hb : 2 ≤ b) (n : Nat) : ∀ d ∈ low b n, d < b := by
 induction n using Nat.strongRecOn with
 | _ n ih =>
  by_cases h : n = 0
  ·subst h
   simp [low_zero]
  ·have hlt : n / b < n := Nat.div_lt_self (by omega) (by omega)
   rw [low_succ hb (by omega)]
   intro d hd
   rcases List.mem_cons.1 hd with rfl | hd
   ·exact Nat.mod_lt _ (by omega)
   ·exact ih _ hlt d hd
theorem low_val {b : Nat} (hb : 2 ≤ b) (n : Nat) : val b 0 (low b n).reverse = n := by
 induction n using Nat.strongRecOn with
 | _ n ih =>
  by_cases h : n = 0
  ·subst h
   rfl
  ·have hlt : n / b < n := Nat.div_lt_self (by omega) (by omega)
   rw [low_succ hb (by omega), List.reverse_cons, val_append, ih _ hlt]
   simp only [val]
   have := Nat.div_add_mod n b
   rw [Nat.mul_comm (n / b) b]
   omega
theorem dgl_val {b : Nat} (hb : 2 ≤ b) (n : Nat) : val b 0 (dgl b n) = n := by
 unfold dgl
 by_cases h : n = 0
 ·subst h
  rw [if_pos rfl]
  simp [val]
 ·rw [if_neg h, low_val hb]
theorem dgl_lt {b : Nat} (hb : 2 ≤ b) (n : Nat) : ∀ d ∈ dgl b n, d < b := by
 unfold dgl
 by_cases h : n = 0
 ·subst h
  rw [if_pos rfl]
  intro d hd
  rw [List.mem_singleton.1 hd]
  omega
 ·rw [if_neg h]
  intro d hd
  exact low_lt hb n d (List.mem_reverse.1 hd)
theorem low_len {b : Nat} (hb : 2 ≤ b) (k : Nat) : ∀ n : Nat, n < 2 ^ k → (low b n).length ≤ k := by
 induction k with
 | zero =>
  intro n hn
  have : n = 0 := by rw [Nat.pow_zero] at hn; omega
  subst this
  simp [low_zero]
 | succ k ih =>
  intro n hn
  by_cases h : n = 0
  ·subst h
   simp [low_zero]
  ·rw [low_succ hb (by omega), List.length_cons]
   have h2 : n / b < 2 ^ k := by
    refine Nat.div_lt_of_lt_mul ?_
    rw [Nat.pow_succ] at hn
    have : 2 * 2 ^ k ≤ b * 2 ^ k := Nat.mul_le_mul_right _ hb
    omega
   have := ih _ h2
   omega
theorem dgl_len1 {b : Nat} (hb : 2 ≤ b) (n : Nat) (hn : n ≤ 1000000000001) : 1 ≤ (dgl b n).length ∧ (dgl b n).length ≤ 40 := by
 unfold dgl
 by_cases h : n = 0
 ·subst h
  rw [if_pos rfl]
  simp
 ·rw [if_neg h, List.length_reverse]
  refine ⟨?_, low_len hb 40 n (by omega)⟩
  rw [low_succ hb (by omega), List.length_cons]
  omega
theorem dgl_len {b : Nat} (hb : 2 ≤ b) (n : Nat) (hn : n ≤ 1000000000000) : 1 ≤ (dgl b n).length ∧ (dgl b n).length ≤ 40 := dgl_len1 hb n (by omega)
def lsum : List Nat → Nat
 | [] => 0
 | d :: l => d + lsum l
def lmul : List Nat → Nat
 | [] => 1
 | d :: l => d * lmul l
def dsum (b n : Nat) : Nat := lsum (dgl b n)
def dmul (b n : Nat) : Nat := lmul (dgl b n)
theorem lsum_zero (l : List Nat) (b : Nat) (h : lsum l = 0) : val b 0 l = 0 := by
 induction l with
 | nil => rfl
 | cons d l ih =>
  simp only [lsum] at h
  have hd : d = 0 := by omega
  subst hd
  simp only [val, Nat.zero_mul, Nat.add_zero]
  exact ih (by omega)
theorem dsum_pos {b : Nat} (hb : 2 ≤ b) (n : Nat) (hn : 1 ≤ n) : 1 ≤ dsum b n := by
 have h := dgl_val hb n
 have h2 := lsum_zero (dgl b n) b
 unfold dsum
 by_cases h3 : lsum (dgl b n) = 0
 ·have := h2 h3
  omega
 ·omega
theorem lsum_le {b : Nat} (hb : 1 ≤ b) (l : List Nat) : ∀ v : Nat, v + lsum l ≤ val b v l := by
 induction l with
 | nil => intro v; simp [lsum, val]
 | cons d l ih =>
  intro v
  have h := ih (v * b + d)
  have h2 : v * 1 ≤ v * b := Nat.mul_le_mul_left _ hb
  simp only [lsum, val]
  omega
theorem lmul_le {b : Nat} (l : List Nat) : ∀ v : Nat, (∀ d ∈ l, d < b) → v * lmul l ≤ val b v l := by
 induction l with
 | nil => intro v _; simp [lmul, val]
 | cons d l ih =>
  intro v h
  have h1 := h d (by simp)
  have h2 : v * d ≤ v * b := Nat.mul_le_mul_left _ (by omega)
  have h3 := ih (v * b + d) (fun x hx => h x (by simp [hx]))
  have h4 : v * d * lmul l ≤ (v * b + d) * lmul l := Nat.mul_le_mul_right _ (by omega)
  simp only [lmul, val]
  rw [← Nat.mul_assoc]
  omega
theorem dsum_le {b : Nat} (hb : 2 ≤ b) (n : Nat) : dsum b n ≤ n := by
 have h := lsum_le (b := b) (by omega) (dgl b n) 0
 rw [dgl_val hb] at h
 unfold dsum
 omega
theorem val_mono {b : Nat} (hb : 1 ≤ b) (l : List Nat) (j v : Nat) : val b v (l.take j) ≤ val b v l := by
 have h := val_ge hb (l.drop j) (val b v (l.take j))
 rw [← val_append, List.take_append_drop] at h
 exact h
theorem lmul_take {b : Nat} (hb : 2 ≤ b) (n j : Nat) : lmul ((dgl b n).take j) ≤ n + 1 := by
 have h := dgl_val hb n
 have hl := dgl_lt hb n
 have hm := val_mono (b := b) (by omega) (dgl b n) j 0
 cases hd : (dgl b n).take j with
 | nil => simp [lmul]
 | cons d l =>
  rw [hd] at hm
  have hl2 : ∀ x ∈ (dgl b n).take j, x < b := fun x hx => hl x (List.mem_of_mem_take hx)
  rw [hd] at hl2
  have h2 := lmul_le (b := b) l d (fun x hx => hl2 x (by simp [hx]))
  simp only [val, Nat.zero_mul, Nat.zero_add] at hm
  simp only [lmul]
  omega

theorem ic_reverse (l : List Nat) : ic l.reverse = (ic l).reverse := by simp [ic]
theorem ic_rd (pre post : List Nat) (x : Nat) : rd (ic (pre ++ x :: post)) (pre.length : Int) = (x : Int) := by
 rw [ic_append, ic_cons, show ((pre.length : Nat) : Int) = (((ic pre).length : Nat) : Int) by simp [ic], rd_mid]

theorem lsum_append (l m : List Nat) : lsum (l ++ m) = lsum l + lsum m := by
 induction l with
 | nil => simp [lsum]
 | cons d l ih => simp only [List.cons_append, lsum, ih]; omega
theorem lsum_reverse (l : List Nat) : lsum l.reverse = lsum l := by
 induction l with
 | nil => rfl
 | cons d l ih => rw [List.reverse_cons, lsum_append, ih]; simp only [lsum]; omega
theorem dsum_low {b : Nat} (n : Nat) : dsum b n = lsum (low b n) := by
 unfold dsum dgl
 by_cases h : n = 0
 ·subst h; rfl
 ·rw [if_neg h, lsum_reverse]
theorem dsum_step {b : Nat} (hb : 2 ≤ b) (v d : Nat) (hd : d < b) : dsum b (v * b + d) = dsum b v + d := by
 by_cases h : v * b + d = 0
 ·have hd0 : d = 0 := by omega
  have hv : v = 0 := by
   rcases Nat.mul_eq_zero.1 (show v * b = 0 by omega) with h | h <;> omega
  subst hd0 hv
  simp
 ·rw [dsum_low, dsum_low, low_succ hb (by omega)]
  have e1 : (v * b + d) % b = d := by rw [Nat.mul_comm, Nat.mul_add_mod, Nat.mod_eq_of_lt hd]
  have e2 : (v * b + d) / b = v := by rw [Nat.mul_comm, Nat.mul_add_div (by omega), Nat.div_eq_of_lt hd]; omega
  rw [e1, e2]
  simp only [lsum]
  omega
theorem dsum_split {b : Nat} (hb : 2 ≤ b) (n : Nat) : dsum b n = dsum b (n / b) + n % b := by
 have h := dsum_step hb (n / b) (n % b) (Nat.mod_lt _ (by omega))
 rwa [Nat.mul_comm, Nat.div_add_mod] at h
theorem dsum_lt {b : Nat} (hb : 2 ≤ b) (n : Nat) (hn : b ≤ n) : dsum b n < n := by
 have h := dsum_split hb n
 have h1 := dsum_le hb (n / b)
 have h2 := Nat.div_add_mod n b
 have h3 : 1 ≤ n / b := (Nat.le_div_iff_mul_le (by omega)).2 (by omega)
 have h4 : 2 * (n / b) ≤ b * (n / b) := Nat.mul_le_mul_right _ hb
 omega
theorem dsum_rest {b : Nat} (hb : 2 ≤ b) (n : Nat) : ∃ q, n = dsum b n + q * (b - 1) := by
 induction n using Nat.strongRecOn with
 | _ n ih =>
  by_cases h : n = 0
  ·subst h
   exact ⟨0, by simp [dsum, dgl, lsum]⟩
  ·have hlt : n / b < n := Nat.div_lt_self (by omega) (by omega)
   obtain ⟨q, hq⟩ := ih (n / b) hlt
   refine ⟨q + n / b, ?_⟩
   have h1 := dsum_split hb n
   have h2 := Nat.div_add_mod n b
   obtain ⟨c, rfl⟩ : ∃ c, b = c + 1 := ⟨b - 1, by omega⟩
   simp only [Nat.add_sub_cancel] at hq ⊢
   have e1 : (c + 1) * (n / (c + 1)) = n / (c + 1) * c + n / (c + 1) := by rw [Nat.mul_comm, Nat.mul_add, Nat.mul_one]
   rw [Nat.add_mul]
   omega
def droot (b n : Nat) : Nat := if n = 0 then 0 else 1 + (n - 1) % (b - 1)
theorem droot_small {b : Nat} (hb : 2 ≤ b) (n : Nat) (hn : n < b) : droot b n = n := by
 unfold droot
 by_cases h : n = 0
 ·rw [if_pos h, h]
 ·rw [if_neg h, Nat.mod_eq_of_lt (by omega)]
  omega
theorem droot_dsum {b : Nat} (hb : 2 ≤ b) (n : Nat) : droot b (dsum b n) = droot b n := by
 by_cases h : n = 0
 ·subst h
  simp [dsum, dgl, lsum]
 ·have h1 := dsum_pos hb n (by omega)
  obtain ⟨q, hq⟩ := dsum_rest hb n
  unfold droot
  rw [if_neg h, if_neg (by omega)]
  have e : n - 1 = (dsum b n - 1) + q * (b - 1) := by omega
  rw [e, Nat.add_mul_mod_self_right]
theorem droot_lt {b : Nat} (hb : 2 ≤ b) (n : Nat) : droot b n < b := by
 unfold droot
 split
 ·omega
 ·have := Nat.mod_lt (n - 1) (show 0 < b - 1 by omega)
  omega
def cntl : List Nat → List Nat → List Nat
 | acc, [] => acc
 | acc, d :: l => cntl (acc.set d (acc.getD d 0 + 1)) l
theorem cntl_len (l : List Nat) : ∀ acc, (cntl acc l).length = acc.length := by
 induction l with
 | nil => intro acc; rfl
 | cons d l ih => intro acc; simp only [cntl]; rw [ih]; simp
theorem lsum_set (l : List Nat) : ∀ (i x : Nat), i < l.length → lsum (l.set i x) + l.getD i 0 = lsum l + x := by
 induction l with
 | nil => intro i x h; simp at h
 | cons y l ih =>
  intro i x h
  cases i with
  | zero => simp only [List.set_cons_zero, lsum, List.getD_cons_zero]; omega
  | succ i =>
   have := ih i x (by simpa using h)
   simp only [List.set_cons_succ, lsum, List.getD_cons_succ]
   omega
theorem lsum_ge (l : List Nat) : ∀ i : Nat, l.getD i 0 ≤ lsum l := by
 induction l with
 | nil => intro i; simp
 | cons y l ih =>
  intro i
  cases i with
  | zero => simp only [lsum, List.getD_cons_zero]; omega
  | succ i => have := ih i; simp only [lsum, List.getD_cons_succ]; omega
theorem cntl_sum (l : List Nat) : ∀ acc, (∀ d ∈ l, d < acc.length) → lsum (cntl acc l) = lsum acc + l.length := by
 induction l with
 | nil => intro acc _; rfl
 | cons d l ih =>
  intro acc h
  simp only [cntl]
  rw [ih _ (fun x hx => by rw [List.length_set]; exact h x (by simp [hx]))]
  have := lsum_set acc d (acc.getD d 0 + 1) (h d (by simp))
  simp only [List.length_cons]
  omega
theorem lsum_zeros (n : Nat) : lsum (List.replicate n 0) = 0 := by
 induction n with
 | zero => rfl
 | succ n ih => rw [List.replicate_succ]; simp only [lsum]; omega
def cnts (b : Nat) (l : List Nat) : List Nat := cntl (List.replicate b 0) l
theorem cnts_len (b : Nat) (l : List Nat) : (cnts b l).length = b := by unfold cnts; rw [cntl_len, List.length_replicate]
theorem cnts_sum (b : Nat) (l : List Nat) (h : ∀ d ∈ l, d < b) : lsum (cnts b l) = l.length := by
 unfold cnts
 rw [cntl_sum l _ (by simpa using h), lsum_zeros, Nat.zero_add]
theorem ic_set (l : List Nat) (i x : Nat) : (ic l).set i (x : Int) = ic (l.set i x) := by simp [ic, List.map_set]
theorem ic_replicate (n : Nat) : List.replicate n (0 : Int) = ic (List.replicate n 0) := by simp [ic]
theorem ic_rdD (l : List Nat) (i : Nat) : rd (ic l) (i : Int) = ((l.getD i 0 : Nat) : Int) := by
 simp only [rd, Int.toNat_natCast, ic, List.getD_eq_getElem?_getD, List.getElem?_map]
 cases l[i]? <;> simp

def idxI (x : Int) : List Int → Nat → Int
 | [], _ => -1
 | y :: l, i => if x = y then (i : Int) else idxI x l (i + 1)
def gd (l : List Int) (b : Int) : Bool := decide (2 ≤ b ∧ b ≤ 16) && (decide (1 ≤ l.length ∧ l.length ≤ 40) && ((l.all fun x => decide (0 ≤ x ∧ x ≤ b - 1)) && (decide (rd l 0 > 0) || decide (l.length = 1))))
theorem gd_nat {l : List Int} {b : Int} (h : gd l b = true) : ∃ (ds : List Nat) (B : Nat), l = ic ds ∧ b = (B : Int) ∧ 2 ≤ B ∧ B ≤ 16 ∧ 1 ≤ ds.length ∧ ds.length ≤ 40 ∧ (∀ d ∈ ds, d < B) ∧ (0 < ds.getD 0 0 ∨ ds.length = 1) := by
 unfold gd at h
 simp only [Bool.and_eq_true, Bool.or_eq_true, decide_eq_true_eq, List.all_eq_true] at h
 obtain ⟨h1, h2, h3, h4⟩ := h
 have e : l = ic (l.map Int.toNat) := by
  unfold ic
  rw [List.map_map]
  refine (List.map_id l).symm.trans (List.map_congr_left fun x hx => ?_)
  have := h3 x hx
  simp only [id, Function.comp]
  omega
 refine ⟨l.map Int.toNat, b.toNat, e, by omega, by omega, by omega, by simpa using h2.1, by simpa using h2.2, fun d hd => ?_, ?_⟩
 ·obtain ⟨x, hx, rfl⟩ := List.mem_map.1 hd
  have := h3 x hx
  omega
 ·rcases h4 with h4 | h4
  ·left
   cases l with
   | nil => simp at h2
   | cons x l =>
    simp [rd] at h4
    simp
    omega
  ·right
   simpa using h4
theorem gd_of (ds : List Nat) (B : Nat) (h1 : 2 ≤ B) (h2 : B ≤ 16) (h3 : 1 ≤ ds.length) (h4 : ds.length ≤ 40) (h5 : ∀ d ∈ ds, d < B) (h6 : 0 < ds.getD 0 0 ∨ ds.length = 1) : gd (ic ds) (B : Int) = true := by
 unfold gd
 simp only [Bool.and_eq_true, Bool.or_eq_true, decide_eq_true_eq, List.all_eq_true, ic_length]
 refine ⟨by omega, ⟨h3, h4⟩, fun x hx => ?_, ?_⟩
 ·obtain ⟨d, hd, rfl⟩ := List.mem_map.1 hx
  have := h5 d hd
  omega
 ·rcases h6 with h6 | h6
  ·left
   cases ds with
   | nil => simp at h3
   | cons d ds =>
    simp at h6
    simp [rd, ic]
    omega
  ·exact Or.inr h6

theorem val_lt {b : Nat} (l : List Nat) : ∀ v : Nat, (∀ d ∈ l, d < b) → val b v l < (v + 1) * b ^ l.length := by
 induction l with
 | nil => intro v _; simp [val]
 | cons d l ih =>
  intro v h
  have h1 := ih (v * b + d) (fun x hx => h x (by simp [hx]))
  have hd := h d (by simp)
  have h2 : (v * b + d + 1) * b ^ l.length ≤ (v + 1) * b * b ^ l.length := Nat.mul_le_mul_right _ (by rw [Nat.add_mul]; omega)
  simp only [val, List.length_cons]
  rw [Nat.pow_succ, Nat.mul_comm (b ^ l.length) b, ← Nat.mul_assoc]
  omega
theorem val_split (b : Nat) (l : List Nat) : ∀ v : Nat, val b v l = v * b ^ l.length + val b 0 l := by
 induction l with
 | nil => intro v; simp [val]
 | cons d l ih =>
  intro v
  simp only [val, List.length_cons]
  rw [ih (v * b + d), ih (0 * b + d), Nat.add_mul, Nat.pow_succ, Nat.mul_comm (b ^ l.length) b, ← Nat.mul_assoc]
  simp only [Nat.zero_mul, Nat.zero_add]
  omega
theorem val_lt0 {b : Nat} (l : List Nat) (h : ∀ d ∈ l, d < b) : val b 0 l < b ^ l.length := by
 have := val_lt l 0 h
 simpa using this
theorem val_cons (b d : Nat) (l : List Nat) : val b 0 (d :: l) = d * b ^ l.length + val b 0 l := by
 simp only [val, Nat.zero_mul, Nat.zero_add]
 exact val_split b l d
theorem div_unique {E a r c s : Nat} (hr : r < E) (hs : s < E) (h : a * E + r = c * E + s) : a = c ∧ r = s := by
 have h1 : (a * E + r) / E = a := by rw [Nat.mul_comm, Nat.mul_add_div (by omega), Nat.div_eq_of_lt hr, Nat.add_zero]
 have h2 : (c * E + s) / E = c := by rw [Nat.mul_comm, Nat.mul_add_div (by omega), Nat.div_eq_of_lt hs, Nat.add_zero]
 have h3 : a = c := by rw [← h1, h, h2]
 subst h3
 exact ⟨rfl, by omega⟩
theorem val_inj {b : Nat} (x : List Nat) : ∀ y : List Nat, x.length = y.length → (∀ d ∈ x, d < b) → (∀ d ∈ y, d < b) → val b 0 x = val b 0 y → x = y := by
 induction x with
 | nil =>
  intro y hl _ _ _
  exact (List.eq_nil_of_length_eq_zero hl.symm).symm
 | cons d x ih =>
  intro y hl hx hy h
  cases y with
  | nil => simp at hl
  | cons e y =>
   have hl2 : x.length = y.length := by simpa using hl
   rw [val_cons, val_cons, hl2] at h
   have hx2 : ∀ d ∈ x, d < b := fun z hz => hx z (by simp [hz])
   have hy2 : ∀ d ∈ y, d < b := fun z hz => hy z (by simp [hz])
   obtain ⟨h1, h2⟩ := div_unique (by have := val_lt0 x hx2; rw [hl2] at this; exact this) (val_lt0 y hy2) h
   rw [h1, ih y hl2 hx2 hy2 h2]
theorem low_lower {b : Nat} (hb : 2 ≤ b) (n : Nat) : 1 ≤ n → b ^ ((low b n).length - 1) ≤ n := by
 induction n using Nat.strongRecOn with
 | _ n ih =>
  intro hn
  have hlt : n / b < n := Nat.div_lt_self (by omega) (by omega)
  rw [low_succ hb hn, List.length_cons, Nat.add_sub_cancel]
  by_cases h : n / b = 0
  ·rw [h, low_zero]
   simpa using hn
  ·have h2 := ih (n / b) hlt (Nat.pos_of_ne_zero h)
   have h3 : 1 ≤ (low b (n / b)).length := by rw [low_succ hb (Nat.pos_of_ne_zero h), List.length_cons]; omega
   have h4 : b ^ (low b (n / b)).length = b ^ ((low b (n / b)).length - 1) * b := by rw [← Nat.pow_succ]; congr 1; omega
   have h5 : b ^ ((low b (n / b)).length - 1) * b ≤ n / b * b := Nat.mul_le_mul_right _ h2
   have h6 := Nat.div_mul_le_self n b
   omega
theorem dgl_lower {b : Nat} (hb : 2 ≤ b) (n : Nat) (hn : 1 ≤ n) : b ^ ((dgl b n).length - 1) ≤ n := by
 unfold dgl
 rw [if_neg (by omega), List.length_reverse]
 exact low_lower hb n hn
theorem dgl_upper {b : Nat} (hb : 2 ≤ b) (n : Nat) : n < b ^ (dgl b n).length := by
 have h := val_lt0 (dgl b n) (dgl_lt hb n)
 rw [dgl_val hb] at h
 exact h
theorem dgl_pos (b n : Nat) (hb : 2 ≤ b) : 1 ≤ (dgl b n).length := by
 unfold dgl
 by_cases h : n = 0
 ·rw [if_pos h]; simp
 ·rw [if_neg h, List.length_reverse, low_succ hb (by omega), List.length_cons]; omega
theorem dgl_length {b : Nat} (hb : 2 ≤ b) (n w : Nat) (hw : 1 ≤ w) (h1 : b ^ (w - 1) ≤ n) (h2 : n < b ^ w) : (dgl b n).length = w := by
 have hp : 0 < b ^ (w - 1) := Nat.pow_pos (by omega)
 have h3 := dgl_lower hb n (by omega)
 have h4 := dgl_upper hb n
 have h5 := dgl_pos b n hb
 by_cases h : (dgl b n).length < w
 ·have : b ^ (dgl b n).length ≤ b ^ (w - 1) := Nat.pow_le_pow_right (by omega) (by omega)
  omega
 ·by_cases h6 : w < (dgl b n).length
  ·have : b ^ w ≤ b ^ ((dgl b n).length - 1) := Nat.pow_le_pow_right (by omega) (by omega)
   omega
  ·omega
theorem dgl_of_val {b : Nat} (hb : 2 ≤ b) (L : List Nat) (hL : 1 ≤ L.length) (hd : ∀ d ∈ L, d < b) (h : b ^ (L.length - 1) ≤ val b 0 L) : dgl b (val b 0 L) = L :=
 val_inj _ _ (dgl_length hb _ _ hL h (val_lt0 L hd)) (dgl_lt hb _) hd (dgl_val hb _)

theorem impl_in_eq (a b c : Int) : impl_in.f a b c = some (decide (b ≤ a ∧ a ≤ c)) := by
 unfold impl_in.f
 by_cases h : b ≤ a <;> simp [h]
theorem spec_l1In_eq (a b c : Int) : spec_l1In.f a b c = some (decide (b ≤ a ∧ a ≤ c)) := by
 unfold spec_l1In.f
 by_cases h : b ≤ a <;> simp [h]

theorem impl_isBase_eq (b : Int) : impl_isBase.f b = some (decide (2 ≤ b ∧ b ≤ 16)) := by simp only [impl_isBase.f, impl_in_eq, Option.bind_some]
theorem spec_dgBase_eq (b : Int) : spec_dgBase.f b = some (decide (2 ≤ b ∧ b ≤ 16)) := by simp only [spec_dgBase.f, spec_l1In_eq, Option.bind_some]

theorem impl_isNumber_eq (n b : Int) : impl_isNumber.f n b = some (decide ((0 ≤ n ∧ n ≤ 1000000000000) ∧ 2 ≤ b ∧ b ≤ 16)) := by
 simp only [impl_isNumber.f, impl_in_eq, impl_isBase_eq, Option.bind_some, decide_eq_true_eq]
 by_cases h : 0 ≤ n ∧ n ≤ 1000000000000 <;> simp [h]
theorem spec_dgAsked_eq (n b : Int) : spec_dgAsked.f n b = some (decide ((0 ≤ n ∧ n ≤ 1000000000000) ∧ 2 ≤ b ∧ b ≤ 16)) := by
 simp only [spec_dgAsked.f, spec_dgNumber.f, spec_l1In_eq, spec_dgBase_eq, Option.bind_some, decide_eq_true_eq]
 by_cases h : 0 ≤ n ∧ n ≤ 1000000000000 <;> simp [h]

theorem tmod_cast (a b : Nat) : Int.tmod (a : Int) (b : Int) = ((a % b : Nat) : Int) := (Int.ofNat_tmod a b).symm
theorem tdiv_cast (a b : Nat) : Int.tdiv (a : Int) (b : Int) = ((a / b : Nat) : Int) := (Int.ofNat_tdiv a b).symm
theorem natOf {a : Int} (h : 0 ≤ a) : ∃ n : Nat, a = (n : Int) := ⟨a.toNat, by omega⟩

theorem reverse_loop (n : Nat) : ∀ (mid pre post : List Int), mid.length ≤ n → pre.length = post.length → (pre ++ mid ++ post).length ≤ 1000000000000 →
  Ev (fun k => slices_Reverse_int_int.l0 k (pre ++ mid ++ post) (pre.length : Int) ((pre.length : Int) + (mid.length : Int) - 1)) (pre ++ mid.reverse ++ post) := by
 induction n with
 | zero =>
  intro mid pre post hm _ _
  obtain rfl : mid = [] := List.eq_nil_of_length_eq_zero (by omega)
  refine evs (fun k => by rw [slices_Reverse_int_int.l0]) ?_
  exact evn (by simp; omega) (evr (by simp))
 | succ n ih =>
  intro mid pre post hm hp hl
  cases mid with
  | nil =>
   refine evs (fun k => by rw [slices_Reverse_int_int.l0]) ?_
   exact evn (by simp; omega) (evr (by simp))
  | cons a t =>
   by_cases ht : t = []
   ·subst ht
    refine evs (fun k => by rw [slices_Reverse_int_int.l0]) ?_
    exact evn (by simp) (evr (by simp))
   ·obtain ⟨m, b, rfl⟩ : ∃ m b, t = m ++ [b] := ⟨t.dropLast, t.getLast ht, (List.dropLast_concat_getLast ht).symm⟩
    simp only [List.length_append, List.length_cons, List.length_nil] at hm hl
    have e0 : pre ++ (a :: (m ++ [b])) ++ post = pre ++ a :: (m ++ b :: post) := by simp
    have e1 : pre ++ (a :: (m ++ [b])) ++ post = (pre ++ a :: m) ++ b :: post := by simp
    have hj : ((pre.length : Int) + (((a :: (m ++ [b])).length : Nat) : Int) - 1) = (((pre ++ a :: m).length : Nat) : Int) := by simp; omega
    have r1 : rd (pre ++ (a :: (m ++ [b])) ++ post) (((pre ++ a :: m).length : Nat) : Int) = b := by rw [e1, rd_mid]
    have r0 : rd (pre ++ (a :: (m ++ [b])) ++ post) ((pre.length : Nat) : Int) = a := by rw [e0, rd_mid]
    have hset : ((pre ++ (a :: (m ++ [b])) ++ post).set (pre.length : Int).toNat b).set (((pre ++ a :: m).length : Nat) : Int).toNat a = (pre ++ [b]) ++ m ++ (a :: post) := by
     rw [e0, Int.toNat_natCast, Int.toNat_natCast, set_mid]
     have e2 : pre ++ b :: (m ++ b :: post) = (pre ++ b :: m) ++ b :: post := by simp
     have e3 : (pre ++ a :: m).length = (pre ++ b :: m).length := by simp
     rw [e2, e3, set_mid]
     simp
    have h := ih m (pre ++ [b]) (a :: post) (by omega) (by simp; omega) (by simp; omega)
    have hj2 : (((pre ++ a :: m).length : Nat) : Int) = (pre.length : Int) + (m.length : Int) + 1 := by simp; omega
    have hlen : (((pre ++ (a :: (m ++ [b])) ++ post).length : Nat) : Int) = (pre.length : Int) + (m.length : Int) + 2 + (post.length : Int) := by simp; omega
    refine evs (fun k => by rw [slices_Reverse_int_int.l0]) ?_
    rw [hj, r1, r0, hset, hlen, hj2, w64o (x := (pre.length : Int) + 1), w64o (x := (pre.length : Int) + (m.length : Int) + 1 - 1)]
    refine evp (by omega) (evp (by omega) (evp (by omega) (evp (by omega) (evp (by omega) ?_))))
    have e4 : (((pre ++ [b]).length : Nat) : Int) = (pre.length : Int) + 1 := by simp
    rw [e4, show (pre.length : Int) + 1 + (m.length : Int) - 1 = (pre.length : Int) + (m.length : Int) + 1 - 1 by omega] at h
    have e5 : (pre ++ [b]) ++ m.reverse ++ (a :: post) = pre ++ (a :: (m ++ [b])).reverse ++ post := by simp
    rw [e5] at h
    exact h
theorem reverse_ev (l : List Int) (h : l.length ≤ 1000000000000) : Ev (fun k => slices_Reverse_int_int.f k l) l.reverse := by
 unfold slices_Reverse_int_int.f
 rw [w64 (by omega) (by omega)]
 have := reverse_loop l.length l [] [] (Nat.le_refl _) rfl (by simpa using h)
 simpa using this

theorem spec_dgOf_loop (b : Nat) (hb : 2 ≤ b) (n : Nat) : ∀ acc : List Nat, acc.length + (low b n).length ≤ 1000000 → n ≤ 1000000000001 → Ev (fun k => spec_dgOf.l0 k (n : Int) (b : Int) (ic acc)) (ic ((low b n).reverse ++ acc)) := by
 induction n using Nat.strongRecOn with
 | _ n ih =>
  intro acc hl hn
  refine evs (fun k => by rw [spec_dgOf.l0]) ?_
  by_cases h : n = 0
  ·subst h
   exact evn (by omega) (evr (by simp [low_zero]))
  ·have hlt : n / b < n := Nat.div_lt_self (by omega) (by omega)
   rw [low_succ hb (by omega), List.length_cons] at hl
   have h2 := ih (n / b) hlt (n % b :: acc) (by simp only [List.length_cons]; omega) (by omega)
   rw [tmod_cast, tdiv_cast, w64n (n / b) (by omega), low_succ hb (by omega)]
   refine evp (by omega) (evn (by omega) ?_)
   simp only [Option.bind_some]
   refine evp (by simp only [List.length_cons, List.length_nil, ic_length]; omega) ?_
   simpa [ic] using h2
theorem spec_dgOf_ev1 (b n : Nat) (hb : 2 ≤ b) (hn : n ≤ 1000000000001) : Ev (fun k => spec_dgOf.f k (n : Int) (b : Int)) (ic (dgl b n)) := by
 unfold spec_dgOf.f
 by_cases h : n = 0
 ·subst h
  exact evp (by omega) (evr (by simp [dgl, ic]))
 ·have hl := low_len hb 40 n (by omega)
  have h2 := spec_dgOf_loop b hb n [] (by simp; omega) hn
  unfold dgl
  rw [if_neg h]
  exact evn (by omega) (by simpa [ic] using h2)
theorem impl_digitsOf_loop (b : Nat) (hb : 2 ≤ b) (n : Nat) : ∀ acc : List Nat, acc.length + (low b n).length ≤ 1000000 → n ≤ 1000000000001 → Ev (fun k => impl_digitsOf.l0 k (n : Int) (b : Int) (ic acc)) (ic (acc ++ low b n).reverse) := by
 induction n using Nat.strongRecOn with
 | _ n ih =>
  intro acc hl hn
  refine evs (fun k => by rw [impl_digitsOf.l0]) ?_
  by_cases h : n = 0
  ·subst h
   refine evn (by omega) (evb (reverse_ev (ic acc) (by rw [ic_length]; omega)) (evr ?_))
   rw [low_zero, List.append_nil, ic_reverse]
  ·have hlt : n / b < n := Nat.div_lt_self (by omega) (by omega)
   rw [low_succ hb (by omega), List.length_cons] at hl
   have h2 := ih (n / b) hlt (acc ++ [n % b]) (by simp only [List.length_append, List.length_cons, List.length_nil]; omega) (by omega)
   rw [tmod_cast, tdiv_cast, w64n (n / b) (by omega), low_succ hb (by omega)]
   refine evp (by omega) (evn (by omega) (evp (by rw [ic_length]; omega) ?_))
   rw [ic_append, List.append_assoc] at h2
   simpa [ic] using h2
theorem impl_digitsOf_ev1 (b n : Nat) (hb : 2 ≤ b) (hn : n ≤ 1000000000001) : Ev (fun k => impl_digitsOf.f k (n : Int) (b : Int)) (ic (dgl b n)) := by
 unfold impl_digitsOf.f
 have hdv : n / b ≤ n := Nat.div_le_self _ _
 have hl := low_len hb 40 (n / b) (by omega)
 have h2 := impl_digitsOf_loop b hb (n / b) [n % b] (by simp only [List.length_cons, List.length_nil]; omega) (by omega)
 rw [tmod_cast, tdiv_cast, w64n (n / b) (by omega)]
 refine evn (by omega) ?_
 unfold dgl
 by_cases h : n = 0
 ·subst h
  rw [if_pos rfl]
  rw [Nat.zero_div, low_zero] at h2
  simpa [ic, Nat.zero_mod] using h2
 ·rw [if_neg h, low_succ hb (by omega)]
  simpa [ic] using h2
theorem spec_dgOf_ev (b n : Nat) (hb : 2 ≤ b) (hn : n ≤ 1000000000000) : Ev (fun k => spec_dgOf.f k (n : Int) (b : Int)) (ic (dgl b n)) := spec_dgOf_ev1 b n hb (by omega)
theorem impl_digitsOf_ev (b n : Nat) (hb : 2 ≤ b) (hn : n ≤ 1000000000000) : Ev (fun k => impl_digitsOf.f k (n : Int) (b : Int)) (ic (dgl b n)) := impl_digitsOf_ev1 b n hb (by omega)

theorem spec_dgSum_loop (post : List Nat) : ∀ (pre : List Nat) (a : Nat), (pre ++ post).length ≤ 1000000000000 → a + lsum post ≤ 1000000000000000000 →
  Ev (fun k => spec_dgSum.l0 k (a : Int) (ic (pre ++ post)) ((pre ++ post).length : Int) (pre.length : Int)) ((a + lsum post : Nat) : Int) := by
 induction post with
 | nil =>
  intro pre a h1 h2
  refine evs (fun k => by rw [spec_dgSum.l0]) ?_
  exact evn (by simp) (evr (by simp [lsum]))
 | cons d post ih =>
  intro pre a h1 h2
  simp only [lsum] at h2
  have hl : (pre ++ d :: post).length = pre.length + (post.length + 1) := by simp
  have h3 := ih (pre ++ [d]) (a + d) (by simp at h1 ⊢; omega) (by omega)
  rw [List.append_assoc, List.singleton_append] at h3
  refine evs (fun k => by rw [spec_dgSum.l0]) ?_
  rw [ic_rd, ic_length, hl, w64o (x := (a : Int) + (d : Int)), w64o (x := (pre.length : Int) + 1)]
  refine evp (by omega) (evp (by omega) (evp (by omega) ?_))
  rw [hl] at h3
  have e1 : (((pre ++ [d]).length : Nat) : Int) = (pre.length : Int) + 1 := by simp
  have e2 : ((a + d : Nat) : Int) = (a : Int) + (d : Int) := by omega
  rw [e1, e2] at h3
  have e3 : a + lsum (d :: post) = a + d + lsum post := by simp only [lsum]; omega
  rw [e3]
  exact h3
theorem spec_dgSum_all (l : List Nat) (h1 : l.length ≤ 1000000000000) (h2 : lsum l ≤ 1000000000000000000) : Ev (fun k => spec_dgSum.l0 k 0 (ic l) ((ic l).length : Int) 0) ((lsum l : Nat) : Int) := by
 have h := spec_dgSum_loop l [] 0 (by simpa using h1) (by omega)
 rw [ic_length]
 simpa using h

theorem impl_digitSum_loop (post : List Nat) : ∀ (pre : List Nat) (a : Nat), (pre ++ post).length ≤ 1000000000000 → a + lsum post ≤ 1000000000000000000 →
  Ev (fun k => impl_digitSum.l0 k (a : Int) (ic (pre ++ post)) ((pre ++ post).length : Int) (pre.length : Int)) ((a + lsum post : Nat) : Int) := by
 induction post with
 | nil =>
  intro pre a h1 h2
  refine evs (fun k => by rw [impl_digitSum.l0]) ?_
  exact evn (by simp) (evr (by simp [lsum]))
 | cons d post ih =>
  intro pre a h1 h2
  simp only [lsum] at h2
  have hl : (pre ++ d :: post).length = pre.length + (post.length + 1) := by simp
  have h3 := ih (pre ++ [d]) (a + d) (by simp at h1 ⊢; omega) (by omega)
  rw [List.append_assoc, List.singleton_append] at h3
  refine evs (fun k => by rw [impl_digitSum.l0]) ?_
  rw [ic_rd, ic_length, hl, w64o (x := (a : Int) + (d : Int)), w64o (x := (pre.length : Int) + 1)]
  refine evp (by omega) (evp (by omega) (evp (by omega) ?_))
  rw [hl] at h3
  have e1 : (((pre ++ [d]).length : Nat) : Int) = (pre.length : Int) + 1 := by simp
  have e2 : ((a + d : Nat) : Int) = (a : Int) + (d : Int) := by omega
  rw [e1, e2] at h3
  have e3 : a + lsum (d :: post) = a + d + lsum post := by simp only [lsum]; omega
  rw [e3]
  exact h3
theorem impl_digitSum_all (l : List Nat) (h1 : l.length ≤ 1000000000000) (h2 : lsum l ≤ 1000000000000000000) : Ev (fun k => impl_digitSum.l0 k 0 (ic l) ((ic l).length : Int) 0) ((lsum l : Nat) : Int) := by
 have h := impl_digitSum_loop l [] 0 (by simpa using h1) (by omega)
 rw [ic_length]
 simpa using h

theorem dgl_sum_le {b : Nat} (hb : 2 ≤ b) (n : Nat) : lsum (dgl b n) ≤ n := dsum_le hb n
theorem spec_dgSum_ev (b n : Nat) (hb : 2 ≤ b) (hn : n ≤ 1000000000000) : Ev (fun k => spec_dgSum.f k (ic (dgl b n))) ((dsum b n : Nat) : Int) := by
 have hl := dgl_len hb n hn
 have hs := dgl_sum_le hb n
 exact spec_dgSum_all (dgl b n) (by omega) (by omega)
theorem impl_digitSum_ev (b n : Nat) (hb : 2 ≤ b) (hn : n ≤ 1000000000000) : Ev (fun k => impl_digitSum.f k (n : Int) (b : Int)) ((dsum b n : Nat) : Int) := by
 have hl := dgl_len hb n hn
 have hs := dgl_sum_le hb n
 exact evb (impl_digitsOf_ev b n hb hn) (impl_digitSum_all (dgl b n) (by omega) (by omega))

theorem spec_dgProduct_loop (post : List Nat) : ∀ (pre : List Nat) (a : Nat), (pre ++ post).length ≤ 1000000000000 → (∀ j, a * lmul (post.take j) ≤ 1000000000000000000) →
  Ev (fun k => spec_dgProduct.l0 k (a : Int) (ic (pre ++ post)) ((pre ++ post).length : Int) (pre.length : Int)) ((a * lmul post : Nat) : Int) := by
 induction post with
 | nil =>
  intro pre a h1 h2
  refine evs (fun k => by rw [spec_dgProduct.l0]) ?_
  exact evn (by simp) (evr (by simp [lmul]))
 | cons d post ih =>
  intro pre a h1 h2
  have hl : (pre ++ d :: post).length = pre.length + (post.length + 1) := by simp
  have h4 := h2 1
  simp only [List.take_succ_cons, List.take_zero, lmul, Nat.mul_one] at h4
  have h3 := ih (pre ++ [d]) (a * d) (by simp at h1 ⊢; omega) (fun j => by
   have h5 := h2 (j + 1)
   simp only [List.take_succ_cons, lmul] at h5
   rw [Nat.mul_assoc]
   exact h5)
  rw [List.append_assoc, List.singleton_append] at h3
  refine evs (fun k => by rw [spec_dgProduct.l0]) ?_
  have e2 : (a : Int) * (d : Int) = ((a * d : Nat) : Int) := (Int.natCast_mul _ _).symm
  rw [ic_rd, ic_length, hl, e2, w64n (a * d) (by omega), w64o (x := (pre.length : Int) + 1)]
  refine evp (by omega) (evp (by omega) (evp (by omega) ?_))
  rw [hl] at h3
  have e1 : (((pre ++ [d]).length : Nat) : Int) = (pre.length : Int) + 1 := by simp
  rw [e1] at h3
  have e3 : a * lmul (d :: post) = a * d * lmul post := by simp only [lmul, Nat.mul_assoc]
  rw [e3]
  exact h3
theorem spec_dgProduct_all (l : List Nat) (h1 : l.length ≤ 1000000000000) (h2 : ∀ j, lmul (l.take j) ≤ 1000000000000000000) : Ev (fun k => spec_dgProduct.l0 k 1 (ic l) ((ic l).length : Int) 0) ((lmul l : Nat) : Int) := by
 have h := spec_dgProduct_loop l [] 1 (by simpa using h1) (fun j => by rw [Nat.one_mul]; exact h2 j)
 rw [ic_length]
 simpa using h

theorem impl_digitProduct_loop (post : List Nat) : ∀ (pre : List Nat) (a : Nat), (pre ++ post).length ≤ 1000000000000 → (∀ j, a * lmul (post.take j) ≤ 1000000000000000000) →
  Ev (fun k => impl_digitProduct.l0 k (a : Int) (ic (pre ++ post)) ((pre ++ post).length : Int) (pre.length : Int)) ((a * lmul post : Nat) : Int) := by
 induction post with
 | nil =>
  intro pre a h1 h2
  refine evs (fun k => by rw [impl_digitProduct.l0]) ?_
  exact evn (by simp) (evr (by simp [lmul]))
 | cons d post ih =>
  intro pre a h1 h2
  have hl : (pre ++ d :: post).length = pre.length + (post.length + 1) := by simp
  have h4 := h2 1
  simp only [List.take_succ_cons, List.take_zero, lmul, Nat.mul_one] at h4
  have h3 := ih (pre ++ [d]) (a * d) (by simp at h1 ⊢; omega) (fun j => by
   have h5 := h2 (j + 1)
   simp only [List.take_succ_cons, lmul] at h5
   rw [Nat.mul_assoc]
   exact h5)
  rw [List.append_assoc, List.singleton_append] at h3
  refine evs (fun k => by rw [impl_digitProduct.l0]) ?_
  have e2 : (a : Int) * (d : Int) = ((a * d : Nat) : Int) := (Int.natCast_mul _ _).symm
  rw [ic_rd, ic_length, hl, e2, w64n (a * d) (by omega), w64o (x := (pre.length : Int) + 1)]
  refine evp (by omega) (evp (by omega) (evp (by omega) ?_))
  rw [hl] at h3
  have e1 : (((pre ++ [d]).length : Nat) : Int) = (pre.length : Int) + 1 := by simp
  rw [e1] at h3
  have e3 : a * lmul (d :: post) = a * d * lmul post := by simp only [lmul, Nat.mul_assoc]
  rw [e3]
  exact h3
theorem impl_digitProduct_all (l : List Nat) (h1 : l.length ≤ 1000000000000) (h2 : ∀ j, lmul (l.take j) ≤ 1000000000000000000) : Ev (fun k => impl_digitProduct.l0 k 1 (ic l) ((ic l).length : Int) 0) ((lmul l : Nat) : Int) := by
 have h := impl_digitProduct_loop l [] 1 (by simpa using h1) (fun j => by rw [Nat.one_mul]; exact h2 j)
 rw [ic_length]
 simpa using h

theorem spec_dgProduct_ev (b n : Nat) (hb : 2 ≤ b) (hn : n ≤ 1000000000000) : Ev (fun k => spec_dgProduct.f k (ic (dgl b n))) ((dmul b n : Nat) : Int) := by
 have hl := dgl_len hb n hn
 exact spec_dgProduct_all (dgl b n) (by omega) (fun j => by have := lmul_take hb n j; omega)
theorem impl_digitProduct_ev (b n : Nat) (hb : 2 ≤ b) (hn : n ≤ 1000000000000) : Ev (fun k => impl_digitProduct.f k (n : Int) (b : Int)) ((dmul b n : Nat) : Int) := by
 have hl := dgl_len hb n hn
 exact evb (impl_digitsOf_ev b n hb hn) (impl_digitProduct_all (dgl b n) (by omega) (fun j => by have := lmul_take hb n j; omega))

theorem low_byte (x : Int) : 0 ≤ Go.bits .and .u64 ((IntKind.u64.wrap x) / 1099511627776) 255 ∧ Go.bits .and .u64 ((IntKind.u64.wrap x) / 1099511627776) 255 ≤ 255 := by
 have h0 : 0 ≤ IntKind.u64.wrap x ∧ IntKind.u64.wrap x < 18446744073709551616 := by rw [IntKind.wrap_u64]; omega
 obtain ⟨y, hy⟩ := Int.eq_ofNat_of_zero_le (show 0 ≤ IntKind.u64.wrap x / 1099511627776 by omega)
 rw [hy]
 have h1 := bits_and_u64_nat y 255 (by omega) (by omega)
 have e : y &&& 255 = y % 256 := Nat.and_two_pow_sub_one_eq_mod y 8
 rw [e] at h1
 rw [show ((255 : Int)) = ((255 : Nat) : Int) from rfl, h1]
 omega
theorem next_ok (l : List Int) (hl : Bs l) (p s : Int) (h0 : 0 ≤ p) (h1 : p ≤ 1000000000000) :
  ∃ v s' : Int, spec_l1Cur_next.f l p s = some (v, p + 1, s') ∧ 0 ≤ v ∧ v ≤ 255 := by
 unfold spec_l1Cur_next.f
 rw [w64o (x := p + 1)]
 by_cases hp : p < (l.length : Int)
 ·have hm := hl _ (rd_mem l p h0 hp)
  rw [if_pos hp, if_pos h0]
  by_cases hq : p + 1 ≤ (l.length : Int)
  ·rw [if_pos hq]
   refine ⟨_, _, rfl, ?_⟩
   rw [w64 (by omega) (by omega)]
   exact hm
  ·omega
 ·rw [if_neg hp]
  by_cases hq : p + 1 ≤ (l.length : Int)
  ·omega
  ·rw [if_neg hq]
   refine ⟨_, _, rfl, ?_⟩
   have h := low_byte (IntKind.u64.wrap (IntKind.u64.wrap (s * 6364136223846793005)) + 1442695040888963407)
   rw [w64 (by omega) (by omega)]
   exact h
theorem pick_ok (l : List Int) (hl : Bs l) (p s n : Int) (h0 : 0 ≤ p) (h1 : p ≤ 999999999990) (hn : n ≤ 1000000) :
  ∃ v p' s' : Int, spec_l1Cur_pick.f l p s n = some (v, p', s') ∧ 0 ≤ v ∧ v ≤ 1000000 ∧ (v = 0 ∨ v < n) ∧ p ≤ p' ∧ p' ≤ p + 2 := by
 unfold spec_l1Cur_pick.f
 by_cases h : n ≤ 1
 ·rw [if_pos h]
  exact ⟨0, p, s, rfl, by omega, by omega, by omega, by omega, by omega⟩
 ·rw [if_neg h]
  obtain ⟨v, s1, e1, h2, h3⟩ := next_ok l hl p s h0 (by omega)
  rw [e1]
  simp only [Option.bind_some]
  by_cases h4 : n > 200
  ·rw [if_pos h4]
   obtain ⟨v2, s2, e2, h5, h6⟩ := next_ok l hl (p + 1) s1 (by omega) (by omega)
   rw [e2]
   simp only [Option.bind_some]
   rw [if_neg (by omega), w64o (x := v * 256), w64 (by omega) (by omega)]
   have h7 := Int.tmod_nonneg n (show 0 ≤ v * 256 + v2 by omega)
   have h8 := Int.tmod_lt_of_pos (v * 256 + v2) (show 0 < n by omega)
   exact ⟨_, _, _, rfl, h7, by omega, Or.inr h8, by omega, by omega⟩
  ·rw [if_neg h4, if_neg (by omega)]
   have h7 := Int.tmod_nonneg n (show 0 ≤ v by omega)
   have h8 := Int.tmod_lt_of_pos v (show 0 < n by omega)
   exact ⟨_, _, _, rfl, h7, by omega, Or.inr h8, by omega, by omega⟩
theorem among_ok (l : List Int) (hl : Bs l) (p s : Int) (m : List Int) (hm : m ≠ []) (hm2 : m.length ≤ 1000000) (h0 : 0 ≤ p) (h1 : p ≤ 999999999990) :
  ∃ v p' s' : Int, spec_l1Cur_among.f l p s m = some (v, p', s') ∧ v ∈ m ∧ p ≤ p' ∧ p' ≤ p + 2 := by
 unfold spec_l1Cur_among.f
 have hpos := List.length_pos_iff.2 hm
 obtain ⟨v, p', s', e1, h2, h3, h4, h5, h6⟩ := pick_ok l hl p s m.length h0 h1 (by omega)
 rw [e1]
 simp only [Option.bind_some]
 rw [if_pos h2, if_pos (by omega)]
 exact ⟨_, _, _, rfl, rd_mem m v h2 (by omega), h5, h6⟩

theorem base_ok (l : List Int) (hl : Bs l) (p s : Int) (h0 : 0 ≤ p) (h1 : p ≤ 999999999990) : ∃ v p' s' : Int, spec_l1Cur_base.f l p s = some (v, p', s') ∧ p ≤ p' ∧ p' ≤ p + 2 := by
 unfold spec_l1Cur_base.f
 obtain ⟨v, p', s', e, _, h2, h3⟩ := among_ok l hl p s [10, 10, 10, 2, 3, 5, 7, 16, 12, 10, 10, 16, 1, 17, 0] (by simp) (by simp) h0 h1
 rw [e]
 exact ⟨_, _, _, rfl, h2, h3⟩

theorem one_ok (l : List Int) (hl : Bs l) (p s n : Int) (h0 : 0 ≤ p) (h1 : p ≤ 999999999990) (hn : n ≤ 1000000) : ∃ (v : Bool) (p' s' : Int), spec_l1Cur_one.f l p s n = some (v, p', s') ∧ p ≤ p' ∧ p' ≤ p + 2 := by
 obtain ⟨v1, p1, s1, e1, a1, b1, c1, d1, f1⟩ := pick_ok l hl p s n h0 h1 hn
 unfold spec_l1Cur_one.f
 rw [e1]
 exact ⟨_, _, _, rfl, d1, f1⟩
theorem sureNumber_loop (l : List Int) (hl : Bs l) (d : Nat) : ∀ x p s : Int, 0 ≤ p → p + 2 * (d : Int) ≤ 100000000 → ∃ v p' s' : Int, Ev (fun k => spec_l1Cur_sureNumber.l0 k x (d : Int) l p s) (v, p', s') ∧ p ≤ p' ∧ p' ≤ p + 2 * (d : Int) := by
 induction d with
 | zero =>
  intro x p s h0 h1
  exact ⟨x, p, s, evs (fun k => by rw [spec_l1Cur_sureNumber.l0]) (evn (by omega) (Ev.now _)), by omega, by omega⟩
 | succ d ih =>
  intro x p s h0 h1
  obtain ⟨v, p1, s1, e1, _, _, _, h2, h3⟩ := pick_ok l hl p s 10 h0 (by omega) (by omega)
  obtain ⟨v', p2, s2, e2, h4, h5⟩ := ih (wrap64 (wrap64 (x * 10) + v)) p1 s1 (by omega) (by omega)
  refine ⟨v', p2, s2, evs (fun k => by rw [spec_l1Cur_sureNumber.l0]) (evp (by omega) ?_), by omega, by omega⟩
  simp only [e1, Option.bind_some]
  rw [w64 (x := (((d + 1 : Nat)) : Int) - 1) (by omega) (by omega), show (((d + 1 : Nat)) : Int) - 1 = (d : Int) by omega]
  exact e2
theorem sureNumber_ok (l : List Int) (hl : Bs l) (p s : Int) (h0 : 0 ≤ p) (h1 : p ≤ 90000000) : ∃ v p' s' : Int, Ev (fun k => spec_l1Cur_sureNumber.f k l p s) (v, p', s') ∧ p ≤ p' ∧ p' ≤ p + 30 := by
 obtain ⟨v1, p1, s1, e1, a1, b1, c1, d1, f1⟩ := pick_ok l hl p s 8 (by omega) (by omega) (by omega)
 simp only [spec_l1Cur_sureNumber.f, e1, Option.bind_some]
 by_cases h0 : v1 = 0
 ·obtain ⟨v2, p2, s2, e2, a2, b2, c2, d2, f2⟩ := pick_ok l hl p1 s1 256 (by omega) (by omega) (by omega)
  refine ⟨v2, p2, s2, evp h0 ?_, by omega, by omega⟩
  simp only [e2, Option.bind_some]
  exact Ev.now _
 ·by_cases h1 : v1 = 1
  ·obtain ⟨v, p2, s2, e2, _, h2, h3⟩ := among_ok l hl p1 s1 [0, 1, 9, 10, 99, 100, 153, 370, 1000, 6174, 9999, 999999999999, 1000000000000] (by simp) (by simp) (by omega) (by omega)
   refine ⟨v, p2, s2, evn h0 (evp h1 ?_), by omega, by omega⟩
   simp only [e2, Option.bind_some]
   exact Ev.now _
  ·by_cases h2 : v1 = 2
   ·obtain ⟨v2, p2, s2, e2, a2, b2, c2, d2, f2⟩ := pick_ok l hl p1 s1 256 (by omega) (by omega) (by omega)
    obtain ⟨v3, p3, s3, e3, a3, b3, c3, d3, f3⟩ := pick_ok l hl p2 s2 256 (by omega) (by omega) (by omega)
    refine ⟨wrap64 (v2 * v3), p3, s3, evn h0 (evn h1 (evp h2 ?_)), by omega, by omega⟩
    simp only [e2, e3, Option.bind_some]
    exact Ev.now _
   ·obtain ⟨v2, p2, s2, e2, a2, b2, c2, d2, f2⟩ := pick_ok l hl p1 s1 11 (by omega) (by omega) (by omega)
    obtain ⟨d, rfl⟩ := natOf (a := v2) a2
    obtain ⟨v3, p3, s3, e3, h4, h5⟩ := sureNumber_loop l hl (1 + d) 0 p2 s2 (by omega) (by omega)
    refine ⟨v3, p3, s3, evn h0 (evn h1 (evn h2 ?_)), by omega, by omega⟩
    simp only [e2, Option.bind_some]
    rw [w64o (x := (1 : Int) + (d : Int))]
    simpa using e3
theorem number_ok (l : List Int) (hl : Bs l) (p s : Int) (h0 : 0 ≤ p) (h1 : p ≤ 80000000) : ∃ v p' s' : Int, Ev (fun k => spec_l1Cur_number.f k l p s) (v, p', s') ∧ p ≤ p' ∧ p' ≤ p + 40 := by
 obtain ⟨v1, p1, s1, e1, d1, f1⟩ := one_ok l hl p s 20 (by omega) (by omega) (by omega)
 simp only [spec_l1Cur_number.f, e1, Option.bind_some]
 by_cases h0 : v1 = true
 ·obtain ⟨v, p2, s2, e2, _, h2, h3⟩ := among_ok l hl p1 s1 [(-1), 1000000000001, 4611686018427387904, (-4611686018427387904)] (by simp) (by simp) (by omega) (by omega)
  refine ⟨v, p2, s2, evp h0 ?_, by omega, by omega⟩
  simp only [e2, Option.bind_some]
  exact Ev.now _
 ·obtain ⟨v, p2, s2, e2, h2, h3⟩ := sureNumber_ok l hl p1 s1 (by omega) (by omega)
  exact ⟨v, p2, s2, evn h0 (evb e2 (Ev.now _)), by omega, by omega⟩

theorem impl_countsOf_loop (post : List Nat) : ∀ (pre acc : List Nat), (∀ d ∈ post, d < acc.length) → (pre ++ post).length ≤ 1000000 → lsum acc + post.length ≤ 1000000 → acc.length ≤ 1000 →
  Ev (fun k => impl_countsOf.l0 k (ic acc) (ic (pre ++ post)) ((pre ++ post).length : Int) (pre.length : Int)) (ic (cntl acc post)) := by
 induction post with
 | nil =>
  intro pre acc _ h1 h2 _
  refine evs (fun k => by rw [impl_countsOf.l0]) ?_
  exact evn (by simp) (Ev.now _)
 | cons d post ih =>
  intro pre acc hd h1 h2 h3
  have hl : (pre ++ d :: post).length = pre.length + (post.length + 1) := by simp
  have hd1 := hd d (by simp)
  have hg := lsum_ge acc d
  have hs := lsum_set acc d (acc.getD d 0 + 1) hd1
  simp only [List.length_cons] at h2
  have h4 := ih (pre ++ [d]) (acc.set d (acc.getD d 0 + 1)) (fun x hx => by rw [List.length_set]; exact hd x (by simp [hx])) (by simp at h1 ⊢; omega) (by omega) (by simp; omega)
  rw [List.append_assoc, List.singleton_append, hl] at h4
  have e1 : (((pre ++ [d]).length : Nat) : Int) = (pre.length : Int) + 1 := by simp
  rw [e1] at h4
  refine evs (fun k => by rw [impl_countsOf.l0]) ?_
  rw [ic_rd, ic_length, ic_length, hl, ic_rdD, w64o (x := ((acc.getD d 0 : Nat) : Int) + 1), w64o (x := (pre.length : Int) + 1), Int.toNat_natCast, show ((acc.getD d 0 : Nat) : Int) + 1 = ((acc.getD d 0 + 1 : Nat) : Int) by omega, ic_set]
  exact evp (by omega) (evp (by omega) (evp (by omega) (evp (by omega) (evp (by omega) h4))))
theorem impl_countsOf_ev (b : Nat) (l : List Nat) (hb : b ≤ 1000) (h : ∀ d ∈ l, d < b) (hl : l.length ≤ 100000) : Ev (fun k => impl_countsOf.f k (ic l) (b : Int)) (ic (cnts b l)) := by
 have h2 := impl_countsOf_loop l [] (List.replicate b 0) (by simpa using h) (by simp; omega) (by rw [lsum_zeros]; omega) (by simp; omega)
 unfold impl_countsOf.f
 rw [Int.toNat_natCast, ic_replicate, ic_length]
 exact evp (by omega) (evp (by omega) (by unfold cnts; simpa using h2))

theorem spec_dgCounts_loop (post : List Nat) : ∀ (pre acc : List Nat), (∀ d ∈ post, d < acc.length) → (pre ++ post).length ≤ 1000000 → lsum acc + post.length ≤ 1000000 → acc.length ≤ 1000 →
  Ev (fun k => spec_dgCounts.l0 k (ic acc) (ic (pre ++ post)) ((pre ++ post).length : Int) (pre.length : Int)) (ic (cntl acc post)) := by
 induction post with
 | nil =>
  intro pre acc _ h1 h2 _
  refine evs (fun k => by rw [spec_dgCounts.l0]) ?_
  exact evn (by simp) (Ev.now _)
 | cons d post ih =>
  intro pre acc hd h1 h2 h3
  have hl : (pre ++ d :: post).length = pre.length + (post.length + 1) := by simp
  have hd1 := hd d (by simp)
  have hg := lsum_ge acc d
  have hs := lsum_set acc d (acc.getD d 0 + 1) hd1
  simp only [List.length_cons] at h2
  have h4 := ih (pre ++ [d]) (acc.set d (acc.getD d 0 + 1)) (fun x hx => by rw [List.length_set]; exact hd x (by simp [hx])) (by simp at h1 ⊢; omega) (by omega) (by simp; omega)
  rw [List.append_assoc, List.singleton_append, hl] at h4
  have e1 : (((pre ++ [d]).length : Nat) : Int) = (pre.length : Int) + 1 := by simp
  rw [e1] at h4
  refine evs (fun k => by rw [spec_dgCounts.l0]) ?_
  rw [ic_rd, ic_length, ic_length, hl, ic_rdD, w64o (x := ((acc.getD d 0 : Nat) : Int) + 1), w64o (x := (pre.length : Int) + 1), Int.toNat_natCast, show ((acc.getD d 0 : Nat) : Int) + 1 = ((acc.getD d 0 + 1 : Nat) : Int) by omega, ic_set]
  exact evp (by omega) (evp (by omega) (evp (by omega) (evp (by omega) (evp (by omega) h4))))
theorem spec_dgCounts_ev (b : Nat) (l : List Nat) (hb : b ≤ 1000) (h : ∀ d ∈ l, d < b) (hl : l.length ≤ 100000) : Ev (fun k => spec_dgCounts.f k (ic l) (b : Int)) (ic (cnts b l)) := by
 have h2 := spec_dgCounts_loop l [] (List.replicate b 0) (by simpa using h) (by simp; omega) (by rw [lsum_zeros]; omega) (by simp; omega)
 unfold spec_dgCounts.f
 rw [Int.toNat_natCast, ic_replicate, ic_length]
 exact evp (by omega) (evp (by omega) (by unfold cnts; simpa using h2))

theorem impl_root_loop (b : Nat) (hb : 2 ≤ b) (n : Nat) : n ≤ 1000000000000 → Ev (fun k => impl_DigitalRoot.l0 k (n : Int) (b : Int)) ((droot b n : Int), true) := by
 induction n using Nat.strongRecOn with
 | _ n ih =>
  intro hn
  refine evs (fun k => by rw [impl_DigitalRoot.l0]) ?_
  by_cases h : b ≤ n
  ·have hlt := dsum_lt hb n h
   have h2 := ih _ hlt (by omega)
   rw [droot_dsum hb] at h2
   exact evp (by omega) (evb (impl_digitSum_ev b n hb hn) h2)
  ·rw [droot_small hb n (by omega)]
   exact evn (by omega) (Ev.now _)
theorem spec_root_loop (b : Nat) (hb : 2 ≤ b) (n : Nat) : n ≤ 1000000000000 → Ev (fun k => spec_DigitalRoot.l0 k (n : Int) (b : Int)) ((droot b n : Int), true) := by
 induction n using Nat.strongRecOn with
 | _ n ih =>
  intro hn
  refine evs (fun k => by rw [spec_DigitalRoot.l0]) ?_
  by_cases h : b ≤ n
  ·have hlt := dsum_lt hb n h
   have h2 := ih _ hlt (by omega)
   rw [droot_dsum hb] at h2
   exact evp (by omega) (evb (spec_dgOf_ev b n hb hn) (evb (spec_dgSum_ev b n hb hn) h2))
  ·rw [droot_small hb n (by omega)]
   exact evn (by omega) (Ev.now _)

def sgn (d : Nat) : Nat := if d < 10 then 48 + d else 87 + d
def SG : List Int := [48, 49, 50, 51, 52, 53, 54, 55, 56, 57, 97, 98, 99, 100, 101, 102]
def SGB : ByteArray := ⟨#[48, 49, 50, 51, 52, 53, 54, 55, 56, 57, 97, 98, 99, 100, 101, 102]⟩
theorem d16 {P : Nat → Prop} (d : Nat) (h : d < 16) (h0 : P 0) (h1 : P 1) (h2 : P 2) (h3 : P 3) (h4 : P 4) (h5 : P 5) (h6 : P 6) (h7 : P 7) (h8 : P 8) (h9 : P 9) (ha : P 10) (hb : P 11) (hc : P 12) (hd : P 13) (he : P 14) (hf : P 15) : P d := by
 rcases (show d = 0 ∨ d = 1 ∨ d = 2 ∨ d = 3 ∨ d = 4 ∨ d = 5 ∨ d = 6 ∨ d = 7 ∨ d = 8 ∨ d = 9 ∨ d = 10 ∨ d = 11 ∨ d = 12 ∨ d = 13 ∨ d = 14 ∨ d = 15 by omega) with rfl | rfl | rfl | rfl | rfl | rfl | rfl | rfl | rfl | rfl | rfl | rfl | rfl | rfl | rfl | rfl <;> assumption
theorem sgn_bt (d : Nat) (h : d < 16) : bt SGB (d : Int) = (sgn d : Int) := d16 (P := fun d => bt SGB (d : Int) = (sgn d : Int)) d h rfl rfl rfl rfl rfl rfl rfl rfl rfl rfl rfl rfl rfl rfl rfl rfl
theorem sgn_cut (d : Nat) (h : d < 16) : SGB.extract (d : Int).toNat ((d : Int) + 1).toNat = strOfNums [(sgn d : Int)] :=
 d16 (P := fun d => SGB.extract (d : Int).toNat ((d : Int) + 1).toNat = strOfNums [(sgn d : Int)]) d h rfl rfl rfl rfl rfl rfl rfl rfl rfl rfl rfl rfl rfl rfl rfl rfl
theorem sgn_lt (d : Nat) (h : d < 16) : sgn d < 103 := by unfold sgn; split <;> omega
theorem sgn_inj (d e : Nat) (h : sgn d = sgn e) (hd : d < 16) (he : e < 16) : d = e := by unfold sgn at h; split at h <;> split at h <;> omega
def txt (l : List Nat) : ByteArray := strOfNums (ic (l.map sgn))
theorem str_append (xs ys : List Int) : strOfNums xs ++ strOfNums ys = strOfNums (xs ++ ys) := by
 apply ByteArray.ext
 simp [strOfNums]
theorem txt_snoc (l : List Nat) (d : Nat) : txt l ++ strOfNums [(sgn d : Int)] = txt (l ++ [d]) := by
 unfold txt
 rw [str_append]
 simp [ic]
theorem txt_size (l : List Nat) : (txt l).size = l.length := by unfold txt; rw [strOfNums_size]; simp [ic]
theorem str_bt (xs : List Int) (i : Nat) (h : i < xs.length) (hx : ∀ x ∈ xs, 0 ≤ x ∧ x ≤ 255) : bt (strOfNums xs) (i : Int) = xs[i] := by
 have hm := hx xs[i] (List.getElem_mem h)
 have hs : (i : Int).toNat < (strOfNums xs).size := by rw [strOfNums_size]; simpa using h
 rw [← bt_at _ _ hs]
 have e : (strOfNums xs)[(i : Int).toNat]'hs = UInt8.ofNat xs[i].toNat := by
  show (strOfNums xs).data[(i : Int).toNat]'hs = _
  simp [strOfNums]
 rw [e]
 simp
 omega
theorem txt_bt (l : List Nat) (hl : ∀ d ∈ l, d < 16) (i : Nat) (h : i < l.length) : bt (txt l) (i : Int) = (sgn l[i] : Int) := by
 unfold txt
 rw [str_bt _ _ (by simpa [ic] using h)]
 ·simp [ic]
 ·intro x hx
  obtain ⟨y, hy, rfl⟩ := List.mem_map.1 hx
  obtain ⟨d, hd, rfl⟩ := List.mem_map.1 hy
  have := sgn_lt d (hl d hd)
  omega
theorem text_ext (s t : ByteArray) (h : s.size = t.size) (e : ∀ i : Nat, i < s.size → bt s (i : Int) = bt t (i : Int)) : s = t := by
 apply ByteArray.ext
 apply Array.ext h
 intro i h1 h2
 have h3 := e i h1
 have hs : (i : Int).toNat < s.size := by simpa using h1
 have ht : (i : Int).toNat < t.size := by simpa using h2
 rw [← bt_at _ _ hs, ← bt_at _ _ ht] at h3
 have h4 : (s.data[i]'h1).toNat = (t.data[i]'h2).toNat := by
  have : ((s[(i : Int).toNat]'hs).toNat : Int) = ((t[(i : Int).toNat]'ht).toNat : Int) := h3
  exact Int.ofNat.inj this
 exact UInt8.toNat_inj.1 h4
def pdig (c : Int) : Int := idxI c SG 0
theorem idxI_spec (x : Int) (l : List Int) : ∀ i : Nat, (idxI x l i = -1 ∧ x ∉ l) ∨ ∃ j, ∃ h : j < l.length, idxI x l i = ((i + j : Nat) : Int) ∧ l[j] = x ∧ ∀ m (hm : m < j), l[m]'(by omega) ≠ x := by
 induction l with
 | nil => intro i; left; simp [idxI]
 | cons y l ih =>
  intro i
  by_cases h : x = y
  ·right
   subst h
   exact ⟨0, by simp, by simp [idxI], rfl, fun m hm => by omega⟩
  ·rcases ih (i + 1) with ⟨h1, h2⟩ | ⟨j, hj, h1, h2, h3⟩
   ·left
    refine ⟨by simp only [idxI, if_neg h]; exact h1, fun hm => ?_⟩
    rcases List.mem_cons.1 hm with e | hm
    ·exact h e
    ·exact h2 hm
   ·right
    refine ⟨j + 1, by simp; omega, by simp only [idxI, if_neg h]; rw [h1]; omega, by simpa using h2, fun m hm => ?_⟩
    cases m with
    | zero => simpa using fun e => h e.symm
    | succ m => simpa using h3 m (by omega)
theorem SG_get (j : Nat) (h : j < SG.length) : SG[j] = (sgn j : Int) :=
 d16 (P := fun j => ∀ h : j < SG.length, SG[j] = (sgn j : Int)) j h (fun _ => rfl) (fun _ => rfl) (fun _ => rfl) (fun _ => rfl) (fun _ => rfl) (fun _ => rfl) (fun _ => rfl) (fun _ => rfl) (fun _ => rfl) (fun _ => rfl) (fun _ => rfl) (fun _ => rfl) (fun _ => rfl) (fun _ => rfl) (fun _ => rfl) (fun _ => rfl) h
theorem pdig_cases (c : Int) : (pdig c = -1 ∧ ∀ j : Nat, j < 16 → (sgn j : Int) ≠ c) ∨ ∃ j : Nat, j < 16 ∧ pdig c = (j : Int) ∧ (sgn j : Int) = c := by
 rcases idxI_spec c SG 0 with ⟨h1, h2⟩ | ⟨j, hj, h1, h2, _⟩
 ·left
  refine ⟨h1, fun j hj e => h2 ?_⟩
  rw [← e, ← SG_get j hj]
  exact List.getElem_mem _
 ·right
  refine ⟨j, hj, by unfold pdig; rw [h1]; simp, ?_⟩
  rw [← SG_get j hj]
  exact h2
theorem pdig_sgn (d : Nat) (h : d < 16) : pdig (sgn d : Int) = (d : Int) := by
 rcases pdig_cases (sgn d : Int) with ⟨_, h2⟩ | ⟨j, hj, h1, h2⟩
 ·exact absurd rfl (h2 d h)
 ·have := sgn_inj j d (by omega) hj h
  subst this
  exact h1
def sdig (b : Int) (c : Int) : Int := if 0 ≤ pdig c ∧ pdig c < b then pdig c else b
theorem sdig_first (b d : Nat) (c : Int) (hb : b ≤ 16) (hd : d < b) (h : (sgn d : Int) = c) : sdig (b : Int) c = (d : Int) := by
 subst h
 unfold sdig
 rw [pdig_sgn d (by omega), if_pos (by omega)]
theorem sdig_none (b : Nat) (c : Int) (hb : b ≤ 16) (h : ∀ j : Nat, j < b → (sgn j : Int) ≠ c) : sdig (b : Int) c = (b : Int) := by
 unfold sdig
 rcases pdig_cases c with ⟨h1, _⟩ | ⟨j, hj, h1, h2⟩
 ·rw [h1, if_neg (by omega)]
 ·rw [h1]
  by_cases hjb : j < b
  ·exact absurd h2 (h j hjb)
  ·rw [if_neg (by omega)]
def plist (f : Int → Int) (s : ByteArray) : Nat → List Int
 | 0 => []
 | n + 1 => plist f s n ++ [f (bt s (n : Int))]
theorem plist_len (f : Int → Int) (s : ByteArray) (n : Nat) : (plist f s n).length = n := by
 induction n with
 | zero => rfl
 | succ n ih => simp [plist, ih]
theorem plist_get (f : Int → Int) (s : ByteArray) (n i : Nat) (h : i < n) : (plist f s n)[i]'(by rw [plist_len]; exact h) = f (bt s (i : Int)) := by
 induction n with
 | zero => omega
 | succ n ih =>
  simp only [plist]
  by_cases e : i = n
  ·subst e
   rw [List.getElem_append_right (by rw [plist_len]; omega)]
   simp [plist_len]
  ·rw [List.getElem_append_left (by rw [plist_len]; omega)]
   exact ih (by omega)
theorem plist_mem (f : Int → Int) (s : ByteArray) (n : Nat) (x : Int) : x ∈ plist f s n ↔ ∃ i : Nat, i < n ∧ f (bt s (i : Int)) = x := by
 induction n with
 | zero => simp [plist]
 | succ n ih =>
  simp only [plist, List.mem_append, List.mem_singleton, ih]
  constructor
  ·rintro (⟨i, h, rfl⟩ | rfl)
   ·exact ⟨i, by omega, rfl⟩
   ·exact ⟨n, by omega, rfl⟩
  ·rintro ⟨i, h, rfl⟩
   by_cases e : i = n
   ·subst e; exact .inr rfl
   ·exact .inl ⟨i, by omega, rfl⟩
theorem plist_txt (l : List Nat) (hl : ∀ d ∈ l, d < 16) : plist pdig (txt l) l.length = ic l := by
 apply List.ext_getElem (by rw [plist_len, ic_length])
 intro i h1 h2
 rw [plist_len] at h1
 rw [plist_get pdig _ _ i h1, txt_bt l hl i h1, pdig_sgn _ (hl _ (List.getElem_mem h1))]
 simp [ic]
theorem plist_same (b : Nat) (s : ByteArray) (n : Nat) (hb : ∀ i : Nat, i < n → 0 ≤ pdig (bt s (i : Int)) ∧ pdig (bt s (i : Int)) < (b : Int)) : plist (sdig b) s n = plist pdig s n := by
 induction n with
 | zero => rfl
 | succ n ih =>
  simp only [plist]
  rw [ih (fun i hi => hb i (by omega))]
  congr 2
  unfold sdig
  rw [if_pos (hb n (by omega))]
theorem plist_text (l : List Nat) (hl : ∀ d ∈ l, d < 16) (s : ByteArray) (h : plist pdig s s.size = ic l) : s = txt l := by
 have hlen : s.size = l.length := by rw [← plist_len pdig s s.size, h, ic_length]
 refine text_ext s (txt l) (by rw [txt_size, hlen]) (fun i hi => ?_)
 have hi2 : i < l.length := by omega
 rw [txt_bt l hl i hi2]
 have h1 := plist_get pdig s s.size i hi
 have h2 : (plist pdig s s.size)[i]'(by rw [plist_len]; exact hi) = (l[i] : Int) := by
  simp only [h]
  simp [ic]
 rw [h2] at h1
 rcases pdig_cases (bt s (i : Int)) with ⟨h3, _⟩ | ⟨j, hj, h3, h4⟩
 ·rw [h3] at h1; omega
 ·have : j = l[i] := by omega
  rw [← h4, this]

theorem nums_snoc (pre : List Nat) (d : Nat) : ic (pre.map sgn) ++ [((sgn d : Nat) : Int)] = ic ((pre ++ [d]).map sgn) := by simp [ic]
theorem impl_text_loop (post : List Nat) : ∀ pre : List Nat, (∀ d ∈ post, d < 16) → (pre ++ post).length ≤ 1000000 →
  Ev (fun k => impl_textOf.l0 k (ic (pre.map sgn)) (ic (pre ++ post)) ((pre ++ post).length : Int) (pre.length : Int)) (txt (pre ++ post)) := by
 induction post with
 | nil =>
  intro pre _ h1
  refine evs (fun k => by rw [impl_textOf.l0]) ?_
  exact evn (by simp) (evr (by simp [txt]))
 | cons d post ih =>
  intro pre hd h1
  have hl : (pre ++ d :: post).length = pre.length + (post.length + 1) := by simp
  have hd1 := hd d (by simp)
  have h4 := ih (pre ++ [d]) (fun x hx => hd x (by simp [hx])) (by simp at h1 ⊢; omega)
  rw [List.append_assoc, List.singleton_append, hl] at h4
  have e1 : (((pre ++ [d]).length : Nat) : Int) = (pre.length : Int) + 1 := by simp
  have e2 : (ic (pre.map sgn)).length = pre.length := by simp [ic]
  rw [e1, ← nums_snoc] at h4
  refine evs (fun k => by rw [impl_textOf.l0]) ?_
  rw [ic_rd, ic_length, hl, w64o (x := (pre.length : Int) + 1)]
  have e3 := sgn_bt d hd1
  unfold SGB at e3
  rw [e3]
  exact evp (by omega) (evp (by omega) (evp (by omega) (evp (by omega) (evp (by omega) (evp (by rw [e2]; omega) h4)))))
theorem impl_textOf_ev (b n : Nat) (hb : 2 ≤ b) (hb2 : b ≤ 16) (hn : n ≤ 1000000000000) : Ev (fun k => impl_textOf.f k (n : Int) (b : Int)) (txt (dgl b n)) := by
 have hl := dgl_len hb n hn
 have hd := dgl_lt hb n
 have h := impl_text_loop (dgl b n) [] (fun d hx => by have := hd d hx; omega) (by simp; omega)
 unfold impl_textOf.f
 refine evb (impl_digitsOf_ev b n hb hn) ?_
 rw [ic_length]
 exact h
theorem spec_text_loop (post : List Nat) : ∀ pre : List Nat, (∀ d ∈ post, d < 16) → (pre ++ post).length ≤ 1000000 →
  Ev (fun k => spec_dgText.l0 k (txt pre) (ic (pre ++ post)) ((pre ++ post).length : Int) (pre.length : Int)) (txt (pre ++ post)) := by
 induction post with
 | nil =>
  intro pre _ h1
  refine evs (fun k => by rw [spec_dgText.l0]) ?_
  exact evn (by simp) (evr (by simp))
 | cons d post ih =>
  intro pre hd h1
  have hl : (pre ++ d :: post).length = pre.length + (post.length + 1) := by simp
  have hd1 := hd d (by simp)
  have h4 := ih (pre ++ [d]) (fun x hx => hd x (by simp [hx])) (by simp at h1 ⊢; omega)
  rw [List.append_assoc, List.singleton_append, hl] at h4
  have e1 : (((pre ++ [d]).length : Nat) : Int) = (pre.length : Int) + 1 := by simp
  rw [e1, ← txt_snoc] at h4
  refine evs (fun k => by rw [spec_dgText.l0]) ?_
  have e3 := sgn_cut d hd1
  unfold SGB at e3
  rw [ic_rd, ic_length, hl, w64o (x := (pre.length : Int) + 1), w64o (x := (d : Int) + 1), e3]
  have e4 : (strOfNums [((sgn d : Nat) : Int)]).size = 1 := by rw [strOfNums_size]; rfl
  rw [e4, txt_size]
  exact evp (by omega) (evp (by omega) (evp (by omega) (evp (by omega) (evp (by omega) (evp (by omega) (evp (by omega) h4))))))
theorem spec_dgText_ev (b n : Nat) (hb : 2 ≤ b) (hb2 : b ≤ 16) (hn : n ≤ 1000000000000) : Ev (fun k => spec_dgText.f k (n : Int) (b : Int)) (txt (dgl b n)) := by
 have hl := dgl_len hb n hn
 have hd := dgl_lt hb n
 have h := spec_text_loop (dgl b n) [] (fun d hx => by have := hd d hx; omega) (by simp; omega)
 unfold spec_dgText.f
 refine evb (spec_dgOf_ev b n hb hn) ?_
 rw [ic_length]
 exact h

theorem l1All_loop (lo hi : Int) (whole : List Int) (post : List Int) : ∀ pre : List Int, whole = pre ++ post → whole.length ≤ 4611686018427387904 →
  Ev (fun k => spec_l1All.l0 k lo hi whole (whole.length : Int) (pre.length : Int)) (post.all fun x => decide (lo ≤ x ∧ x ≤ hi)) := by
 induction post with
 | nil =>
  intro pre hw h
  refine evs (fun k => by rw [spec_l1All.l0]) ?_
  exact evn (by simp [hw]) (evr (by simp))
 | cons y post ih =>
  intro pre hw h
  have hl : whole.length = pre.length + (post.length + 1) := by simp [hw]
  have hx : rd whole (pre.length : Int) = y := by rw [hw, rd_mid]
  refine evs (fun k => by rw [spec_l1All.l0]) ?_
  rw [hx]
  simp only [spec_l1In_eq, Option.bind_some, decide_eq_true_eq]
  refine evp (by omega) (evp (by omega) (evp (by omega) ?_))
  by_cases he : lo ≤ y ∧ y ≤ hi
  ·refine evp he ?_
   have h2 := ih (pre ++ [y]) (by simp [hw]) h
   rw [w64 (by omega) (by omega)]
   have e : ((y :: post).all fun x => decide (lo ≤ x ∧ x ≤ hi)) = (post.all fun x => decide (lo ≤ x ∧ x ≤ hi)) := by
    rw [List.all_cons, decide_eq_true he, Bool.true_and]
   rw [e]
   simpa using h2
  ·refine evn he (evr ?_)
   rw [List.all_cons, decide_eq_false he, Bool.false_and]
theorem l1All_ev (l : List Int) (lo hi : Int) (h : l.length ≤ 4611686018427387904) : Ev (fun k => spec_l1All.f k l lo hi) (l.all fun x => decide (lo ≤ x ∧ x ≤ hi)) := by
 unfold spec_l1All.f
 simpa using l1All_loop lo hi l l [] rfl h

theorem impl_value_loop (b : Nat) (hb : 2 ≤ b) (hb2 : b ≤ 16) (post : List Nat) : ∀ (pre : List Nat) (v : Nat), v ≤ 1000000000000 → (∀ d ∈ post, d < b) → (pre ++ post).length ≤ 1000000000000 →
  Ev (fun k => impl_value.l0 k (b : Int) (v : Int) (ic (pre ++ post)) ((pre ++ post).length : Int) (pre.length : Int)) (if val b v post ≤ 1000000000000 then ((val b v post : Nat) : Int) else 1000000000001) := by
 induction post with
 | nil =>
  intro pre v hv hd hl
  refine evs (fun k => by rw [impl_value.l0]) ?_
  exact evn (by simp) (evr (by simp [val, hv]))
 | cons d post ih =>
  intro pre v hv hd hl
  have hl2 : (pre ++ d :: post).length = pre.length + (post.length + 1) := by simp
  have hd1 := hd d (by simp)
  have hm : v * b ≤ 1000000000000 * 16 := Nat.mul_le_mul hv hb2
  have e1 : (v : Int) * (b : Int) = ((v * b : Nat) : Int) := (Int.natCast_mul _ _).symm
  have e2 : ((v * b : Nat) : Int) + (d : Int) = ((v * b + d : Nat) : Int) := by omega
  refine evs (fun k => by rw [impl_value.l0]) ?_
  rw [ic_rd, ic_length, hl2, e1, w64n (v * b) (by omega), e2, w64n (v * b + d) (by omega), w64o (x := (pre.length : Int) + 1)]
  refine evp (by omega) (evp (by omega) (evp (by omega) ?_))
  rw [show val b v (d :: post) = val b (v * b + d) post from rfl]
  by_cases h : v * b + d ≤ 1000000000000
  ·have h3 := ih (pre ++ [d]) (v * b + d) h (fun x hx => hd x (by simp [hx])) (by simp at hl ⊢; omega)
   rw [List.append_assoc, List.singleton_append, hl2] at h3
   have e3 : (((pre ++ [d]).length : Nat) : Int) = (pre.length : Int) + 1 := by simp
   rw [e3] at h3
   exact evn (by omega) h3
  ·have h4 := val_ge (b := b) (by omega) post (v * b + d)
   rw [if_neg (by omega)]
   exact evp (by omega) (Ev.now _)
theorem impl_value_ev (b : Nat) (hb : 2 ≤ b) (hb2 : b ≤ 16) (l : List Nat) (hd : ∀ d ∈ l, d < b) (hl : l.length ≤ 1000000000000) : Ev (fun k => impl_value.f k (ic l) (b : Int)) (if val b 0 l ≤ 1000000000000 then ((val b 0 l : Nat) : Int) else 1000000000001) := by
 have h := impl_value_loop b hb hb2 l [] 0 (by omega) hd (by simpa using hl)
 unfold impl_value.f
 rw [ic_length]
 simpa using h
theorem spec_dgFrom_loop (b : Nat) (hb : 2 ≤ b) (hb2 : b ≤ 16) (post : List Nat) : ∀ (pre : List Nat) (v : Nat), v ≤ 1000000000000 → (∀ d ∈ post, d < b) → (pre ++ post).length ≤ 1000000000000 →
  Ev (fun k => spec_dgFrom.l0 k (b : Int) (v : Int) (ic (pre ++ post)) ((pre ++ post).length : Int) (pre.length : Int)) (if val b v post ≤ 1000000000000 then (((val b v post : Nat) : Int), true) else (0, false)) := by
 induction post with
 | nil =>
  intro pre v hv hd hl
  refine evs (fun k => by rw [spec_dgFrom.l0]) ?_
  exact evn (by simp) (evr (by simp [val, hv]))
 | cons d post ih =>
  intro pre v hv hd hl
  have hl2 : (pre ++ d :: post).length = pre.length + (post.length + 1) := by simp
  have hd1 := hd d (by simp)
  have hm : v * b ≤ 1000000000000 * 16 := Nat.mul_le_mul hv hb2
  have e1 : (v : Int) * (b : Int) = ((v * b : Nat) : Int) := (Int.natCast_mul _ _).symm
  have e2 : ((v * b : Nat) : Int) + (d : Int) = ((v * b + d : Nat) : Int) := by omega
  refine evs (fun k => by rw [spec_dgFrom.l0]) ?_
  rw [ic_rd, ic_length, hl2, e1, w64n (v * b) (by omega), e2, w64n (v * b + d) (by omega), w64o (x := (pre.length : Int) + 1)]
  refine evp (by omega) (evp (by omega) (evp (by omega) ?_))
  rw [show val b v (d :: post) = val b (v * b + d) post from rfl]
  by_cases h : v * b + d ≤ 1000000000000
  ·have h3 := ih (pre ++ [d]) (v * b + d) h (fun x hx => hd x (by simp [hx])) (by simp at hl ⊢; omega)
   rw [List.append_assoc, List.singleton_append, hl2] at h3
   have e3 : (((pre ++ [d]).length : Nat) : Int) = (pre.length : Int) + 1 := by simp
   rw [e3] at h3
   exact evn (by omega) h3
  ·have h4 := val_ge (b := b) (by omega) post (v * b + d)
   rw [if_neg (by omega)]
   exact evp (by omega) (Ev.now _)
def told (n : Nat) : Int × Bool := if n ≤ 1000000000000 then ((n : Int), true) else (0, false)
theorem spec_dgFrom_ev (b : Nat) (hb : 2 ≤ b) (hb2 : b ≤ 16) (l : List Nat) (hd : ∀ d ∈ l, d < b) (hl : l.length ≤ 1000000000000) : Ev (fun k => spec_dgFrom.f k (ic l) (b : Int)) (told (val b 0 l)) := by
 have h := spec_dgFrom_loop b hb hb2 l [] 0 (by omega) hd (by simpa using hl)
 unfold spec_dgFrom.f told
 rw [ic_length]
 simpa using h
theorem impl_told_value (n : Nat) : impl_told.f (if n ≤ 1000000000000 then (n : Int) else 1000000000001) = some (told n) := by
 unfold impl_told.f told
 by_cases h : n ≤ 1000000000000
 ·rw [if_pos h, if_pos h, if_neg (by omega)]
 ·rw [if_neg h, if_neg h, if_pos (by omega)]

def ad (l : List Int) (b : Int) : Bool := decide (1 ≤ l.length ∧ l.length ≤ 40) && ((l.all fun x => decide (0 ≤ x ∧ x ≤ b - 1)) && (decide (rd l 0 > 0) || decide (l.length = 1)))
theorem gd_ad (l : List Int) (b : Int) (h : 2 ≤ b ∧ b ≤ 16) : gd l b = ad l b := by unfold gd ad; rw [decide_eq_true h, Bool.true_and]
theorem spec_dgAre_ev (l : List Int) (b : Int) (hl : l.length ≤ 1000000000) (h1 : 2 ≤ b ∧ b ≤ 16) : Ev (fun k => spec_dgAre.f k l b) (ad l b) := by
 unfold spec_dgAre.f ad
 simp only [spec_l1In_eq, Option.bind_some, decide_eq_true_eq]
 by_cases h2 : 1 ≤ (l.length : Int) ∧ (l.length : Int) ≤ 40
 ·rw [w64o (x := b - 1)]
  refine evp h2 (evb (l1All_ev l 0 (b - 1) (by omega)) ?_)
  have e2 : decide (1 ≤ l.length ∧ l.length ≤ 40) = true := decide_eq_true (by omega)
  by_cases h3 : (l.all fun x => decide (0 ≤ x ∧ x ≤ b - 1)) = true
  ·refine evp h3 (evp (by omega) ?_)
   by_cases h4 : rd l 0 > 0
   ·exact evp h4 (evr (by rw [e2, h3, decide_eq_true h4]; rfl))
   ·refine evn h4 (evr ?_)
    rw [e2, h3, decide_eq_false h4]
    simp only [Bool.true_and, Bool.false_or]
    by_cases h5 : l.length = 1
    ·rw [decide_eq_true h5, h5]; rfl
    ·rw [decide_eq_false h5]
     exact beq_eq_false_iff_ne.2 (by omega)
  ·refine evn h3 (evr ?_)
   simp only [Bool.not_eq_true] at h3
   rw [h3]
   simp
 ·refine evn h2 (evr ?_)
  have e2 : decide (1 ≤ l.length ∧ l.length ≤ 40) = false := decide_eq_false (by omega)
  rw [e2]
  simp
theorem impl_areDigits_eq (l : List Int) (b : Int) (h1 : 2 ≤ b ∧ b ≤ 16) : impl_areDigits.f l b = some (ad l b) := by
 unfold impl_areDigits.f impl_areIn.f ad
 simp only [Option.bind_some]
 rw [w64o (x := b - 1)]
 by_cases h2 : 1 ≤ (l.length : Int) ∧ (l.length : Int) ≤ 40
 ·have e2 : decide (1 ≤ l.length ∧ l.length ≤ 40) = true := decide_eq_true (by omega)
  rw [decide_eq_true h2, e2]
  simp only [Bool.true_and]
  by_cases h3 : (l.all fun x => decide (0 ≤ x ∧ x ≤ b - 1)) = true
  ·rw [if_pos h3, if_pos (by omega : 0 < (l.length : Int)), h3]
   by_cases h4 : rd l 0 > 0
   ·rw [if_pos h4, decide_eq_true h4]
    rfl
   ·rw [if_neg h4, decide_eq_false h4]
    simp only [Bool.true_and, Bool.false_or]
    by_cases h5 : l.length = 1
    ·rw [decide_eq_true h5, h5]; rfl
    ·rw [decide_eq_false h5]
     exact congrArg some (beq_eq_false_iff_ne.2 (by omega))
  ·rw [if_neg h3]
   simp only [Bool.not_eq_true] at h3
   rw [h3]
   simp
 ·have e2 : decide (1 ≤ l.length ∧ l.length ≤ 40) = false := decide_eq_false (by omega)
  rw [decide_eq_false h2, e2]
  simp
def nof (l : List Int) (b : Int) : Int × Bool := if gd l b = true then told (val b.toNat 0 (l.map Int.toNat)) else (0, false)
theorem ic_back (l : List Nat) : (ic l).map Int.toNat = l := by
 unfold ic
 rw [List.map_map]
 exact (List.map_congr_left fun x _ => by simp).trans (List.map_id l)
theorem nof_ic (l : List Nat) (b : Nat) (h : gd (ic l) (b : Int) = true) : nof (ic l) (b : Int) = told (val b 0 l) := by
 unfold nof
 rw [if_pos h, ic_back, Int.toNat_natCast]
theorem impl_NumberOf_ev (l : List Int) (b : Int) : Ev (fun k => impl_NumberOf.f k l b) (nof l b) := by
 unfold impl_NumberOf.f
 have no : Ev (fun k => impl_NumberOf.j0 k l b true) (0, false) := by
  refine evs (fun k => by rw [impl_NumberOf.j0]) ?_
  exact evp rfl (Ev.now _)
 simp only [impl_isBase_eq, Option.bind_some, decide_eq_true_eq]
 by_cases h1 : 2 ≤ b ∧ b ≤ 16
 ·refine evp h1 ?_
  simp only [impl_areDigits_eq l b h1, Option.bind_some]
  rw [← gd_ad l b h1]
  by_cases h : gd l b = true
  ·obtain ⟨ds, B, rfl, rfl, g1, g2, g3, g4, g5, g6⟩ := gd_nat h
   rw [h, nof_ic _ _ h]
   refine evs (fun k => by rw [impl_NumberOf.j0]) ?_
   refine evn (by simp) (evb (impl_value_ev B g1 g2 ds g5 (by omega)) ?_)
   rw [impl_told_value]
   exact Ev.now _
  ·simp only [Bool.not_eq_true] at h
   unfold nof
   rw [if_neg (by rw [h]; simp), h]
   exact no
 ·unfold nof
  rw [if_neg (by unfold gd; rw [decide_eq_false h1]; simp)]
  exact evn h1 no
theorem spec_NumberOf_ev (l : List Int) (b : Int) (hl : l.length ≤ 1000000000) : Ev (fun k => spec_NumberOf.f k l b) (nof l b) := by
 unfold spec_NumberOf.f
 simp only [spec_dgBase_eq, Option.bind_some, decide_eq_true_eq]
 by_cases h1 : 2 ≤ b ∧ b ≤ 16
 ·refine evp h1 (evb (spec_dgAre_ev l b hl h1) ?_)
  rw [← gd_ad l b h1]
  by_cases h : gd l b = true
  ·obtain ⟨ds, B, rfl, rfl, g1, g2, g3, g4, g5, g6⟩ := gd_nat h
   rw [nof_ic _ _ h]
   exact evp h (evb (spec_dgFrom_ev B g1 g2 ds g5 (by omega)) (Ev.now _))
  ·unfold nof
   rw [if_neg h]
   exact evn h (Ev.now _)
 ·unfold nof
  rw [if_neg (by unfold gd; rw [decide_eq_false h1]; simp)]
  exact evn h1 (Ev.now _)
theorem dgl_good {b : Nat} (hb : 2 ≤ b) (hb2 : b ≤ 16) (n : Nat) (hn : n ≤ 1000000000000) : gd (ic (dgl b n)) (b : Int) = true := by
 have hl := dgl_len hb n hn
 refine gd_of _ b hb hb2 hl.1 hl.2 (dgl_lt hb n) ?_
 by_cases h1 : (dgl b n).length = 1
 ·exact .inr h1
 ·left
  have hlow := dgl_lower hb n (by
   rcases Nat.eq_zero_or_pos n with h | h
   ·subst h; exact absurd rfl h1
   ·exact h)
  have hv := dgl_val hb n
  have hd := dgl_lt hb n
  cases hq : dgl b n with
  | nil => rw [hq] at hl; simp at hl
  | cons d l =>
   rw [hq] at hlow hv hd hl h1
   rcases Nat.eq_zero_or_pos d with h | h
   ·subst h
    rw [val_cons, Nat.zero_mul, Nat.zero_add] at hv
    have := val_lt0 l (fun x hx => hd x (by simp [hx]))
    simp only [List.length_cons, Nat.add_sub_cancel] at hlow
    omega
   ·simpa using h
theorem gd_dgl {b : Nat} {ds : List Nat} (hb : 2 ≤ b) (h3 : 1 ≤ ds.length) (h5 : ∀ d ∈ ds, d < b) (h6 : 0 < ds.getD 0 0 ∨ ds.length = 1) : dgl b (val b 0 ds) = ds := by
 rcases Nat.lt_or_ge 1 ds.length with h1 | h1
 ·refine dgl_of_val hb ds h3 h5 ?_
  cases ds with
  | nil => simp at h3
  | cons d l =>
   have hd : 1 ≤ d := by
    rcases h6 with h | h
    ·have : 0 < d := by simpa using h
     omega
    ·omega
   rw [val_cons]
   simp only [List.length_cons, Nat.add_sub_cancel]
   have : 1 * b ^ l.length ≤ d * b ^ l.length := Nat.mul_le_mul_right _ hd
   omega
 ·match ds, h3, h1 with
  | [d], _, _ =>
   have hd := h5 d (by simp)
   simp only [val, Nat.zero_mul, Nat.zero_add]
   unfold dgl
   by_cases h : d = 0
   ·rw [if_pos h, h]
   ·rw [if_neg h, low_succ hb (by omega), Nat.mod_eq_of_lt hd, Nat.div_eq_of_lt hd, low_zero]
    rfl

theorem slices_Index_byte_byte_loop (x : Int) (whole : List Int) (post : List Int) : ∀ pre : List Int, whole = pre ++ post → whole.length ≤ 4611686018427387904 →
  Ev (fun k => slices_Index_byte_byte.l0 k whole x (whole.length : Int) (pre.length : Int)) (idxI x post pre.length) := by
 induction post with
 | nil =>
  intro pre hw h
  refine evs (fun k => by rw [slices_Index_byte_byte.l0]) ?_
  exact evn (by simp [hw]) (Ev.now _)
 | cons y post ih =>
  intro pre hw h
  have hl : whole.length = pre.length + (post.length + 1) := by simp [hw]
  have hx : rd whole (pre.length : Int) = y := by rw [hw, rd_mid]
  refine evs (fun k => by rw [slices_Index_byte_byte.l0]) ?_
  rw [hx]
  refine evp (by omega) (evp (by omega) (evp (by omega) ?_))
  by_cases he : x = y
  ·exact evp he (evr (by simp [idxI, he]))
  ·refine evn he ?_
   have h2 := ih (pre ++ [y]) (by simp [hw]) h
   rw [w64 (by omega) (by omega)]
   simpa [idxI, he] using h2
theorem slices_Index_byte_byte_ev (l : List Int) (x : Int) (h : l.length ≤ 4611686018427387904) : Ev (fun k => slices_Index_byte_byte.f k l x) (idxI x l 0) := by
 unfold slices_Index_byte_byte.f
 simpa using slices_Index_byte_byte_loop x l l [] rfl h

def pnum_ (s : ByteArray) (b : Int) : Int × Bool := if s.size ≤ 40 then nof (plist pdig s s.size) b else (0, false)
theorem impl_parse_loop (s : ByteArray) (b : Int) (hs : s.size ≤ 1000000) (e : Nat) : ∀ i : Nat, (if s.size ≤ 41 then s.size else 41) = i + e → Ev (fun k => impl_ParseNumber.l0 k s b (plist pdig s i) (i : Int)) (pnum_ s b) := by
 induction e with
 | zero =>
  intro i hi
  refine evs (fun k => by rw [impl_ParseNumber.l0]) ?_
  unfold pnum_
  by_cases h : s.size ≤ 40
  ·rw [if_pos h]
   rw [if_pos (by omega)] at hi
   have : i = s.size := by omega
   subst this
   exact evn (by omega) (evb (impl_NumberOf_ev _ _) (Ev.now _))
  ·rw [if_neg h]
   have hi41 : i = 41 := by
    split at hi <;> omega
   subst hi41
   have hno : nof (plist pdig s 41) b = (0, false) := by
    unfold nof
    rw [if_neg]
    unfold gd
    rw [plist_len, decide_eq_false (show ¬ (1 ≤ 41 ∧ 41 ≤ 40) by omega)]
    simp
   have key := impl_NumberOf_ev (plist pdig s 41) b
   rw [hno] at key
   by_cases h2 : s.size ≤ 41
   ·exact evn (by omega) (evb key (Ev.now _))
   ·exact evp (by omega) (evn (by omega) (evb key (Ev.now _)))
 | succ e ih =>
  intro i hi
  have h2 := ih (i + 1) (by omega)
  have hlt : i < s.size ∧ i ≤ 40 := by split at hi <;> omega
  refine evs (fun k => by rw [impl_ParseNumber.l0]) ?_
  have h3 := slices_Index_byte_byte_ev SG (bt s (i : Int)) (by simp [SG])
  unfold SG at h3
  refine evp (by omega) (evp (by omega) (evp (by omega) (evb h3 (evp (by rw [plist_len]; omega) ?_))))
  rw [w64o (x := (i : Int) + 1)]
  exact h2
theorem impl_ParseNumber_ev (s : ByteArray) (b : Int) (hs : s.size ≤ 1000000) : Ev (fun k => impl_ParseNumber.f k s b) (pnum_ s b) :=
 impl_parse_loop s b hs (if s.size ≤ 41 then s.size else 41) 0 (by omega)
theorem spec_parse_in (s : ByteArray) (b : Nat) (hb2 : b ≤ 16) (acc : List Int) (hacc : acc.length ≤ 1000) (i : Nat) (hi : i < s.size) (r : Int × Bool) (e : Nat) : ∀ d : Nat, d + e = b → (∀ j : Nat, j < d → (sgn j : Int) ≠ bt s (i : Int)) →
  Ev (fun k => spec_ParseNumber.l0 k s (b : Int) (acc ++ [sdig (b : Int) (bt s (i : Int))]) (wrap64 ((i : Int) + 1))) r → Ev (fun k => spec_ParseNumber.l1 k s (b : Int) acc (i : Int) (d : Int)) r := by
 induction e with
 | zero =>
  intro d hd hno hr
  have hdb : d = b := by omega
  subst hdb
  refine evs (fun k => by rw [spec_ParseNumber.l1]) ?_
  rw [sdig_none d _ hb2 hno] at hr
  exact evn (by omega) (evp (by omega) hr)
 | succ e ih =>
  intro d hd hno hr
  refine evs (fun k => by rw [spec_ParseNumber.l1]) ?_
  have e3 := sgn_bt d (by omega)
  unfold SGB at e3
  rw [e3]
  refine evp (by omega) (evp (by omega) (evp (by omega) (evp (by omega) (evp (by omega) ?_))))
  by_cases hc : ((sgn d : Nat) : Int) = bt s (i : Int)
  ·rw [sdig_first b d _ hb2 (by omega) hc] at hr
   exact evp hc (evp (by omega) hr)
  ·refine evn hc ?_
   rw [w64o (x := (d : Int) + 1)]
   exact ih (d + 1) (by omega) (fun j hj => by
    rcases Nat.lt_or_ge j d with h | h
    ·exact hno j h
    ·have : j = d := by omega
     subst this
     exact hc) hr
theorem spec_dig_all (s : ByteArray) (b : Nat) (hb : 2 ≤ b) (hb2 : b ≤ 16) : ad (plist (sdig b) s s.size) (b : Int) = ad (plist pdig s s.size) (b : Int) ∧ (ad (plist pdig s s.size) (b : Int) = true → plist (sdig b) s s.size = plist pdig s s.size) := by
 by_cases h : ∀ i : Nat, i < s.size → 0 ≤ pdig (bt s (i : Int)) ∧ pdig (bt s (i : Int)) < (b : Int)
 ·rw [plist_same b s s.size h]
  exact ⟨rfl, fun _ => rfl⟩
 ·have hex : ∃ i : Nat, i < s.size ∧ ¬ (0 ≤ pdig (bt s (i : Int)) ∧ pdig (bt s (i : Int)) < (b : Int)) := by
   refine Classical.byContradiction fun hc => h fun i hi => ?_
   refine Classical.byContradiction fun h2 => hc ⟨i, hi, h2⟩
  obtain ⟨i, hi, h2⟩ := hex
  have a1 : ((plist (sdig b) s s.size).all fun x => decide (0 ≤ x ∧ x ≤ (b : Int) - 1)) = false := by
   rw [List.all_eq_false]
   refine ⟨sdig b (bt s (i : Int)), (plist_mem _ _ _ _).2 ⟨i, hi, rfl⟩, ?_⟩
   unfold sdig
   rw [if_neg h2]
   simp only [decide_eq_true_eq]
   omega
  have a2 : ((plist pdig s s.size).all fun x => decide (0 ≤ x ∧ x ≤ (b : Int) - 1)) = false := by
   rw [List.all_eq_false]
   refine ⟨pdig (bt s (i : Int)), (plist_mem _ _ _ _).2 ⟨i, hi, rfl⟩, ?_⟩
   simp only [decide_eq_true_eq]
   omega
  unfold ad
  rw [a1, a2]
  simp
theorem spec_parse_loop (s : ByteArray) (b : Nat) (hb : 2 ≤ b) (hb2 : b ≤ 16) (hs : s.size ≤ 40) (e : Nat) : ∀ i : Nat, i + e = s.size → Ev (fun k => spec_ParseNumber.l0 k s (b : Int) (plist (sdig b) s i) (i : Int)) (nof (plist pdig s s.size) (b : Int)) := by
 induction e with
 | zero =>
  intro i hi
  have : i = s.size := by omega
  subst this
  obtain ⟨h1, h2⟩ := spec_dig_all s b hb hb2
  refine evs (fun k => by rw [spec_ParseNumber.l0]) ?_
  refine evn (by omega) (evb (spec_dgAre_ev _ _ (by rw [plist_len]; omega) (by omega)) ?_)
  rw [h1]
  by_cases h : ad (plist pdig s s.size) (b : Int) = true
  ·rw [h2 h]
   have hg : gd (plist pdig s s.size) (b : Int) = true := by rw [gd_ad _ _ (by omega)]; exact h
   obtain ⟨ds, B, e1, e2, g1, g2, g3, g4, g5, g6⟩ := gd_nat hg
   have hB : B = b := by omega
   subst hB
   rw [e1] at hg ⊢
   rw [nof_ic _ _ hg]
   rw [e1] at h
   exact evp h (evb (spec_dgFrom_ev B g1 g2 ds g5 (by omega)) (Ev.now _))
  ·unfold nof
   rw [if_neg (by rw [gd_ad _ _ (by omega)]; exact h)]
   exact evn h (Ev.now _)
 | succ e ih =>
  intro i hi
  refine evs (fun k => by rw [spec_ParseNumber.l0]) ?_
  refine evp (by omega) (spec_parse_in s b hb2 _ (by rw [plist_len]; omega) i (by omega) _ b 0 (by omega) (fun j hj => by omega) ?_)
  rw [w64o (x := (i : Int) + 1)]
  exact ih (i + 1) (by omega)
theorem spec_ParseNumber_ev (s : ByteArray) (b : Int) : Ev (fun k => spec_ParseNumber.f k s b) (pnum_ s b) := by
 unfold spec_ParseNumber.f
 have no : Ev (fun k => spec_ParseNumber.j0 k s b true) (0, false) := by
  refine evs (fun k => by rw [spec_ParseNumber.j0]) ?_
  exact evp rfl (Ev.now _)
 simp only [spec_dgBase_eq, spec_l1In_eq, Option.bind_some, decide_eq_true_eq]
 unfold pnum_
 by_cases h1 : 2 ≤ b ∧ b ≤ 16
 ·refine evp h1 ?_
  by_cases h2 : 1 ≤ (s.size : Int) ∧ (s.size : Int) ≤ 40
  ·rw [decide_eq_true h2, if_pos (by omega)]
   obtain ⟨B, rfl⟩ := natOf (a := b) (by omega)
   refine evs (fun k => by rw [spec_ParseNumber.j0]) ?_
   exact evn (by simp) (spec_parse_loop s B (by omega) (by omega) (by omega) s.size 0 (by omega))
  ·rw [decide_eq_false h2]
   have e : (if s.size ≤ 40 then nof (plist pdig s s.size) b else (0, false)) = (0, false) := by
    by_cases h3 : s.size ≤ 40
    ·rw [if_pos h3]
     unfold nof
     rw [if_neg]
     unfold gd
     rw [plist_len, decide_eq_false (show ¬ (1 ≤ s.size ∧ s.size ≤ 40) by omega)]
     simp
    ·rw [if_neg h3]
   rw [e]
   exact no
 ·have e : (if s.size ≤ 40 then nof (plist pdig s s.size) b else (0, false)) = (0, false) := by
   unfold nof
   rw [if_neg (show ¬ gd (plist pdig s s.size) b = true by unfold gd; rw [decide_eq_false h1]; simp)]
   simp
  rw [e]
  exact evn h1 no
theorem pnum_txt {b : Nat} (hb : 2 ≤ b) (hb2 : b ≤ 16) (n : Nat) (hn : n ≤ 1000000000000) : pnum_ (txt (dgl b n)) (b : Int) = ((n : Int), true) := by
 have hl := dgl_len hb n hn
 have hd := dgl_lt hb n
 unfold pnum_
 rw [txt_size, if_pos hl.2, plist_txt _ (fun d hx => by have := hd d hx; omega), nof_ic _ _ (dgl_good hb hb2 n hn), dgl_val hb]
 unfold told
 rw [if_pos hn]
theorem pnum_back (s : ByteArray) (b x : Int) (h : pnum_ s b = (x, true)) : ∃ B n : Nat, b = (B : Int) ∧ x = (n : Int) ∧ 2 ≤ B ∧ B ≤ 16 ∧ n ≤ 1000000000000 ∧ s = txt (dgl B n) := by
 unfold pnum_ nof at h
 by_cases h1 : s.size ≤ 40
 ·rw [if_pos h1] at h
  by_cases h2 : gd (plist pdig s s.size) b = true
  ·rw [if_pos h2] at h
   obtain ⟨ds, B, e1, e2, g1, g2, g3, g4, g5, g6⟩ := gd_nat h2
   subst e2
   rw [e1, ic_back, Int.toNat_natCast] at h
   unfold told at h
   by_cases h3 : val B 0 ds ≤ 1000000000000
   ·rw [if_pos h3] at h
    have h4 := (Prod.mk.inj h).1
    refine ⟨B, val B 0 ds, rfl, h4.symm, g1, g2, h3, ?_⟩
    rw [gd_dgl g1 g3 g5 g6]
    exact plist_text ds (fun d hd => by have := g5 d hd; omega) s e1
   ·rw [if_neg h3] at h
    exact absurd (Prod.mk.inj h).2 (by simp)
  ·rw [if_neg h2] at h
   exact absurd (Prod.mk.inj h).2 (by simp)
 ·rw [if_neg h1] at h
  exact absurd (Prod.mk.inj h).2 (by simp)

theorem sure_range (l : List Int) (hl : Bs l) (d : Nat) : ∀ x p s : Int, 0 ≤ p → p + 2 * (d : Int) ≤ 100000000 → 0 ≤ x → x < 10 ^ (11 - d) → d ≤ 11 → ∃ v p' s' : Int, Ev (fun k => spec_l1Cur_sureNumber.l0 k x (d : Int) l p s) (v, p', s') ∧ 0 ≤ v ∧ v < 10 ^ 11 ∧ p ≤ p' ∧ p' ≤ p + 2 * (d : Int) := by
 induction d with
 | zero =>
  intro x p s h0 h1 hx hx2 _
  exact ⟨x, p, s, evs (fun k => by rw [spec_l1Cur_sureNumber.l0]) (evn (by omega) (Ev.now _)), hx, hx2, by omega, by omega⟩
 | succ d ih =>
  intro x p s h0 h1 hx hx2 hd
  obtain ⟨v, p1, s1, e1, a1, _, c1, h2, h3⟩ := pick_ok l hl p s 10 h0 (by omega) (by omega)
  have hpow : (10 : Int) ^ (11 - d) = 10 ^ (11 - (d + 1)) * 10 := by rw [← Int.pow_succ]; congr 1; omega
  have hle : (10 : Int) ^ (11 - (d + 1)) ≤ 10 ^ 11 := by
   have : (10 : Nat) ^ (11 - (d + 1)) ≤ 10 ^ 11 := Nat.pow_le_pow_right (by omega) (by omega)
   exact_mod_cast this
  have h11 : (10 : Int) ^ 11 = 100000000000 := by decide
  rw [h11] at hle
  have ew : wrap64 (wrap64 (x * 10) + v) = x * 10 + v := by rw [w64o (x := x * 10), w64 (by omega) (by omega)]
  obtain ⟨v', p2, s2, e2, g1, g2, h4, h5⟩ := ih (x * 10 + v) p1 s1 (by omega) (by omega) (by omega) (by rw [hpow]; omega) (by omega)
  refine ⟨v', p2, s2, evs (fun k => by rw [spec_l1Cur_sureNumber.l0]) (evp (by omega) ?_), g1, g2, by omega, by omega⟩
  simp only [e1, Option.bind_some]
  rw [w64 (x := (((d + 1 : Nat)) : Int) - 1) (by omega) (by omega), show (((d + 1 : Nat)) : Int) - 1 = (d : Int) by omega, ew]
  exact e2
theorem sure_ok (l : List Int) (hl : Bs l) (p s : Int) (h0 : 0 ≤ p) (h1 : p ≤ 90000000) : ∃ (v : Nat) (p' s' : Int), v ≤ 1000000000000 ∧ Ev (fun k => spec_l1Cur_sureNumber.f k l p s) ((v : Int), p', s') ∧ p ≤ p' ∧ p' ≤ p + 30 := by
 obtain ⟨v1, p1, s1, e1, a1, b1, c1, d1, f1⟩ := pick_ok l hl p s 8 (by omega) (by omega) (by omega)
 simp only [spec_l1Cur_sureNumber.f, e1, Option.bind_some]
 by_cases h0 : v1 = 0
 ·obtain ⟨v2, p2, s2, e2, a2, b2, c2, d2, f2⟩ := pick_ok l hl p1 s1 256 (by omega) (by omega) (by omega)
  obtain ⟨v2, rfl⟩ := natOf a2
  refine ⟨v2, p2, s2, by omega, evp h0 ?_, by omega, by omega⟩
  simp only [e2, Option.bind_some]
  exact Ev.now _
 ·by_cases h1 : v1 = 1
  ·obtain ⟨v, p2, s2, e2, hm, h2, h3⟩ := among_ok l hl p1 s1 [0, 1, 9, 10, 99, 100, 153, 370, 1000, 6174, 9999, 999999999999, 1000000000000] (by simp) (by simp) (by omega) (by omega)
   have hv : 0 ≤ v ∧ v ≤ 1000000000000 := by
    simp only [List.mem_cons, List.not_mem_nil, or_false] at hm
    omega
   obtain ⟨v, rfl⟩ := natOf hv.1
   refine ⟨v, p2, s2, by omega, evn h0 (evp h1 ?_), by omega, by omega⟩
   simp only [e2, Option.bind_some]
   exact Ev.now _
  ·by_cases h2 : v1 = 2
   ·obtain ⟨v2, p2, s2, e2, a2, b2, c2, d2, f2⟩ := pick_ok l hl p1 s1 256 (by omega) (by omega) (by omega)
    obtain ⟨v3, p3, s3, e3, a3, b3, c3, d3, f3⟩ := pick_ok l hl p2 s2 256 (by omega) (by omega) (by omega)
    obtain ⟨v2, rfl⟩ := natOf a2
    obtain ⟨v3, rfl⟩ := natOf a3
    have hm : v2 * v3 ≤ 255 * 255 := Nat.mul_le_mul (by omega) (by omega)
    have ew : wrap64 ((v2 : Int) * (v3 : Int)) = ((v2 * v3 : Nat) : Int) := by rw [← Int.natCast_mul, w64n _ (by omega)]
    refine ⟨v2 * v3, p3, s3, by omega, evn h0 (evn h1 (evp h2 ?_)), by omega, by omega⟩
    simp only [e2, e3, Option.bind_some, ew]
    exact Ev.now _
   ·obtain ⟨v2, p2, s2, e2, a2, b2, c2, d2, f2⟩ := pick_ok l hl p1 s1 11 (by omega) (by omega) (by omega)
    obtain ⟨d, rfl⟩ := natOf (a := v2) a2
    obtain ⟨v3, p3, s3, e3, g1, g2, h4, h5⟩ := sure_range l hl (1 + d) 0 p2 s2 (by omega) (by omega) (by omega) (by exact Int.pow_pos (by omega)) (by omega)
    obtain ⟨v3, rfl⟩ := natOf g1
    have h11 : (10 : Int) ^ 11 = 100000000000 := by decide
    rw [h11] at g2
    refine ⟨v3, p3, s3, by omega, evn h0 (evn h1 (evn h2 ?_)), by omega, by omega⟩
    simp only [e2, Option.bind_some]
    rw [w64o (x := (1 : Int) + (d : Int))]
    simpa using e3

theorem spoilt_loop (l : List Int) (hl : Bs l) (w : ByteArray) (hw : 1 ≤ w.size) (hw2 : w.size ≤ 100) (d : Nat) : ∀ (t : ByteArray) (p s : Int), 0 ≤ p → p + 10 * (d : Int) ≤ 100000000 → t.size + d ≤ 1000 →
  ∃ (t' : ByteArray) (p' s' : Int), t'.size ≤ t.size + d ∧ Ev (fun k => spec_l1Cur_spoilt.l0 k t w (d : Int) l p s) (t', p', s') := by
 induction d with
 | zero =>
  intro t p s h0 h1 h2
  refine ⟨t, p, s, by omega, evs (fun k => by rw [spec_l1Cur_spoilt.l0]) (evn (by omega) ?_)⟩
  refine evs (fun k => by rw [spec_l1Cur_spoilt.j1]) ?_
  exact evn (by simp) (Ev.now _)
 | succ d ih =>
  intro t p s h0 h1 h2
  by_cases ht : (t.size : Int) > 0
  ·obtain ⟨i, p1, s1, e1, a1, _, c1, d1, f1⟩ := pick_ok l hl p s (t.size : Int) h0 (by omega) (by omega)
   obtain ⟨j, p2, s2, e2, a2, _, c2, d2, f2⟩ := pick_ok l hl p1 s1 (w.size : Int) (by omega) (by omega) (by omega)
   obtain ⟨m, p3, s3, e3, a3, _, c3, d3, f3⟩ := pick_ok l hl p2 s2 3 (by omega) (by omega) (by omega)
   obtain ⟨i, rfl⟩ := natOf a1
   have hi : i < t.size := by omega
   have z1 : (t.extract 0 (i : Int).toNat).size = i := by rw [Int.toNat_natCast, ByteArray.size_extract]; omega
   have z2 : (strOfNums [bt w j]).size = 1 := by rw [strOfNums_size]; rfl
   have z3 : (t.extract (i : Int).toNat t.size).size = t.size - i := by rw [Int.toNat_natCast, ByteArray.size_extract]; omega
   have z4 : (t.extract ((i : Int) + 1).toNat t.size).size = t.size - (i + 1) := by rw [show ((i : Int) + 1).toNat = i + 1 by omega, ByteArray.size_extract]; omega
   have go : ∀ t2 : ByteArray, t2.size ≤ t.size + 1 → (∀ (r : ByteArray × Int × Int), Ev (fun k => spec_l1Cur_spoilt.l0 k t2 w (wrap64 (((d + 1 : Nat) : Int) - 1)) l p3 s3) r → Ev (fun k => spec_l1Cur_spoilt.j1 k t w ((d + 1 : Nat) : Int) true l p s) r) →
     ∃ (t' : ByteArray) (p' s' : Int), t'.size ≤ t.size + (d + 1) ∧ Ev (fun k => spec_l1Cur_spoilt.l0 k t w ((d + 1 : Nat) : Int) l p s) (t', p', s') := by
    intro t2 h3 h4
    obtain ⟨t', p', s', g1, g2⟩ := ih t2 p3 s3 (by omega) (by omega) (by omega)
    refine ⟨t', p', s', by omega, evs (fun k => by rw [spec_l1Cur_spoilt.l0]) (evp (by omega) ?_)⟩
    rw [decide_eq_true ht]
    refine h4 _ ?_
    rw [w64 (x := (((d + 1 : Nat)) : Int) - 1) (by omega) (by omega), show (((d + 1 : Nat)) : Int) - 1 = (d : Int) by omega]
    exact g2
   by_cases g0 : m = 0
   ·refine go (((t.extract 0 (i : Int).toNat) ++ (strOfNums [bt w j])) ++ (t.extract (i : Int).toNat t.size)) (by rw [ByteArray.size_append, ByteArray.size_append, z1, z2, z3]; omega) (fun r hr => ?_)
    refine evs (fun k => by rw [spec_l1Cur_spoilt.j1]) (evp rfl ?_)
    simp only [e1, e2, e3, Option.bind_some]
    exact evp a2 (evp (by omega) (evp g0 (evp (by omega) (evp (by omega) (evp (by rw [z1, z2]; omega) (evp (by rw [ByteArray.size_append, z1, z2, z3]; omega) hr))))))
   ·by_cases g1 : m = 1
    ·refine go (((t.extract 0 (i : Int).toNat) ++ (strOfNums [bt w j])) ++ (t.extract ((i : Int) + 1).toNat t.size)) (by rw [ByteArray.size_append, ByteArray.size_append, z1, z2, z4]; omega) (fun r hr => ?_)
     refine evs (fun k => by rw [spec_l1Cur_spoilt.j1]) (evp rfl ?_)
     simp only [e1, e2, e3, Option.bind_some]
     rw [w64o (x := (i : Int) + 1)]
     exact evp a2 (evp (by omega) (evn g0 (evp g1 (evp (by omega) (evp (by omega) (evp (by rw [z1, z2]; omega) (evp (by omega) (evp (by omega) (evp (by rw [ByteArray.size_append, z1, z2, z4]; omega) hr)))))))))
    ·refine go ((t.extract 0 (i : Int).toNat) ++ (t.extract ((i : Int) + 1).toNat t.size)) (by rw [ByteArray.size_append, z1, z4]; omega) (fun r hr => ?_)
     refine evs (fun k => by rw [spec_l1Cur_spoilt.j1]) (evp rfl ?_)
     simp only [e1, e2, e3, Option.bind_some]
     rw [w64o (x := (i : Int) + 1)]
     exact evp a2 (evp (by omega) (evn g0 (evn g1 (evp (by omega) (evp (by omega) (evp (by omega) (evp (by omega) (evp (by rw [z1, z4]; omega) hr))))))))
  ·refine ⟨t, p, s, by omega, evs (fun k => by rw [spec_l1Cur_spoilt.l0]) (evp (by omega) ?_)⟩
   rw [decide_eq_false ht]
   refine evs (fun k => by rw [spec_l1Cur_spoilt.j1]) ?_
   exact evn (by simp) (Ev.now _)

theorem laws_rSum_loop (post : List Nat) : ∀ (pre : List Nat) (a : Nat), (pre ++ post).length ≤ 1000000000000 → a + lsum post ≤ 1000000000000000000 →
  Ev (fun k => laws_rSum.l0 k (a : Int) (ic (pre ++ post)) ((pre ++ post).length : Int) (pre.length : Int)) ((a + lsum post : Nat) : Int) := by
 induction post with
 | nil =>
  intro pre a h1 h2
  refine evs (fun k => by rw [laws_rSum.l0]) ?_
  exact evn (by simp) (evr (by simp [lsum]))
 | cons d post ih =>
  intro pre a h1 h2
  simp only [lsum] at h2
  have hl : (pre ++ d :: post).length = pre.length + (post.length + 1) := by simp
  have h3 := ih (pre ++ [d]) (a + d) (by simp at h1 ⊢; omega) (by omega)
  rw [List.append_assoc, List.singleton_append] at h3
  refine evs (fun k => by rw [laws_rSum.l0]) ?_
  rw [ic_rd, ic_length, hl, w64o (x := (a : Int) + (d : Int)), w64o (x := (pre.length : Int) + 1)]
  refine evp (by omega) (evp (by omega) (evp (by omega) ?_))
  rw [hl] at h3
  have e1 : (((pre ++ [d]).length : Nat) : Int) = (pre.length : Int) + 1 := by simp
  have e2 : ((a + d : Nat) : Int) = (a : Int) + (d : Int) := by omega
  rw [e1, e2] at h3
  have e3 : a + lsum (d :: post) = a + d + lsum post := by simp only [lsum]; omega
  rw [e3]
  exact h3
theorem laws_rSum_all (l : List Nat) (h1 : l.length ≤ 1000000000000) (h2 : lsum l ≤ 1000000000000000000) : Ev (fun k => laws_rSum.l0 k 0 (ic l) ((ic l).length : Int) 0) ((lsum l : Nat) : Int) := by
 have h := laws_rSum_loop l [] 0 (by simpa using h1) (by omega)
 rw [ic_length]
 simpa using h

theorem laws_rSame_loop (post : List Int) : ∀ (pre post' : List Int), post'.length = post.length → (pre ++ post).length ≤ 4611686018427387904 →
  Ev (fun k => laws_rSame.l0 k (pre ++ post) (pre ++ post') ((pre ++ post).length : Int) (pre.length : Int)) (decide (post = post')) := by
 induction post with
 | nil =>
  intro pre post' hl h
  obtain rfl : post' = [] := List.eq_nil_of_length_eq_zero hl
  refine evs (fun k => by rw [laws_rSame.l0]) ?_
  exact evn (by simp) (evr (by simp))
 | cons x post ih =>
  intro pre post' hl h
  obtain ⟨y, post', rfl⟩ : ∃ y z, post' = y :: z := by cases post' with
   | nil => simp at hl
   | cons y z => exact ⟨y, z, rfl⟩
  refine evs (fun k => by rw [laws_rSame.l0]) ?_
  refine evp (by simp; omega) (evp (by omega) (evp (by simp; omega) (evp (by simp; omega) ?_)))
  rw [rd_mid, rd_mid]
  by_cases he : x = y
  ·subst he
   refine evp rfl ?_
   have h2 := ih (pre ++ [x]) post' (by simpa using hl) (by simpa using h)
   simp only [List.append_assoc, List.singleton_append] at h2
   rw [w64 (by omega) (by simp at h; omega)]
   simpa using h2
  ·exact evn he (evr (by simp [he]))
theorem laws_rSame_ev (l l' : List Int) (h : l.length ≤ 4611686018427387904) : Ev (fun k => laws_rSame.f k l l') (decide (l = l')) := by
 unfold laws_rSame.f
 by_cases hl : l.length = l'.length
 ·exact evp (by omega) (by simpa using laws_rSame_loop l [] l' hl.symm (by simpa using h))
 ·exact evn (by omega) (evr (by symm; rw [decide_eq_false_iff_not]; exact fun e => hl (by rw [e])))
theorem laws_rSame_self (l : List Int) (h : l.length ≤ 4611686018427387904) : Ev (fun k => laws_rSame.f k l l) true := by simpa using laws_rSame_ev l l h

theorem drawNum_ok (l : List Int) (hl : Bs l) : ∃ n b : Int, Ev (fun k => spec_DrawDigitsOf.f k l) (n, b) := by
 obtain ⟨v, p, s, e, _, _⟩ := number_ok l hl 0 0 (by omega) (by omega)
 obtain ⟨b, p2, s2, e2, _, _⟩ := base_ok l hl p s (by omega) (by omega)
 refine ⟨v, b, evb e ?_⟩
 simp only [e2, Option.bind_some]
 exact Ev.now _
theorem drawOnes (l : List Int) (hl : Bs l) (b : Int) (d : Nat) : ∀ (L : List Int) (p s : Int), 0 ≤ p → p + 2 * (d : Int) ≤ 1000000 → L.length + d = 42 → ∃ R : List Int, R.length ≤ 42 ∧ Ev (fun k => spec_DrawNumberOf.l0 k b L l p s) (R, b) := by
 induction d with
 | zero =>
  intro L p s h0 h1 h2
  obtain ⟨v, p1, s1, e1, a1, _, c1, d1, f1⟩ := pick_ok l hl p s 2 h0 (by omega) (by omega)
  refine ⟨L, by omega, evs (fun k => by rw [spec_DrawNumberOf.l0]) ?_⟩
  simp only [e1, Option.bind_some]
  rw [w64o (x := (40 : Int) + v)]
  exact evn (by omega) (Ev.now _)
 | succ d ih =>
  intro L p s h0 h1 h2
  obtain ⟨v, p1, s1, e1, a1, _, c1, d1, f1⟩ := pick_ok l hl p s 2 h0 (by omega) (by omega)
  by_cases h : (L.length : Int) < 40 + v
  ·obtain ⟨R, g1, g2⟩ := ih (L ++ [1]) p1 s1 (by omega) (by omega) (by simp; omega)
   refine ⟨R, g1, evs (fun k => by rw [spec_DrawNumberOf.l0]) ?_⟩
   simp only [e1, Option.bind_some]
   rw [w64o (x := (40 : Int) + v)]
   exact evp h (evp (by omega) g2)
  ·refine ⟨L, by omega, evs (fun k => by rw [spec_DrawNumberOf.l0]) ?_⟩
   simp only [e1, Option.bind_some]
   rw [w64o (x := (40 : Int) + v)]
   exact evn h (Ev.now _)
theorem drawNof_j0 (l : List Int) (hl : Bs l) (b : Int) (L : List Int) (hL : L.length ≤ 40) (p s : Int) (h0 : 0 ≤ p) (h1 : p ≤ 10000) : ∃ (R : List Int), R.length ≤ 100 ∧ Ev (fun k => spec_DrawNumberOf.j0 k b L l p s) (R, b) := by
 obtain ⟨v, p1, s1, e1, a1, _, c1, d1, f1⟩ := pick_ok l hl p s 10 h0 (by omega) (by omega)
 by_cases g0 : v = 0
 ·obtain ⟨x, p2, s2, e2, _, _, _⟩ := among_ok l hl p1 s1 [(-1), 0, 1, b, wrap64 (b - 1), 4611686018427387904] (by simp) (by simp) (by omega) (by omega)
  refine ⟨L ++ [x], by simp; omega, evs (fun k => by rw [spec_DrawNumberOf.j0]) ?_⟩
  simp only [e1, e2, Option.bind_some]
  exact evp g0 (evp (by omega) (Ev.now _))
 ·by_cases g1 : v = 1
  ·refine ⟨[0] ++ L, by simp; omega, evs (fun k => by rw [spec_DrawNumberOf.j0]) ?_⟩
   simp only [e1, Option.bind_some]
   exact evn g0 (evp g1 (evp (by simp; omega) (Ev.now _)))
  ·by_cases g2 : v = 2
   ·obtain ⟨R, g3, g4⟩ := drawOnes l hl b (42 - L.length) L p1 s1 (by omega) (by omega) (by omega)
    refine ⟨R, by omega, evs (fun k => by rw [spec_DrawNumberOf.j0]) ?_⟩
    simp only [e1, Option.bind_some]
    exact evn g0 (evn g1 (evp g2 g4))
   ·by_cases g3 : v = 3
    ·refine ⟨[], by simp, evs (fun k => by rw [spec_DrawNumberOf.j0]) ?_⟩
     simp only [e1, Option.bind_some]
     exact evn g0 (evn g1 (evn g2 (evp g3 (Ev.now _))))
    ·refine ⟨L, by omega, evs (fun k => by rw [spec_DrawNumberOf.j0]) ?_⟩
     simp only [e1, Option.bind_some]
     exact evn g0 (evn g1 (evn g2 (evn g3 (Ev.now _))))
theorem drawNof_ok (l : List Int) (hl : Bs l) : ∃ (R : List Int) (b : Int), R.length ≤ 100 ∧ Ev (fun k => spec_DrawNumberOf.f k l) (R, b) := by
 obtain ⟨n, p, s, hn, e, _, _⟩ := sure_ok l hl 0 0 (by omega) (by omega)
 obtain ⟨b, p2, s2, e2, _, _⟩ := base_ok l hl p s (by omega) (by omega)
 by_cases h : 2 ≤ b ∧ b ≤ 16
 ·obtain ⟨B, rfl⟩ := natOf (a := b) (by omega)
  have hlen := dgl_len (show 2 ≤ B by omega) n hn
  obtain ⟨R, h1, h2⟩ := drawNof_j0 l hl B (ic (dgl B n)) (by rw [ic_length]; exact hlen.2) p2 s2 (by omega) (by omega)
  refine ⟨R, B, h1, evb e ?_⟩
  simp only [e2, spec_dgBase_eq, Option.bind_some, decide_eq_true_eq]
  exact evp h (evb (spec_dgOf_ev B n (by omega) hn) h2)
 ·obtain ⟨R, h1, h2⟩ := drawNof_j0 l hl b [] (by simp) p2 s2 (by omega) (by omega)
  refine ⟨R, b, h1, evb e ?_⟩
  simp only [e2, spec_dgBase_eq, Option.bind_some, decide_eq_true_eq]
  exact evn h h2
theorem drawParse_j0 (l : List Int) (hl : Bs l) (b : Int) (t : ByteArray) (ht : t.size ≤ 100) (p s : Int) (h0 : 0 ≤ p) (h1 : p ≤ 10000) : ∃ t' : ByteArray, t'.size ≤ 1000 ∧ Ev (fun k => spec_DrawParseNumber.j0 k b t l p s) (t', b) := by
 obtain ⟨v, p1, s1, e1, d1, f1⟩ := one_ok l hl p s 3 h0 (by omega) (by omega)
 by_cases g : v = true
 ·obtain ⟨m, p2, s2, e2, a2, _, c2, d2, f2⟩ := pick_ok l hl p1 s1 2 (by omega) (by omega) (by omega)
  obtain ⟨m, rfl⟩ := natOf a2
  obtain ⟨t', p3, s3, g1, g2⟩ := spoilt_loop l hl (⟨#[48, 49, 57, 97, 102, 103, 45]⟩ : ByteArray) (by decide) (by decide) (1 + m) t p2 s2 (by omega) (by omega) (by omega)
  refine ⟨t', by omega, evs (fun k => by rw [spec_DrawParseNumber.j0]) ?_⟩
  simp only [e1, Option.bind_some]
  refine evp g (evb (a := (t', p3, s3)) ?_ (Ev.now _))
  simp only [spec_l1Cur_spoilt.f, e2, Option.bind_some]
  rw [w64o (x := (1 : Int) + (m : Int)), show (1 : Int) + (m : Int) = ((1 + m : Nat) : Int) by omega]
  exact g2
 ·refine ⟨t, by omega, evs (fun k => by rw [spec_DrawParseNumber.j0]) ?_⟩
  simp only [e1, Option.bind_some]
  exact evn g (Ev.now _)
theorem drawParse_ok (l : List Int) (hl : Bs l) : ∃ (t : ByteArray) (b : Int), t.size ≤ 1000 ∧ Ev (fun k => spec_DrawParseNumber.f k l) (t, b) := by
 obtain ⟨n, p, s, hn, e, _, _⟩ := sure_ok l hl 0 0 (by omega) (by omega)
 obtain ⟨b, p2, s2, e2, _, _⟩ := base_ok l hl p s (by omega) (by omega)
 by_cases h : 2 ≤ b ∧ b ≤ 16
 ·obtain ⟨B, rfl⟩ := natOf (a := b) (by omega)
  have hlen := dgl_len (show 2 ≤ B by omega) n hn
  obtain ⟨t, h1, h2⟩ := drawParse_j0 l hl B (txt (dgl B n)) (by rw [txt_size]; omega) p2 s2 (by omega) (by omega)
  refine ⟨t, B, h1, evb e ?_⟩
  simp only [e2, spec_dgBase_eq, Option.bind_some, decide_eq_true_eq]
  exact evp h (evb (spec_dgText_ev B n (by omega) (by omega) hn) h2)
 ·obtain ⟨t, h1, h2⟩ := drawParse_j0 l hl b (⟨#[49, 50, 48]⟩ : ByteArray) (by decide) p2 s2 (by omega) (by omega)
  refine ⟨t, b, h1, evb e ?_⟩
  simp only [e2, spec_dgBase_eq, Option.bind_some, decide_eq_true_eq]
  exact evn h h2
theorem impl_text_ok (b n : Nat) (hb : 2 ≤ b) (hb2 : b ≤ 16) (hn : n ≤ 1000000000000) : Ev (fun k => impl_NumberText.f k (n : Int) (b : Int)) (txt (dgl b n), true) := by
 simp only [impl_NumberText.f, impl_isNumber_eq, Option.bind_some, decide_eq_true_eq]
 exact evp (by omega) (evb (impl_textOf_ev b n hb hb2 hn) (Ev.now _))
theorem j3_ok (s : ByteArray) (b x : Int) (t : Bool) (h : pnum_ s b = (x, t)) : Ev (fun k => laws_FnDigitsTellNumbers.j3 k s b x t false) true := by
 refine evs (fun k => by rw [laws_FnDigitsTellNumbers.j3]) ?_
 refine evn (by simp) ?_
 cases t with
 | false => exact evn (by simp) (Ev.now _)
 | true =>
  obtain ⟨B, n, rfl, rfl, g1, g2, g3, rfl⟩ := pnum_back s b x h
  exact evp rfl (evb (impl_text_ok B n g1 g2 g3) (evp rfl (evr (by simp))))
theorem are_impl (l : List Int) (b : Int) : ∃ r : Bool × Bool, ((nof l b).2 = true → r = (true, true)) ∧ Ev (fun _ => impl_AreDigits.f l b) r ∧ (l.length ≤ 1000000 → Ev (fun k => spec_AreDigits.f k l b) r) := by
 simp only [impl_AreDigits.f, spec_AreDigits.f, impl_isBase_eq, spec_dgBase_eq, Option.bind_some, decide_eq_true_eq]
 by_cases h1 : 2 ≤ b ∧ b ≤ 16
 ·simp only [impl_areDigits_eq l b h1, Option.bind_some]
  by_cases h2 : (l.length : Int) > 40
  ·refine ⟨(false, false), fun h => ?_, evp h1 (evp h2 (Ev.now _)), fun _ => evp h1 (evp h2 (Ev.now _))⟩
   exfalso
   unfold nof at h
   rw [if_neg] at h
   ·simp at h
   ·unfold gd
    rw [decide_eq_false (show ¬ (1 ≤ l.length ∧ l.length ≤ 40) by omega)]
    simp
  ·refine ⟨(ad l b, true), fun h => ?_, evp h1 (evn h2 (Ev.now _)), fun h => evp h1 (evn h2 (evb (spec_dgAre_ev l b (by omega) h1) (Ev.now _)))⟩
   unfold nof at h
   by_cases h3 : gd l b = true
   ·rw [gd_ad l b h1] at h3
    rw [h3]
   ·rw [if_neg h3] at h
    simp at h
 ·refine ⟨(false, false), fun h => ?_, evn h1 (Ev.now _), fun _ => evn h1 (Ev.now _)⟩
  exfalso
  unfold nof at h
  rw [if_neg] at h
  ·simp at h
  ·unfold gd
   rw [decide_eq_false h1]
   simp
theorem j2_ok (l : List Int) (hl : Bs l) : Ev (fun k => laws_FnDigitsTellNumbers.j2 k l) true := by
 obtain ⟨R, b, hR, e1⟩ := drawNof_ok l hl
 obtain ⟨s, b2, hs, e2⟩ := drawParse_ok l hl
 obtain ⟨r, g1, g2, g3⟩ := are_impl R b
 have g3 := g3 (by omega)
 obtain ⟨x, t, hx⟩ : ∃ x t, pnum_ s b2 = (x, t) := ⟨_, _, rfl⟩
 have i1 := impl_ParseNumber_ev s b2 (by omega)
 have i2 := spec_ParseNumber_ev s b2
 rw [hx] at i1 i2
 refine evs (fun k => by rw [laws_FnDigitsTellNumbers.j2]) ?_
 refine evb e1 (evb (impl_NumberOf_ev R b) (evb (spec_NumberOf_ev R b (by omega)) (evb g2 (evb g3 (evb e2 (evb i1 (evb i2 ?_)))))))
 refine evn (by simp) (evp rfl (evn (by simp) (evn (by simp) (evn (by simp) (evp rfl ?_)))))
 by_cases h : (nof R b).2 = true
 ·rw [g1 h]
  exact evp h (j3_ok s b2 x t hx)
 ·exact evn h (j3_ok s b2 x t hx)
theorem l0_ok (l : List Int) (hl : Bs l) (b n : Nat) (hb : 2 ≤ b) (hb2 : b ≤ 16) (hn : n ≤ 1000000000000) (post : List Nat) : ∀ pre : List Nat, dgl b n = pre ++ post →
  Ev (fun k => laws_FnDigitsTellNumbers.l0 k l (n : Int) (b : Int) (ic (dgl b n)) (dsum b n : Int) (dmul b n : Int) (ic (cnts b (dgl b n))) (droot b n : Int) (txt (dgl b n)) (n : Int) true true true ((dgl b n).length : Int) true (n : Int) true (lmul pre : Int) (ic (dgl b n)) ((ic (dgl b n)).length : Int) (pre.length : Int)) true := by
 have hlen := dgl_len hb n hn
 have hdl := dgl_lt hb n
 induction post with
 | nil =>
  intro pre hp
  rw [List.append_nil] at hp
  subst hp
  have hc1 := cnts_len b (dgl b n)
  have hc2 := cnts_sum b (dgl b n) hdl
  have s1 := laws_rSum_all (cnts b (dgl b n)) (by omega) (by omega)
  have s2 := laws_rSum_all (dgl b n) (by omega) (by have := dsum_le hb n; unfold dsum at this; omega)
  have hr := droot_lt hb n
  refine evs (fun k => by rw [laws_FnDigitsTellNumbers.l0]) ?_
  refine evn (by rw [ic_length]; omega) (evp rfl (evp rfl (evp rfl (evp rfl (evp rfl (evp (by rw [ic_length]) (evb s1 (evp (by omega) (evb s2 (evp rfl (evp rfl (evp rfl (evp rfl (evp (by rw [txt_size]) ?_))))))))))))))
  rw [w64o (x := (b : Int) - 1)]
  have hq : ∃ q : Nat, n = droot b n + q * (b - 1) := by
   unfold droot
   split
   ·rename_i h0; exact ⟨0, by omega⟩
   ·refine ⟨(n - 1) / (b - 1), ?_⟩
    have := Nat.div_add_mod (n - 1) (b - 1)
    rw [Nat.mul_comm] at this
    omega
  obtain ⟨q, hq⟩ := hq
  have hm : Int.tmod (wrap64 ((n : Int) - (droot b n : Int))) ((b : Int) - 1) = 0 := by
   have e1 : (n : Int) - (droot b n : Int) = ((q * (b - 1) : Nat) : Int) := by omega
   rw [e1, w64n _ (by omega), show (b : Int) - 1 = ((b - 1 : Nat) : Int) by omega, tmod_cast, Nat.mul_mod_left]
   rfl
  refine evn (by omega) (evp hm (evn (by omega) ?_))
  by_cases h0 : (n : Int) > 0
  ·refine evp h0 (evn ?_ (j2_ok l hl))
   unfold droot
   rw [if_neg (by omega)]
   omega
  ·exact evn h0 (j2_ok l hl)
 | cons d post ih =>
  intro pre hp
  have hl2 : (dgl b n).length = pre.length + (post.length + 1) := by rw [hp]; simp
  have hrd : rd (ic (dgl b n)) (pre.length : Int) = (d : Int) := by rw [hp, ic_rd]
  have hnext := ih (pre ++ [d]) (by rw [hp]; simp)
  have hmul : lmul (pre ++ [d]) = lmul pre * d := by
   have : ∀ l : List Nat, lmul (l ++ [d]) = lmul l * d := by
    intro l
    induction l with
    | nil => simp [lmul]
    | cons x l ih2 => simp only [List.cons_append, lmul]; rw [ih2, Nat.mul_assoc]
   exact this pre
  have hbound := lmul_take hb n (pre.length + 1)
  rw [hp, show pre ++ d :: post = (pre ++ [d]) ++ post by simp, show pre.length + 1 = (pre ++ [d]).length by simp, List.take_left, hmul] at hbound
  have e2 : (((pre ++ [d]).length : Nat) : Int) = (pre.length : Int) + 1 := by simp
  rw [hmul, e2] at hnext
  refine evs (fun k => by rw [laws_FnDigitsTellNumbers.l0]) ?_
  rw [hrd, w64o (x := (pre.length : Int) + 1), ← Int.natCast_mul, w64n (lmul pre * d) (by omega)]
  exact evp (by rw [ic_length]; omega) (evp (by omega) (evp (by rw [ic_length]; omega) hnext))
theorem j0_yes (l : List Int) (hl : Bs l) (b n : Nat) (hb : 2 ≤ b) (hb2 : b ≤ 16) (hn : n ≤ 1000000000000) :
  Ev (fun k => laws_FnDigitsTellNumbers.j0 k l (n : Int) (b : Int) (ic (dgl b n)) true (dsum b n : Int) (dmul b n : Int) (ic (cnts b (dgl b n))) (droot b n : Int) (txt (dgl b n)) false) true := by
 have hlen := dgl_len hb n hn
 have hg := dgl_good hb hb2 n hn
 have i1 := impl_NumberOf_ev (ic (dgl b n)) (b : Int)
 have e1 : nof (ic (dgl b n)) (b : Int) = ((n : Int), true) := by
  rw [nof_ic _ _ hg, dgl_val hb]
  unfold told
  rw [if_pos hn]
 rw [e1] at i1
 obtain ⟨r, g1, g2, _⟩ := are_impl (ic (dgl b n)) (b : Int)
 rw [g1 (by rw [e1])] at g2
 have i3 : Ev (fun k => impl_CountDigits.f k (n : Int) (b : Int)) (((dgl b n).length : Int), true) := by
  simp only [impl_CountDigits.f, impl_isNumber_eq, Option.bind_some, decide_eq_true_eq]
  exact evp (by omega) (evb (impl_digitsOf_ev b n hb hn) (evr (by rw [ic_length])))
 have i4 := impl_ParseNumber_ev (txt (dgl b n)) (b : Int) (by rw [txt_size]; omega)
 rw [pnum_txt hb hb2 n hn] at i4
 refine evs (fun k => by rw [laws_FnDigitsTellNumbers.j0]) ?_
 exact evn (by simp) (evp rfl (evb i1 (evb g2 (evb i3 (evb i4 (l0_ok l hl b n hb hb2 hn (dgl b n) [] rfl))))))
theorem FnDigitsTellNumbers : laws_FnDigitsTellNumbers.Pure := by
 intro l0 l1 _ _ w0 _ _ w1
 have hb : ∀ l : List Int, (∀ x ∈ l, (Lit.int .u8 x).wf = true) → ∀ x ∈ l, 0 ≤ x ∧ x ≤ 255 := by
  intro l h x hx
  have := h x hx
  simpa [Lit.wf, IntKind.min, IntKind.max, IntKind.signed, IntKind.bits] using this
 have hl0 := hb l0 w0
 have hl1 := hb l1 w1
 refine Ev.rounds (g := fun k => laws_FnDigitsTellNumbers.f k l0 l1) ?_
 unfold laws_FnDigitsTellNumbers.f
 obtain ⟨t, ht⟩ : ∃ t, laws_big.f l0 l1 = some t := by
  unfold laws_big.f
  split <;> exact ⟨_, rfl⟩
 rw [ht]
 simp only [Option.bind_some]
 cases t with
 | true => exact evp rfl (Ev.now _)
 | false =>
  refine evn (by simp) ?_
  obtain ⟨n, b, e⟩ := drawNum_ok l0 hl0
  refine evb e ?_
  by_cases h : (0 ≤ n ∧ n ≤ 1000000000000) ∧ 2 ≤ b ∧ b ≤ 16
  ·obtain ⟨n, rfl⟩ := natOf (a := n) (by omega)
   obtain ⟨b, rfl⟩ := natOf (a := b) (by omega)
   have hb : 2 ≤ b := by omega
   have hb2 : b ≤ 16 := by omega
   have hn : n ≤ 1000000000000 := by omega
   have hlen := dgl_len hb n hn
   have hdl := dgl_lt hb n
   have a1 : Ev (fun k => impl_DigitsOf.f k (n : Int) (b : Int)) (ic (dgl b n), true) := by
    simp only [impl_DigitsOf.f, impl_isNumber_eq, Option.bind_some, decide_eq_true_eq]
    exact evp h (evb (impl_digitsOf_ev b n hb hn) (Ev.now _))
   have a2 : Ev (fun k => spec_DigitsOf.f k (n : Int) (b : Int)) (ic (dgl b n), true) := by
    simp only [spec_DigitsOf.f, spec_dgAsked_eq, Option.bind_some, decide_eq_true_eq]
    exact evp h (evb (spec_dgOf_ev b n hb hn) (Ev.now _))
   have a3 : Ev (fun k => impl_DigitSum.f k (n : Int) (b : Int)) ((dsum b n : Int), true) := by
    simp only [impl_DigitSum.f, impl_isNumber_eq, Option.bind_some, decide_eq_true_eq]
    exact evp h (evb (impl_digitSum_ev b n hb hn) (Ev.now _))
   have a4 : Ev (fun k => spec_DigitSum.f k (n : Int) (b : Int)) ((dsum b n : Int), true) := by
    simp only [spec_DigitSum.f, spec_dgAsked_eq, Option.bind_some, decide_eq_true_eq]
    exact evp h (evb (spec_dgOf_ev b n hb hn) (evb (spec_dgSum_ev b n hb hn) (Ev.now _)))
   have a5 : Ev (fun k => impl_DigitProduct.f k (n : Int) (b : Int)) ((dmul b n : Int), true) := by
    simp only [impl_DigitProduct.f, impl_isNumber_eq, Option.bind_some, decide_eq_true_eq]
    exact evp h (evb (impl_digitProduct_ev b n hb hn) (Ev.now _))
   have a6 : Ev (fun k => spec_DigitProduct.f k (n : Int) (b : Int)) ((dmul b n : Int), true) := by
    simp only [spec_DigitProduct.f, spec_dgAsked_eq, Option.bind_some, decide_eq_true_eq]
    exact evp h (evb (spec_dgOf_ev b n hb hn) (evb (spec_dgProduct_ev b n hb hn) (Ev.now _)))
   have a7 : Ev (fun k => impl_DigitCounts.f k (n : Int) (b : Int)) (ic (cnts b (dgl b n)), true) := by
    simp only [impl_DigitCounts.f, impl_isNumber_eq, Option.bind_some, decide_eq_true_eq]
    exact evp h (evb (impl_digitsOf_ev b n hb hn) (evb (impl_countsOf_ev b (dgl b n) (by omega) hdl (by omega)) (Ev.now _)))
   have a8 : Ev (fun k => spec_DigitCounts.f k (n : Int) (b : Int)) (ic (cnts b (dgl b n)), true) := by
    simp only [spec_DigitCounts.f, spec_dgAsked_eq, Option.bind_some, decide_eq_true_eq]
    exact evp h (evb (spec_dgOf_ev b n hb hn) (evb (spec_dgCounts_ev b (dgl b n) (by omega) hdl (by omega)) (Ev.now _)))
   have a9 : Ev (fun k => impl_DigitalRoot.f k (n : Int) (b : Int)) ((droot b n : Int), true) := by
    simp only [impl_DigitalRoot.f, impl_isNumber_eq, Option.bind_some, decide_eq_true_eq]
    exact evp h (impl_root_loop b hb n hn)
   have b1 : Ev (fun k => spec_DigitalRoot.f k (n : Int) (b : Int)) ((droot b n : Int), true) := by
    simp only [spec_DigitalRoot.f, spec_dgAsked_eq, Option.bind_some, decide_eq_true_eq]
    exact evp h (spec_root_loop b hb n hn)
   have b2 : Ev (fun k => spec_NumberText.f k (n : Int) (b : Int)) (txt (dgl b n), true) := by
    simp only [spec_NumberText.f, spec_dgAsked_eq, Option.bind_some, decide_eq_true_eq]
    exact evp h (evb (spec_dgText_ev b n hb hb2 hn) (Ev.now _))
   refine evb a1 (evb a2 (evb a3 (evb a4 (evb a5 (evb a6 (evb a7 (evb a8 (evb a9 (evb b1 (evb (impl_text_ok b n hb hb2 hn) (evb b2 ?_)))))))))))
   refine evn (by simp) (evb (laws_rSame_self _ (by rw [ic_length]; omega)) (evp rfl (evn (by simp) (evp rfl (evn (by simp) (evp rfl (evn (by simp) (evb (laws_rSame_self _ (by rw [ic_length, cnts_len]; omega)) (evp rfl (evn (by simp) (evp rfl (evn (by simp) (evp rfl (evn (by simp) (evn (by simp) (evn (by simp) (evn (by simp) ?_)))))))))))))))))
   exact j0_yes l1 hl1 b n hb hb2 hn
  ·have no1 : impl_isNumber.f n b = some false := by rw [impl_isNumber_eq, decide_eq_false h]
   have no2 : spec_dgAsked.f n b = some false := by rw [spec_dgAsked_eq, decide_eq_false h]
   have a1 : Ev (fun k => impl_DigitsOf.f k n b) ([], false) := evc no1 (evn (by simp) (Ev.now _))
   have a2 : Ev (fun k => spec_DigitsOf.f k n b) ([], false) := evc no2 (evn (by simp) (Ev.now _))
   have a3 : Ev (fun k => impl_DigitSum.f k n b) (0, false) := evc no1 (evn (by simp) (Ev.now _))
   have a4 : Ev (fun k => spec_DigitSum.f k n b) (0, false) := evc no2 (evn (by simp) (Ev.now _))
   have a5 : Ev (fun k => impl_DigitProduct.f k n b) (0, false) := evc no1 (evn (by simp) (Ev.now _))
   have a6 : Ev (fun k => spec_DigitProduct.f k n b) (0, false) := evc no2 (evn (by simp) (Ev.now _))
   have a7 : Ev (fun k => impl_DigitCounts.f k n b) ([], false) := evc no1 (evn (by simp) (Ev.now _))
   have a8 : Ev (fun k => spec_DigitCounts.f k n b) ([], false) := evc no2 (evn (by simp) (Ev.now _))
   have a9 : Ev (fun k => impl_DigitalRoot.f k n b) (0, false) := evc no1 (evn (by simp) (Ev.now _))
   have b1 : Ev (fun k => spec_DigitalRoot.f k n b) (0, false) := evc no2 (evn (by simp) (Ev.now _))
   have b3 : Ev (fun k => impl_NumberText.f k n b) ((⟨#[]⟩ : ByteArray), false) := evc no1 (evn (by simp) (Ev.now _))
   have b2 : Ev (fun k => spec_NumberText.f k n b) ((⟨#[]⟩ : ByteArray), false) := evc no2 (evn (by simp) (Ev.now _))
   refine evb a1 (evb a2 (evb a3 (evb a4 (evb a5 (evb a6 (evb a7 (evb a8 (evb a9 (evb b1 (evb b3 (evb b2 ?_)))))))))))
   refine evn (by simp) (evb (laws_rSame_self _ (by simp)) (evp rfl (evn (by simp) (evp rfl (evn (by simp) (evp rfl (evn (by simp) (evb (laws_rSame_self _ (by simp)) (evp rfl (evn (by simp) (evp rfl (evn (by simp) (evp rfl (evn (by simp) (evn (by simp) (evn (by simp) (evn (by simp) ?_)))))))))))))))))
   refine evs (fun k => by rw [laws_FnDigitsTellNumbers.j0]) ?_
   exact evn (by simp) (evn (by simp) (j2_ok l1 hl1))

end Go.Proofs.Ytiheocddlopfcaa.Pure
