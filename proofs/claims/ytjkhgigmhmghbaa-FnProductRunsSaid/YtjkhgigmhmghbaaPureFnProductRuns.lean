/- For all codes: product runs fall and end below the base; least numbers with a product have it, and smooth ones alone are products. -/
import Derived.Test.YtjkhgigmhmghbaaPFnProductRunsx12
import Derived.Test.YtjkhgigmhmghbaaWMore
set_option linter.unusedVariables false
set_option linter.unusedSimpArgs false
namespace Go.Proofs.Ytjkhgigmhmghbaa.Pure
open Go.RowKit Go.Proofs.Ytjkhgigmhmghbaa.PFnProductRuns Go.Proofs.YtjkhgigmhmghbaaW.PrintWords Go.Proofs.YtjkhgigmhmghbaaW.PrintLast

theorem w64 {x : Int} (h1 : -9223372036854775808 ≤ x) (h2 : x ≤ 9223372036854775807) : wrap64 x = x := by unfold wrap64; omega
theorem w64o {x : Int} (h1 : -9223372036854775808 ≤ x := by omega) (h2 : x ≤ 9223372036854775807 := by omega) : wrap64 x = x := w64 h1 h2
abbrev Bs (l : List Int) : Prop := ∀ x ∈ l, 0 ≤ x ∧ x ≤ 255

theorem w64n (n : Nat) (h : n ≤ 9223372036854775807) : wrap64 (n : Int) = (n : Int) := w64 (by omega) (by omega)

theorem evp {α : Type} {c : Prop} [Decidable c] {a b : Nat → Option α} {r : α} (h : c) (k : Ev a r) : Ev (fun n => if c then a n else b n) r := Ev.congr (fun _ => if_pos h) k
theorem evn {α : Type} {c : Prop} [Decidable c] {a b : Nat → Option α} {r : α} (h : ¬ c) (k : Ev b r) : Ev (fun n => if c then a n else b n) r := Ev.congr (fun _ => if_neg h) k
theorem evr {α : Type} {x r : α} (h : x = r) : Ev (fun _ => some x) r := h ▸ Ev.now x
theorem evb {α β : Type} {g : Nat → Option α} {f : Nat → α → Option β} {a : α} {r : β} (h : Ev g a) (k : Ev (fun n => f n a) r) : Ev (fun n => (g n).bind fun x => f n x) r := Ev.bind h k
theorem evc {α β : Type} {x : Option α} {a : α} {f : Nat → α → Option β} {r : β} (h : x = some a) (k : Ev (fun n => f n a) r) : Ev (fun n => x.bind fun y => f n y) r := by subst h; exact k
theorem evs {α : Type} {g f : Nat → Option α} {r : α} (h : ∀ k, g (k + 1) = f k) (k : Ev f r) : Ev g r := Ev.step h k
theorem rd_mid (pre post : List Int) (x : Int) : rd (pre ++ x :: post) (pre.length : Int) = x := by simp [rd]
theorem rd_mid' (pre post : List Int) (x i : Int) (h : i = pre.length) : rd (pre ++ x :: post) i = x := by subst h; exact rd_mid pre post x
theorem set_mid {α : Type} (pre post : List α) (x y : α) : (pre ++ x :: post).set pre.length y = pre ++ y :: post := by simp
theorem set_midI {α : Type} (pre post : List α) (x y : α) (i : Int) (h : i = pre.length) : (pre ++ x :: post).set i.toNat y = pre ++ y :: post := by subst h; simp
theorem rd_get (xs : List Int) (i : Nat) (h : i < xs.length) : rd xs (i : Int) = xs[i] := by simp [rd, h]
theorem rd_mem (xs : List Int) (i : Int) (h0 : 0 ≤ i) (h : i < xs.length) : rd xs i ∈ xs := by
 have hi : i.toNat < xs.length := by omega
 simp only [rd, List.getD_eq_getElem?_getD, List.getElem?_eq_getElem hi, Option.getD_some]
 exact List.getElem_mem hi
def ic (l : List Nat) : List Int := l.map (fun x : Nat => (x : Int))
theorem ic_cons (x : Nat) (l : List Nat) : ic (x :: l) = (x : Int) :: ic l := rfl
theorem ic_append (l m : List Nat) : ic (l ++ m) = ic l ++ ic m := by simp [ic]
theorem ic_length (l : List Nat) : (ic l).length = l.length := by simp [ic]
def digs (n b : Nat) : Nat → Nat → List Nat
 | 0, _ => []
 | k + 1, a => a * b / n :: digs n b k (a * b % n)
def lsd (b : Nat) : Nat → Nat → List Nat
 | 0, _ => []
 | f + 1, n => if n = 0 then [] else n % b :: lsd b f (n / b)
theorem lsd_zero (b f : Nat) : lsd b f 0 = [] := by cases f <;> simp [lsd]
theorem lsd_fuel {b : Nat} (hb : 2 ≤ b) (n : Nat) : ∀ f g : Nat, n ≤ f → n ≤ g → lsd b f n = lsd b g n := by
 induction n using Nat.strongRecOn with
 | _ n ih =>
  intro f g hf hg
  by_cases h : n = 0
  ·subst h
   rw [lsd_zero, lsd_zero]
  ·obtain ⟨f, rfl⟩ : ∃ x, f = x + 1 := ⟨f - 1, by omega⟩
   obtain ⟨g, rfl⟩ : ∃ x, g = x + 1 := ⟨g - 1, by omega⟩
   have hlt : n / b < n := Nat.div_lt_self (by omega) (by omega)
   simp only [lsd, if_neg h]
   rw [ih (n / b) hlt f g (by omega) (by omega)]
def low (b n : Nat) : List Nat := lsd b n n
theorem low_zero (b : Nat) : low b 0 = [] := rfl
theorem low_succ {b n : Nat} (hb : 2 ≤ b) (hn : 1 ≤ n) : low b n = n % b :: low b (n / b) := by
 obtain ⟨m, rfl⟩ : ∃ x, n = x + 1 := ⟨n - 1, by omega⟩
 have hlt : (m + 1) / b < m + 1 := Nat.div_lt_self (by omega) (by omega)
 show lsd b (m + 1) (m + 1) = _
 simp only [lsd]
 rw [if_neg (by omega)]
 show _ = _ :: lsd b _ _
 rw [lsd_fuel hb ((m + 1) / b) m ((m + 1) / b) (by omega) (Nat.le_refl _)]
def dgl (b n : Nat) : List Nat := if n = 0 then [0] else (low b n).reverse
def val (b : Nat) (v : Nat) : List Nat → Nat
 | [] => v
 | d :: l => val b (v * b + d) l
theorem val_append (b v : Nat) (l m : List Nat) : val b v (l ++ m) = val b (val b v l) m := by
 induction l generalizing v with
 | nil => rfl
 | cons d l ih => exact ih _
theorem val_ge {b : Nat} (hb : 1 ≤ b) (l : List Nat) : ∀ v : Nat, v ≤ val b v l := by
 induction l with
 | nil => intro v; exact Nat.le_refl _
 | cons d l ih =>
  intro v
  have h := ih (v * b + d)
  have h2 : v * 1 ≤ v * b := Nat.mul_le_mul_left _ hb
  simp only [val]
  omega
theorem low_lt {b : Nat} (hb : 2 ≤ b) (n : Nat) : ∀ d ∈ low b n, d < b := by
 induction n using Nat.strongRecOn with
 | _ n ih =>
  by_cases h : n = 0
  ·subst h
   simp [low_zero]
  ·have hlt : n / b < n := Nat.div_lt_self (by omega) (by omega)
   rw [low_succ hb (by omega)]
   intro d hd
   rcases List.mem_cons.1 hd with rfl | hd
   ·exact Nat.mod_lt _ (by omega)
   ·exact ih _ hlt d hd
theorem low_val {b : Nat} (hb : 2 ≤ b) (n : Nat) : val b 0 (low b n).reverse = n := by
 induction n using Nat.strongRecOn with
 | _ n ih =>
  by_cases h : n = 0
  ·subst h
   rfl
  ·have hlt : n / b < n := Nat.div_lt_self (by omega) (by omega)
   rw [low_succ hb (by omega), List.reverse_cons, val_append, ih _ hlt]
   simp only [val]
   have := Nat.div_add_mod n b
   rw [Nat.mul_comm (n / b) b]
   omega
theorem dgl_val {b : Nat} (hb : 2 ≤ b) (n : Nat) : val b 0 (dgl b n) = n := by
 unfold dgl
 by_cases h : n = 0
 ·subst h
  rw [if_pos rfl]
  simp [val]
 ·rw [if_neg h, low_val hb]
theorem dgl_lt {b : Nat} (hb : 2 ≤ b) (n : Nat) : ∀ d ∈ dgl b n, d < b := by
 unfold dgl
 by_cases h : n = 0
 ·subst h
  rw [if_pos rfl]
  intro d hd
  rw [List.mem_singleton.1 hd]
  omega
 ·rw [if_neg h]
  intro d hd
  exact low_lt hb n d (List.mem_reverse.1 hd)
theorem low_len {b : Nat} (hb : 2 ≤ b) (k : Nat) : ∀ n : Nat, n < 2 ^ k → (low b n).length ≤ k := by
 induction k with
 | zero =>
  intro n hn
  have : n = 0 := by rw [Nat.pow_zero] at hn; omega
  subst this
  simp [low_zero]
 | succ k ih =>
  intro n hn
  by_cases h : n = 0
  ·subst h
   simp [low_zero]
  ·rw [low_succ hb (by omega), List.length_cons]
   have h2 : n / b < 2 ^ k := by
    refine Nat.div_lt_of_lt_mul ?_
    rw [Nat.pow_succ] at hn
    have : 2 * 2 ^ k ≤ b * 2 ^ k := Nat.mul_le_mul_right _ hb
    omega
   have := ih _ h2
   omega
theorem dgl_len1 {b : Nat} (hb : 2 ≤ b) (n : Nat) (hn : n ≤ 1000000000001) : 1 ≤ (dgl b n).length ∧ (dgl b n).length ≤ 40 := by
 unfold dgl
 by_cases h : n = 0
 ·subst h
  rw [if_pos rfl]
  simp
 ·rw [if_neg h, List.length_reverse]
  refine ⟨?_, low_len hb 40 n (by omega)⟩
  rw [low_succ hb (by omega), List.length_cons]
  omega
theorem dgl_len {b : Nat} (hb : 2 ≤ b) (n : Nat) (hn : n ≤ 1000000000000) : 1 ≤ (dgl b n).length ∧ (dgl b n).length ≤ 40 := dgl_len1 hb n (by omega)
def lmul : List Nat → Nat
 | [] => 1
 | d :: l => d * lmul l
def dmul (b n : Nat) : Nat := lmul (dgl b n)
theorem lmul_le {b : Nat} (l : List Nat) : ∀ v : Nat, (∀ d ∈ l, d < b) → v * lmul l ≤ val b v l := by
 induction l with
 | nil => intro v _; simp [lmul, val]
 | cons d l ih =>
  intro v h
  have h1 := h d (by simp)
  have h2 : v * d ≤ v * b := Nat.mul_le_mul_left _ (by omega)
  have h3 := ih (v * b + d) (fun x hx => h x (by simp [hx]))
  have h4 : v * d * lmul l ≤ (v * b + d) * lmul l := Nat.mul_le_mul_right _ (by omega)
  simp only [lmul, val]
  rw [← Nat.mul_assoc]
  omega
theorem val_mono {b : Nat} (hb : 1 ≤ b) (l : List Nat) (j v : Nat) : val b v (l.take j) ≤ val b v l := by
 have h := val_ge hb (l.drop j) (val b v (l.take j))
 rw [← val_append, List.take_append_drop] at h
 exact h
theorem lmul_take {b : Nat} (hb : 2 ≤ b) (n j : Nat) : lmul ((dgl b n).take j) ≤ n + 1 := by
 have h := dgl_val hb n
 have hl := dgl_lt hb n
 have hm := val_mono (b := b) (by omega) (dgl b n) j 0
 cases hd : (dgl b n).take j with
 | nil => simp [lmul]
 | cons d l =>
  rw [hd] at hm
  have hl2 : ∀ x ∈ (dgl b n).take j, x < b := fun x hx => hl x (List.mem_of_mem_take hx)
  rw [hd] at hl2
  have h2 := lmul_le (b := b) l d (fun x hx => hl2 x (by simp [hx]))
  simp only [val, Nat.zero_mul, Nat.zero_add] at hm
  simp only [lmul]
  omega

theorem ic_reverse (l : List Nat) : ic l.reverse = (ic l).reverse := by simp [ic]
theorem ic_rd (pre post : List Nat) (x : Nat) : rd (ic (pre ++ x :: post)) (pre.length : Int) = (x : Int) := by
 rw [ic_append, ic_cons, show ((pre.length : Nat) : Int) = (((ic pre).length : Nat) : Int) by simp [ic], rd_mid]

def Ev2 {α : Type} (g : Nat → Nat → Option α) (r : α) : Prop := ∃ K, ∀ i j, K ≤ i → K ≤ j → g i j = some r
theorem Ev2.diag {α : Type} {g : Nat → Nat → Option α} {r : α} (h : Ev2 g r) : Ev (fun k => g k k) r := by
 obtain ⟨K, h⟩ := h
 exact ⟨K, fun k hk => h k k hk hk⟩
theorem Ev2.step {α β : Type} {g : Nat → Nat → Option α} {a : Nat → Option β} {f : Nat → Nat → β → Option α} {y : β} {r : α} (h : ∀ i j, g i (j + 1) = (a i).bind fun z => f i j z) (ha : Ev a y) (hf : Ev2 (fun i j => f i j y) r) : Ev2 g r := by
 obtain ⟨K, ha⟩ := ha
 obtain ⟨L, hf⟩ := hf
 refine ⟨K + L + 1, fun i j hi hj => ?_⟩
 obtain ⟨j, rfl⟩ : ∃ m, j = m + 1 := ⟨j - 1, by omega⟩
 rw [h, ha i (by omega), Option.bind_some]
 exact hf i j (by omega) (by omega)
theorem Ev2.done {α : Type} {g : Nat → Nat → Option α} {r : α} (h : ∀ i j, g i (j + 1) = some r) : Ev2 g r := by
 refine ⟨1, fun i j hi hj => ?_⟩
 obtain ⟨j, rfl⟩ : ∃ m, j = m + 1 := ⟨j - 1, by omega⟩
 exact h i j
theorem Ev2.next {α : Type} {g f : Nat → Nat → Option α} {r : α} (h : ∀ i j, g i (j + 1) = f i j) (hf : Ev2 f r) : Ev2 g r := by
 obtain ⟨L, hf⟩ := hf
 refine ⟨L + 1, fun i j hi hj => ?_⟩
 obtain ⟨j, rfl⟩ : ∃ m, j = m + 1 := ⟨j - 1, by omega⟩
 rw [h]
 exact hf i j (by omega) (by omega)
theorem Ev2.congr_ {α : Type} {g f : Nat → Nat → Option α} {r s : α} (h : ∀ i j, g i j = f i j) (hf : Ev2 f r) (e : r = s := by first | rfl | simp) : Ev2 g s := by
 subst e
 obtain ⟨L, hf⟩ := hf
 exact ⟨L, fun i j hi hj => by rw [h]; exact hf i j hi hj⟩

theorem val_lt {b : Nat} (l : List Nat) : ∀ v : Nat, (∀ d ∈ l, d < b) → val b v l < (v + 1) * b ^ l.length := by
 induction l with
 | nil => intro v _; simp [val]
 | cons d l ih =>
  intro v h
  have h1 := ih (v * b + d) (fun x hx => h x (by simp [hx]))
  have hd := h d (by simp)
  have h2 : (v * b + d + 1) * b ^ l.length ≤ (v + 1) * b * b ^ l.length := Nat.mul_le_mul_right _ (by rw [Nat.add_mul]; omega)
  simp only [val, List.length_cons]
  rw [Nat.pow_succ, Nat.mul_comm (b ^ l.length) b, ← Nat.mul_assoc]
  omega
theorem val_split (b : Nat) (l : List Nat) : ∀ v : Nat, val b v l = v * b ^ l.length + val b 0 l := by
 induction l with
 | nil => intro v; simp [val]
 | cons d l ih =>
  intro v
  simp only [val, List.length_cons]
  rw [ih (v * b + d), ih (0 * b + d), Nat.add_mul, Nat.pow_succ, Nat.mul_comm (b ^ l.length) b, ← Nat.mul_assoc]
  simp only [Nat.zero_mul, Nat.zero_add]
  omega
theorem val_lt0 {b : Nat} (l : List Nat) (h : ∀ d ∈ l, d < b) : val b 0 l < b ^ l.length := by
 have := val_lt l 0 h
 simpa using this
theorem val_cons (b d : Nat) (l : List Nat) : val b 0 (d :: l) = d * b ^ l.length + val b 0 l := by
 simp only [val, Nat.zero_mul, Nat.zero_add]
 exact val_split b l d
theorem div_unique {E a r c s : Nat} (hr : r < E) (hs : s < E) (h : a * E + r = c * E + s) : a = c ∧ r = s := by
 have h1 : (a * E + r) / E = a := by rw [Nat.mul_comm, Nat.mul_add_div (by omega), Nat.div_eq_of_lt hr, Nat.add_zero]
 have h2 : (c * E + s) / E = c := by rw [Nat.mul_comm, Nat.mul_add_div (by omega), Nat.div_eq_of_lt hs, Nat.add_zero]
 have h3 : a = c := by rw [← h1, h, h2]
 subst h3
 exact ⟨rfl, by omega⟩
theorem val_inj {b : Nat} (x : List Nat) : ∀ y : List Nat, x.length = y.length → (∀ d ∈ x, d < b) → (∀ d ∈ y, d < b) → val b 0 x = val b 0 y → x = y := by
 induction x with
 | nil =>
  intro y hl _ _ _
  exact (List.eq_nil_of_length_eq_zero hl.symm).symm
 | cons d x ih =>
  intro y hl hx hy h
  cases y with
  | nil => simp at hl
  | cons e y =>
   have hl2 : x.length = y.length := by simpa using hl
   rw [val_cons, val_cons, hl2] at h
   have hx2 : ∀ d ∈ x, d < b := fun z hz => hx z (by simp [hz])
   have hy2 : ∀ d ∈ y, d < b := fun z hz => hy z (by simp [hz])
   obtain ⟨h1, h2⟩ := div_unique (by have := val_lt0 x hx2; rw [hl2] at this; exact this) (val_lt0 y hy2) h
   rw [h1, ih y hl2 hx2 hy2 h2]
theorem low_lower {b : Nat} (hb : 2 ≤ b) (n : Nat) : 1 ≤ n → b ^ ((low b n).length - 1) ≤ n := by
 induction n using Nat.strongRecOn with
 | _ n ih =>
  intro hn
  have hlt : n / b < n := Nat.div_lt_self (by omega) (by omega)
  rw [low_succ hb hn, List.length_cons, Nat.add_sub_cancel]
  by_cases h : n / b = 0
  ·rw [h, low_zero]
   simpa using hn
  ·have h2 := ih (n / b) hlt (Nat.pos_of_ne_zero h)
   have h3 : 1 ≤ (low b (n / b)).length := by rw [low_succ hb (Nat.pos_of_ne_zero h), List.length_cons]; omega
   have h4 : b ^ (low b (n / b)).length = b ^ ((low b (n / b)).length - 1) * b := by rw [← Nat.pow_succ]; congr 1; omega
   have h5 : b ^ ((low b (n / b)).length - 1) * b ≤ n / b * b := Nat.mul_le_mul_right _ h2
   have h6 := Nat.div_mul_le_self n b
   omega
theorem dgl_lower {b : Nat} (hb : 2 ≤ b) (n : Nat) (hn : 1 ≤ n) : b ^ ((dgl b n).length - 1) ≤ n := by
 unfold dgl
 rw [if_neg (by omega), List.length_reverse]
 exact low_lower hb n hn
theorem dgl_upper {b : Nat} (hb : 2 ≤ b) (n : Nat) : n < b ^ (dgl b n).length := by
 have h := val_lt0 (dgl b n) (dgl_lt hb n)
 rw [dgl_val hb] at h
 exact h
theorem dgl_pos (b n : Nat) (hb : 2 ≤ b) : 1 ≤ (dgl b n).length := by
 unfold dgl
 by_cases h : n = 0
 ·rw [if_pos h]; simp
 ·rw [if_neg h, List.length_reverse, low_succ hb (by omega), List.length_cons]; omega
theorem dgl_length {b : Nat} (hb : 2 ≤ b) (n w : Nat) (hw : 1 ≤ w) (h1 : b ^ (w - 1) ≤ n) (h2 : n < b ^ w) : (dgl b n).length = w := by
 have hp : 0 < b ^ (w - 1) := Nat.pow_pos (by omega)
 have h3 := dgl_lower hb n (by omega)
 have h4 := dgl_upper hb n
 have h5 := dgl_pos b n hb
 by_cases h : (dgl b n).length < w
 ·have : b ^ (dgl b n).length ≤ b ^ (w - 1) := Nat.pow_le_pow_right (by omega) (by omega)
  omega
 ·by_cases h6 : w < (dgl b n).length
  ·have : b ^ w ≤ b ^ ((dgl b n).length - 1) := Nat.pow_le_pow_right (by omega) (by omega)
   omega
  ·omega
theorem dgl_of_val {b : Nat} (hb : 2 ≤ b) (L : List Nat) (hL : 1 ≤ L.length) (hd : ∀ d ∈ L, d < b) (h : b ^ (L.length - 1) ≤ val b 0 L) : dgl b (val b 0 L) = L :=
 val_inj _ _ (dgl_length hb _ _ hL h (val_lt0 L hd)) (dgl_lt hb _) hd (dgl_val hb _)

theorem impl_in_eq (a b c : Int) : impl_in.f a b c = some (decide (b ≤ a ∧ a ≤ c)) := by
 unfold impl_in.f
 by_cases h : b ≤ a <;> simp [h]
theorem spec_l1In_eq (a b c : Int) : spec_l1In.f a b c = some (decide (b ≤ a ∧ a ≤ c)) := by
 unfold spec_l1In.f
 by_cases h : b ≤ a <;> simp [h]

theorem impl_isBase_eq (b : Int) : impl_isBase.f b = some (decide (2 ≤ b ∧ b ≤ 16)) := by simp only [impl_isBase.f, impl_in_eq, Option.bind_some]
theorem spec_dgBase_eq (b : Int) : spec_dgBase.f b = some (decide (2 ≤ b ∧ b ≤ 16)) := by simp only [spec_dgBase.f, spec_l1In_eq, Option.bind_some]

theorem impl_isNumber_eq (n b : Int) : impl_isNumber.f n b = some (decide ((0 ≤ n ∧ n ≤ 1000000000000) ∧ 2 ≤ b ∧ b ≤ 16)) := by
 simp only [impl_isNumber.f, impl_in_eq, impl_isBase_eq, Option.bind_some, decide_eq_true_eq]
 by_cases h : 0 ≤ n ∧ n ≤ 1000000000000 <;> simp [h]
theorem spec_dgAsked_eq (n b : Int) : spec_dgAsked.f n b = some (decide ((0 ≤ n ∧ n ≤ 1000000000000) ∧ 2 ≤ b ∧ b ≤ 16)) := by
 simp only [spec_dgAsked.f, spec_dgNumber.f, spec_l1In_eq, spec_dgBase_eq, Option.bind_some, decide_eq_true_eq]
 by_cases h : 0 ≤ n ∧ n ≤ 1000000000000 <;> simp [h]

theorem pigeon (n : Nat) : ∀ f : Nat → Nat, (∀ i, i ≤ n → f i < n) → ∃ i j, i < j ∧ j ≤ n ∧ f i = f j := by
 induction n with
 | zero => intro f h; exact absurd (h 0 (Nat.le_refl _)) (by omega)
 | succ n ih =>
  intro f h
  by_cases hc : ∃ i, i ≤ n ∧ f i = f (n + 1)
  ·obtain ⟨i, hi, he⟩ := hc
   exact ⟨i, n + 1, by omega, Nat.le_refl _, he⟩
  ·have hv := h (n + 1) (Nat.le_refl _)
   have hne : ∀ i, i ≤ n → f i ≠ f (n + 1) := fun i hi he => hc ⟨i, hi, he⟩
   obtain ⟨i, j, hij, hj, he⟩ := ih (fun i => if f i = n then f (n + 1) else f i) (fun i hi => by
    have h1 := h i (by omega)
    have h2 := hne i hi
    show (if f i = n then f (n + 1) else f i) < n
    split <;> omega)
   refine ⟨i, j, hij, by omega, ?_⟩
   have h1 := hne i (by omega)
   have h2 := hne j hj
   (try simp only at he)
   split at he <;> split at he <;> omega
theorem tmod_cast (a b : Nat) : Int.tmod (a : Int) (b : Int) = ((a % b : Nat) : Int) := (Int.ofNat_tmod a b).symm
theorem tdiv_cast (a b : Nat) : Int.tdiv (a : Int) (b : Int) = ((a / b : Nat) : Int) := (Int.ofNat_tdiv a b).symm
theorem natOf {a : Int} (h : 0 ≤ a) : ∃ n : Nat, a = (n : Int) := ⟨a.toNat, by omega⟩

theorem reverse_loop (n : Nat) : ∀ (mid pre post : List Int), mid.length ≤ n → pre.length = post.length → (pre ++ mid ++ post).length ≤ 1000000000000 →
  Ev (fun k => slices_Reverse_int_int.l0 k (pre ++ mid ++ post) (pre.length : Int) ((pre.length : Int) + (mid.length : Int) - 1)) (pre ++ mid.reverse ++ post) := by
 induction n with
 | zero =>
  intro mid pre post hm _ _
  obtain rfl : mid = [] := List.eq_nil_of_length_eq_zero (by omega)
  refine evs (fun k => by rw [slices_Reverse_int_int.l0]) ?_
  exact evn (by simp; omega) (evr (by simp))
 | succ n ih =>
  intro mid pre post hm hp hl
  cases mid with
  | nil =>
   refine evs (fun k => by rw [slices_Reverse_int_int.l0]) ?_
   exact evn (by simp; omega) (evr (by simp))
  | cons a t =>
   by_cases ht : t = []
   ·subst ht
    refine evs (fun k => by rw [slices_Reverse_int_int.l0]) ?_
    exact evn (by simp) (evr (by simp))
   ·obtain ⟨m, b, rfl⟩ : ∃ m b, t = m ++ [b] := ⟨t.dropLast, t.getLast ht, (List.dropLast_concat_getLast ht).symm⟩
    simp only [List.length_append, List.length_cons, List.length_nil] at hm hl
    have e0 : pre ++ (a :: (m ++ [b])) ++ post = pre ++ a :: (m ++ b :: post) := by simp
    have e1 : pre ++ (a :: (m ++ [b])) ++ post = (pre ++ a :: m) ++ b :: post := by simp
    have hj : ((pre.length : Int) + (((a :: (m ++ [b])).length : Nat) : Int) - 1) = (((pre ++ a :: m).length : Nat) : Int) := by simp; omega
    have r1 : rd (pre ++ (a :: (m ++ [b])) ++ post) (((pre ++ a :: m).length : Nat) : Int) = b := by rw [e1, rd_mid]
    have r0 : rd (pre ++ (a :: (m ++ [b])) ++ post) ((pre.length : Nat) : Int) = a := by rw [e0, rd_mid]
    have hset : ((pre ++ (a :: (m ++ [b])) ++ post).set (pre.length : Int).toNat b).set (((pre ++ a :: m).length : Nat) : Int).toNat a = (pre ++ [b]) ++ m ++ (a :: post) := by
     rw [e0, Int.toNat_natCast, Int.toNat_natCast, set_mid]
     have e2 : pre ++ b :: (m ++ b :: post) = (pre ++ b :: m) ++ b :: post := by simp
     have e3 : (pre ++ a :: m).length = (pre ++ b :: m).length := by simp
     rw [e2, e3, set_mid]
     simp
    have h := ih m (pre ++ [b]) (a :: post) (by omega) (by simp; omega) (by simp; omega)
    have hj2 : (((pre ++ a :: m).length : Nat) : Int) = (pre.length : Int) + (m.length : Int) + 1 := by simp; omega
    have hlen : (((pre ++ (a :: (m ++ [b])) ++ post).length : Nat) : Int) = (pre.length : Int) + (m.length : Int) + 2 + (post.length : Int) := by simp; omega
    refine evs (fun k => by rw [slices_Reverse_int_int.l0]) ?_
    rw [hj, r1, r0, hset, hlen, hj2, w64o (x := (pre.length : Int) + 1), w64o (x := (pre.length : Int) + (m.length : Int) + 1 - 1)]
    refine evp (by omega) (evp (by omega) (evp (by omega) (evp (by omega) (evp (by omega) ?_))))
    have e4 : (((pre ++ [b]).length : Nat) : Int) = (pre.length : Int) + 1 := by simp
    rw [e4, show (pre.length : Int) + 1 + (m.length : Int) - 1 = (pre.length : Int) + (m.length : Int) + 1 - 1 by omega] at h
    have e5 : (pre ++ [b]) ++ m.reverse ++ (a :: post) = pre ++ (a :: (m ++ [b])).reverse ++ post := by simp
    rw [e5] at h
    exact h
theorem reverse_ev (l : List Int) (h : l.length ≤ 1000000000000) : Ev (fun k => slices_Reverse_int_int.f k l) l.reverse := by
 unfold slices_Reverse_int_int.f
 rw [w64 (by omega) (by omega)]
 have := reverse_loop l.length l [] [] (Nat.le_refl _) rfl (by simpa using h)
 simpa using this

theorem spec_dgOf_loop (b : Nat) (hb : 2 ≤ b) (n : Nat) : ∀ acc : List Nat, acc.length + (low b n).length ≤ 1000000 → n ≤ 1000000000001 → Ev (fun k => spec_dgOf.l0 k (n : Int) (b : Int) (ic acc)) (ic ((low b n).reverse ++ acc)) := by
 induction n using Nat.strongRecOn with
 | _ n ih =>
  intro acc hl hn
  refine evs (fun k => by rw [spec_dgOf.l0]) ?_
  by_cases h : n = 0
  ·subst h
   exact evn (by omega) (evr (by simp [low_zero]))
  ·have hlt : n / b < n := Nat.div_lt_self (by omega) (by omega)
   rw [low_succ hb (by omega), List.length_cons] at hl
   have h2 := ih (n / b) hlt (n % b :: acc) (by simp only [List.length_cons]; omega) (by omega)
   rw [tmod_cast, tdiv_cast, w64n (n / b) (by omega), low_succ hb (by omega)]
   refine evp (by omega) (evn (by omega) ?_)
   simp only [Option.bind_some]
   refine evp (by simp only [List.length_cons, List.length_nil, ic_length]; omega) ?_
   simpa [ic] using h2
theorem spec_dgOf_ev1 (b n : Nat) (hb : 2 ≤ b) (hn : n ≤ 1000000000001) : Ev (fun k => spec_dgOf.f k (n : Int) (b : Int)) (ic (dgl b n)) := by
 unfold spec_dgOf.f
 by_cases h : n = 0
 ·subst h
  exact evp (by omega) (evr (by simp [dgl, ic]))
 ·have hl := low_len hb 40 n (by omega)
  have h2 := spec_dgOf_loop b hb n [] (by simp; omega) hn
  unfold dgl
  rw [if_neg h]
  exact evn (by omega) (by simpa [ic] using h2)
theorem impl_digitsOf_loop (b : Nat) (hb : 2 ≤ b) (n : Nat) : ∀ acc : List Nat, acc.length + (low b n).length ≤ 1000000 → n ≤ 1000000000001 → Ev (fun k => impl_digitsOf.l0 k (n : Int) (b : Int) (ic acc)) (ic (acc ++ low b n).reverse) := by
 induction n using Nat.strongRecOn with
 | _ n ih =>
  intro acc hl hn
  refine evs (fun k => by rw [impl_digitsOf.l0]) ?_
  by_cases h : n = 0
  ·subst h
   refine evn (by omega) (evb (reverse_ev (ic acc) (by rw [ic_length]; omega)) (evr ?_))
   rw [low_zero, List.append_nil, ic_reverse]
  ·have hlt : n / b < n := Nat.div_lt_self (by omega) (by omega)
   rw [low_succ hb (by omega), List.length_cons] at hl
   have h2 := ih (n / b) hlt (acc ++ [n % b]) (by simp only [List.length_append, List.length_cons, List.length_nil]; omega) (by omega)
   rw [tmod_cast, tdiv_cast, w64n (n / b) (by omega), low_succ hb (by omega)]
   refine evp (by omega) (evn (by omega) (evp (by rw [ic_length]; omega) ?_))
   rw [ic_append, List.append_assoc] at h2
   simpa [ic] using h2
theorem impl_digitsOf_ev1 (b n : Nat) (hb : 2 ≤ b) (hn : n ≤ 1000000000001) : Ev (fun k => impl_digitsOf.f k (n : Int) (b : Int)) (ic (dgl b n)) := by
 unfold impl_digitsOf.f
 have hdv : n / b ≤ n := Nat.div_le_self _ _
 have hl := low_len hb 40 (n / b) (by omega)
 have h2 := impl_digitsOf_loop b hb (n / b) [n % b] (by simp only [List.length_cons, List.length_nil]; omega) (by omega)
 rw [tmod_cast, tdiv_cast, w64n (n / b) (by omega)]
 refine evn (by omega) ?_
 unfold dgl
 by_cases h : n = 0
 ·subst h
  rw [if_pos rfl]
  rw [Nat.zero_div, low_zero] at h2
  simpa [ic, Nat.zero_mod] using h2
 ·rw [if_neg h, low_succ hb (by omega)]
  simpa [ic] using h2
theorem spec_dgOf_ev (b n : Nat) (hb : 2 ≤ b) (hn : n ≤ 1000000000000) : Ev (fun k => spec_dgOf.f k (n : Int) (b : Int)) (ic (dgl b n)) := spec_dgOf_ev1 b n hb (by omega)
theorem impl_digitsOf_ev (b n : Nat) (hb : 2 ≤ b) (hn : n ≤ 1000000000000) : Ev (fun k => impl_digitsOf.f k (n : Int) (b : Int)) (ic (dgl b n)) := impl_digitsOf_ev1 b n hb (by omega)

theorem dmul_lt {b : Nat} (hb : 2 ≤ b) (n : Nat) (hn : b ≤ n) : dmul b n < n := by
 have h := dgl_val hb n
 have hl := dgl_lt hb n
 have hlow : low b n = n % b :: low b (n / b) := low_succ hb (by omega)
 have hdiv : 1 ≤ n / b := (Nat.le_div_iff_mul_le (by omega)).2 (by omega)
 have hlow2 : low b (n / b) = n / b % b :: low b (n / b / b) := low_succ hb hdiv
 have hlen : 2 ≤ (dgl b n).length := by
  unfold dgl
  rw [if_neg (by omega), List.length_reverse, hlow, hlow2]
  simp
 unfold dmul
 match hd : dgl b n with
 | [] => rw [hd] at hlen; simp at hlen
 | [x] => rw [hd] at hlen; simp at hlen
 | d :: x :: l =>
  rw [hd] at h hl
  have h1 := lmul_le (b := b) l (d * b + x) (fun y hy => hl y (by simp [hy]))
  simp only [val, Nat.zero_mul, Nat.zero_add] at h
  simp only [lmul]
  rw [h] at h1
  have hx := hl x (by simp)
  rcases Nat.eq_zero_or_pos d with h0 | h0
  ·rw [h0, Nat.zero_mul]; omega
  ·rcases Nat.eq_zero_or_pos (lmul l) with h2 | h2
   ·rw [h2, Nat.mul_zero, Nat.mul_zero]; omega
   ·have h3 : d * x < d * b + x := by
     rcases Nat.eq_zero_or_pos x with h4 | h4
     ·subst h4
      have := Nat.mul_pos h0 (show 0 < b by omega)
      omega
     ·have := Nat.mul_lt_mul_of_pos_left hx h0
      omega
    have h4 := Nat.mul_lt_mul_of_pos_right h3 h2
    rw [← Nat.mul_assoc]
    omega
def pruf (b : Nat) : Nat → Nat → List Nat
 | 0, n => [n]
 | f + 1, n => if b ≤ n then n :: pruf b f (dmul b n) else [n]
theorem pruf_ne (b f n : Nat) : pruf b f n ≠ [] := by cases f <;> simp only [pruf] <;> (try split) <;> simp
theorem pruf_fuel {b : Nat} (hb : 2 ≤ b) (n : Nat) : ∀ f g : Nat, n ≤ f → n ≤ g → pruf b f n = pruf b g n := by
 induction n using Nat.strongRecOn with
 | _ n ih =>
  intro f g hf hg
  by_cases h : b ≤ n
  ·obtain ⟨f, rfl⟩ : ∃ x, f = x + 1 := ⟨f - 1, by omega⟩
   obtain ⟨g, rfl⟩ : ∃ x, g = x + 1 := ⟨g - 1, by omega⟩
   have hlt := dmul_lt hb n h
   simp only [pruf, if_pos h]
   rw [ih _ hlt f g (by omega) (by omega)]
  ·cases f <;> cases g <;> simp only [pruf, if_neg h]
def prun (b n : Nat) : List Nat := pruf b n n
theorem prun_small {b n : Nat} (h : n < b) : prun b n = [n] := by
 unfold prun
 cases n with
 | zero => rfl
 | succ n => simp only [pruf]; rw [if_neg (by omega)]
theorem prun_big {b n : Nat} (hb : 2 ≤ b) (h : b ≤ n) : prun b n = n :: prun b (dmul b n) := by
 obtain ⟨m, rfl⟩ : ∃ x, n = x + 1 := ⟨n - 1, by omega⟩
 have hlt := dmul_lt hb (m + 1) h
 unfold prun
 simp only [pruf]
 rw [if_pos h, pruf_fuel hb (dmul b (m + 1)) m (dmul b (m + 1)) (by omega) (Nat.le_refl _)]
theorem prun_ne (b n : Nat) : prun b n ≠ [] := pruf_ne b n n
theorem prun_len {b : Nat} (hb : 2 ≤ b) (n : Nat) : 1 ≤ (prun b n).length ∧ (prun b n).length ≤ n + 1 := by
 induction n using Nat.strongRecOn with
 | _ n ih =>
  by_cases h : b ≤ n
  ·have hlt := dmul_lt hb n h
   rw [prun_big hb h, List.length_cons]
   have := ih _ hlt
   omega
  ·rw [prun_small (by omega)]
   simp
def proot (b n : Nat) : Nat := (prun b n).getLast (prun_ne b n)
theorem proot_small {b n : Nat} (h : n < b) : proot b n = n := by
 have e := prun_small h
 unfold proot
 simp only [e, List.getLast_singleton]
theorem proot_big {b n : Nat} (hb : 2 ≤ b) (h : b ≤ n) : proot b n = proot b (dmul b n) := by
 have e := prun_big hb h
 unfold proot
 have : (prun b n).getLast (prun_ne b n) = (n :: prun b (dmul b n)).getLast (by simp) := by simp only [e]
 rw [this, List.getLast_cons (prun_ne b _)]
theorem proot_lt {b : Nat} (hb : 2 ≤ b) (n : Nat) : proot b n < b := by
 induction n using Nat.strongRecOn with
 | _ n ih =>
  by_cases h : b ≤ n
  ·rw [proot_big hb h]; exact ih _ (dmul_lt hb n h)
  ·rw [proot_small (by omega)]; omega
def ppers (b n : Nat) : Nat := (prun b n).length - 1
theorem ppers_small {b n : Nat} (h : n < b) : ppers b n = 0 := by unfold ppers; rw [prun_small h]; rfl
theorem ppers_big {b n : Nat} (hb : 2 ≤ b) (h : b ≤ n) : ppers b n = ppers b (dmul b n) + 1 := by
 have h2 := (prun_len hb (dmul b n)).1
 unfold ppers
 rw [prun_big hb h, List.length_cons]
 omega
theorem lmul_perm {l m : List Nat} (h : l.Perm m) : lmul l = lmul m := by
 induction h with
 | nil => rfl
 | cons x _ ih => simp only [lmul, ih]
 | swap x y l => simp only [lmul]; rw [← Nat.mul_assoc, ← Nat.mul_assoc, Nat.mul_comm x y]
 | trans _ _ i j => exact i.trans j
theorem lmul_mem_pos {l : List Nat} (h : 1 ≤ lmul l) : ∀ d ∈ l, 1 ≤ d := by
 induction l with
 | nil => simp
 | cons x l ih =>
  simp only [lmul] at h
  have hx : 1 ≤ x := Nat.pos_of_ne_zero (fun e => by rw [e, Nat.zero_mul] at h; omega)
  have hl : 1 ≤ lmul l := Nat.pos_of_ne_zero (fun e => by rw [e, Nat.mul_zero] at h; omega)
  intro d hd
  rcases List.mem_cons.1 hd with rfl | hd
  ·exact hx
  ·exact ih hl d hd
theorem sorted_root {b : Nat} (hb : 2 ≤ b) (n : Nat) (hn : b ≤ n) (hz : 1 ≤ dmul b n) (s : List Nat) (hs : s.Perm (dgl b n)) : proot b (val b 0 s) = proot b n ∧ val b 0 s < b ^ (dgl b n).length ∧ b ≤ val b 0 s := by
 have hlen := hs.length_eq
 have hpos := lmul_mem_pos hz
 have hlt := dgl_lt hb n
 have hd1 : ∀ d ∈ s, d < b := fun d hd => hlt d (hs.mem_iff.1 hd)
 have hd0 : ∀ d ∈ s, 1 ≤ d := fun d hd => hpos d (hs.mem_iff.1 hd)
 have h2 : 2 ≤ (dgl b n).length := by
  have h := dgl_upper hb n
  rcases Nat.lt_or_ge (dgl b n).length 2 with h3 | h3
  ·have : b ^ (dgl b n).length ≤ b ^ 1 := Nat.pow_le_pow_right (by omega) (by omega)
   rw [Nat.pow_one] at this
   omega
  ·exact h3
 have hge : b ^ (s.length - 1) ≤ val b 0 s := by
  cases s with
  | nil => simp at hlen; omega
  | cons d l =>
   rw [val_cons]
   have h3 := hd0 d (by simp)
   have h4 : 1 * b ^ l.length ≤ d * b ^ l.length := Nat.mul_le_mul_right _ h3
   simp only [List.length_cons, Nat.add_sub_cancel]
   omega
 have hdg := dgl_of_val hb s (by omega) hd1 hge
 have hup := val_lt0 s hd1
 have hbig : b ≤ val b 0 s := by
  have : b ^ 1 ≤ b ^ (s.length - 1) := Nat.pow_le_pow_right (by omega) (by omega)
  rw [Nat.pow_one] at this
  omega
 refine ⟨?_, by rw [← hlen]; exact hup, hbig⟩
 rw [proot_big hb hbig, proot_big hb hn]
 unfold dmul
 rw [hdg, lmul_perm hs]

theorem spec_dgProduct_loop (post : List Nat) : ∀ (pre : List Nat) (a : Nat), (pre ++ post).length ≤ 1000000000000 → (∀ j, a * lmul (post.take j) ≤ 1000000000000000000) →
  Ev (fun k => spec_dgProduct.l0 k (a : Int) (ic (pre ++ post)) ((pre ++ post).length : Int) (pre.length : Int)) ((a * lmul post : Nat) : Int) := by
 induction post with
 | nil =>
  intro pre a h1 h2
  refine evs (fun k => by rw [spec_dgProduct.l0]) ?_
  exact evn (by simp) (evr (by simp [lmul]))
 | cons d post ih =>
  intro pre a h1 h2
  have hl : (pre ++ d :: post).length = pre.length + (post.length + 1) := by simp
  have h4 := h2 1
  simp only [List.take_succ_cons, List.take_zero, lmul, Nat.mul_one] at h4
  have h3 := ih (pre ++ [d]) (a * d) (by simp at h1 ⊢; omega) (fun j => by
   have h5 := h2 (j + 1)
   simp only [List.take_succ_cons, lmul] at h5
   rw [Nat.mul_assoc]
   exact h5)
  rw [List.append_assoc, List.singleton_append] at h3
  refine evs (fun k => by rw [spec_dgProduct.l0]) ?_
  have e2 : (a : Int) * (d : Int) = ((a * d : Nat) : Int) := (Int.natCast_mul _ _).symm
  rw [ic_rd, ic_length, hl, e2, w64n (a * d) (by omega), w64o (x := (pre.length : Int) + 1)]
  refine evp (by omega) (evp (by omega) (evp (by omega) ?_))
  rw [hl] at h3
  have e1 : (((pre ++ [d]).length : Nat) : Int) = (pre.length : Int) + 1 := by simp
  rw [e1] at h3
  have e3 : a * lmul (d :: post) = a * d * lmul post := by simp only [lmul, Nat.mul_assoc]
  rw [e3]
  exact h3
theorem spec_dgProduct_all (l : List Nat) (h1 : l.length ≤ 1000000000000) (h2 : ∀ j, lmul (l.take j) ≤ 1000000000000000000) : Ev (fun k => spec_dgProduct.l0 k 1 (ic l) ((ic l).length : Int) 0) ((lmul l : Nat) : Int) := by
 have h := spec_dgProduct_loop l [] 1 (by simpa using h1) (fun j => by rw [Nat.one_mul]; exact h2 j)
 rw [ic_length]
 simpa using h

theorem impl_digitProduct_loop (post : List Nat) : ∀ (pre : List Nat) (a : Nat), (pre ++ post).length ≤ 1000000000000 → (∀ j, a * lmul (post.take j) ≤ 1000000000000000000) →
  Ev (fun k => impl_digitProduct.l0 k (a : Int) (ic (pre ++ post)) ((pre ++ post).length : Int) (pre.length : Int)) ((a * lmul post : Nat) : Int) := by
 induction post with
 | nil =>
  intro pre a h1 h2
  refine evs (fun k => by rw [impl_digitProduct.l0]) ?_
  exact evn (by simp) (evr (by simp [lmul]))
 | cons d post ih =>
  intro pre a h1 h2
  have hl : (pre ++ d :: post).length = pre.length + (post.length + 1) := by simp
  have h4 := h2 1
  simp only [List.take_succ_cons, List.take_zero, lmul, Nat.mul_one] at h4
  have h3 := ih (pre ++ [d]) (a * d) (by simp at h1 ⊢; omega) (fun j => by
   have h5 := h2 (j + 1)
   simp only [List.take_succ_cons, lmul] at h5
   rw [Nat.mul_assoc]
   exact h5)
  rw [List.append_assoc, List.singleton_append] at h3
  refine evs (fun k => by rw [impl_digitProduct.l0]) ?_
  have e2 : (a : Int) * (d : Int) = ((a * d : Nat) : Int) := (Int.natCast_mul _ _).symm
  rw [ic_rd, ic_length, hl, e2, w64n (a * d) (by omega), w64o (x := (pre.length : Int) + 1)]
  refine evp (by omega) (evp (by omega) (evp (by omega) ?_))
  rw [hl] at h3
  have e1 : (((pre ++ [d]).length : Nat) : Int) = (pre.length : Int) + 1 := by simp
  rw [e1] at h3
  have e3 : a * lmul (d :: post) = a * d * lmul post := by simp only [lmul, Nat.mul_assoc]
  rw [e3]
  exact h3
theorem impl_digitProduct_all (l : List Nat) (h1 : l.length ≤ 1000000000000) (h2 : ∀ j, lmul (l.take j) ≤ 1000000000000000000) : Ev (fun k => impl_digitProduct.l0 k 1 (ic l) ((ic l).length : Int) 0) ((lmul l : Nat) : Int) := by
 have h := impl_digitProduct_loop l [] 1 (by simpa using h1) (fun j => by rw [Nat.one_mul]; exact h2 j)
 rw [ic_length]
 simpa using h

theorem spec_dgProduct_ev (b n : Nat) (hb : 2 ≤ b) (hn : n ≤ 1000000000000) : Ev (fun k => spec_dgProduct.f k (ic (dgl b n))) ((dmul b n : Nat) : Int) := by
 have hl := dgl_len hb n hn
 exact spec_dgProduct_all (dgl b n) (by omega) (fun j => by have := lmul_take hb n j; omega)
theorem impl_digitProduct_ev (b n : Nat) (hb : 2 ≤ b) (hn : n ≤ 1000000000000) : Ev (fun k => impl_digitProduct.f k (n : Int) (b : Int)) ((dmul b n : Nat) : Int) := by
 have hl := dgl_len hb n hn
 exact evb (impl_digitsOf_ev b n hb hn) (impl_digitProduct_all (dgl b n) (by omega) (fun j => by have := lmul_take hb n j; omega))

theorem impl_value_loop (b : Nat) (hb : 2 ≤ b) (hb2 : b ≤ 16) (post : List Nat) : ∀ (pre : List Nat) (v : Nat), v ≤ 1000000000000 → (∀ d ∈ post, d < b) → (pre ++ post).length ≤ 1000000000000 →
  Ev (fun k => impl_value.l0 k (b : Int) (v : Int) (ic (pre ++ post)) ((pre ++ post).length : Int) (pre.length : Int)) (if val b v post ≤ 1000000000000 then ((val b v post : Nat) : Int) else 1000000000001) := by
 induction post with
 | nil =>
  intro pre v hv hd hl
  refine evs (fun k => by rw [impl_value.l0]) ?_
  exact evn (by simp) (evr (by simp [val, hv]))
 | cons d post ih =>
  intro pre v hv hd hl
  have hl2 : (pre ++ d :: post).length = pre.length + (post.length + 1) := by simp
  have hd1 := hd d (by simp)
  have hm : v * b ≤ 1000000000000 * 16 := Nat.mul_le_mul hv hb2
  have e1 : (v : Int) * (b : Int) = ((v * b : Nat) : Int) := (Int.natCast_mul _ _).symm
  have e2 : ((v * b : Nat) : Int) + (d : Int) = ((v * b + d : Nat) : Int) := by omega
  refine evs (fun k => by rw [impl_value.l0]) ?_
  rw [ic_rd, ic_length, hl2, e1, w64n (v * b) (by omega), e2, w64n (v * b + d) (by omega), w64o (x := (pre.length : Int) + 1)]
  refine evp (by omega) (evp (by omega) (evp (by omega) ?_))
  rw [show val b v (d :: post) = val b (v * b + d) post from rfl]
  by_cases h : v * b + d ≤ 1000000000000
  ·have h3 := ih (pre ++ [d]) (v * b + d) h (fun x hx => hd x (by simp [hx])) (by simp at hl ⊢; omega)
   rw [List.append_assoc, List.singleton_append, hl2] at h3
   have e3 : (((pre ++ [d]).length : Nat) : Int) = (pre.length : Int) + 1 := by simp
   rw [e3] at h3
   exact evn (by omega) h3
  ·have h4 := val_ge (b := b) (by omega) post (v * b + d)
   rw [if_neg (by omega)]
   exact evp (by omega) (Ev.now _)
theorem impl_value_ev (b : Nat) (hb : 2 ≤ b) (hb2 : b ≤ 16) (l : List Nat) (hd : ∀ d ∈ l, d < b) (hl : l.length ≤ 1000000000000) : Ev (fun k => impl_value.f k (ic l) (b : Int)) (if val b 0 l ≤ 1000000000000 then ((val b 0 l : Nat) : Int) else 1000000000001) := by
 have h := impl_value_loop b hb hb2 l [] 0 (by omega) hd (by simpa using hl)
 unfold impl_value.f
 rw [ic_length]
 simpa using h
theorem spec_dgFrom_loop (b : Nat) (hb : 2 ≤ b) (hb2 : b ≤ 16) (post : List Nat) : ∀ (pre : List Nat) (v : Nat), v ≤ 1000000000000 → (∀ d ∈ post, d < b) → (pre ++ post).length ≤ 1000000000000 →
  Ev (fun k => spec_dgFrom.l0 k (b : Int) (v : Int) (ic (pre ++ post)) ((pre ++ post).length : Int) (pre.length : Int)) (if val b v post ≤ 1000000000000 then (((val b v post : Nat) : Int), true) else (0, false)) := by
 induction post with
 | nil =>
  intro pre v hv hd hl
  refine evs (fun k => by rw [spec_dgFrom.l0]) ?_
  exact evn (by simp) (evr (by simp [val, hv]))
 | cons d post ih =>
  intro pre v hv hd hl
  have hl2 : (pre ++ d :: post).length = pre.length + (post.length + 1) := by simp
  have hd1 := hd d (by simp)
  have hm : v * b ≤ 1000000000000 * 16 := Nat.mul_le_mul hv hb2
  have e1 : (v : Int) * (b : Int) = ((v * b : Nat) : Int) := (Int.natCast_mul _ _).symm
  have e2 : ((v * b : Nat) : Int) + (d : Int) = ((v * b + d : Nat) : Int) := by omega
  refine evs (fun k => by rw [spec_dgFrom.l0]) ?_
  rw [ic_rd, ic_length, hl2, e1, w64n (v * b) (by omega), e2, w64n (v * b + d) (by omega), w64o (x := (pre.length : Int) + 1)]
  refine evp (by omega) (evp (by omega) (evp (by omega) ?_))
  rw [show val b v (d :: post) = val b (v * b + d) post from rfl]
  by_cases h : v * b + d ≤ 1000000000000
  ·have h3 := ih (pre ++ [d]) (v * b + d) h (fun x hx => hd x (by simp [hx])) (by simp at hl ⊢; omega)
   rw [List.append_assoc, List.singleton_append, hl2] at h3
   have e3 : (((pre ++ [d]).length : Nat) : Int) = (pre.length : Int) + 1 := by simp
   rw [e3] at h3
   exact evn (by omega) h3
  ·have h4 := val_ge (b := b) (by omega) post (v * b + d)
   rw [if_neg (by omega)]
   exact evp (by omega) (Ev.now _)
def told (n : Nat) : Int × Bool := if n ≤ 1000000000000 then ((n : Int), true) else (0, false)
theorem spec_dgFrom_ev (b : Nat) (hb : 2 ≤ b) (hb2 : b ≤ 16) (l : List Nat) (hd : ∀ d ∈ l, d < b) (hl : l.length ≤ 1000000000000) : Ev (fun k => spec_dgFrom.f k (ic l) (b : Int)) (told (val b 0 l)) := by
 have h := spec_dgFrom_loop b hb hb2 l [] 0 (by omega) hd (by simpa using hl)
 unfold spec_dgFrom.f told
 rw [ic_length]
 simpa using h
theorem impl_told_value (n : Nat) : impl_told.f (if n ≤ 1000000000000 then (n : Int) else 1000000000001) = some (told n) := by
 unfold impl_told.f told
 by_cases h : n ≤ 1000000000000
 ·rw [if_pos h, if_pos h, if_neg (by omega)]
 ·rw [if_neg h, if_neg h, if_pos (by omega)]

theorem val_mono_v {b : Nat} (l : List Nat) : ∀ v w : Nat, v ≤ w → val b v l ≤ val b w l := by
 induction l with
 | nil => intro v w h; exact h
 | cons d l ih =>
  intro v w h
  exact ih _ _ (by have := Nat.mul_le_mul_right b h; omega)
theorem bubble {b : Nat} (hb : 1 ≤ b) (x : Nat) (t s : List Nat) : ∀ v : Nat, (∀ y ∈ s, y ≤ x) → val b v (s ++ x :: t) ≤ val b v (x :: (s ++ t)) := by
 induction s with
 | nil => intro v _; exact Nat.le_refl _
 | cons y s ih =>
  intro v h
  have h1 := ih (v * b + y) (fun z hz => h z (by simp [hz]))
  have hy := h y (by simp)
  refine Nat.le_trans h1 ?_
  show val b ((v * b + y) * b + x) (s ++ t) ≤ val b ((v * b + x) * b + y) (s ++ t)
  refine val_mono_v _ _ _ ?_
  rw [Nat.add_mul, Nat.add_mul]
  obtain ⟨d, rfl⟩ := Nat.exists_eq_add_of_le hy
  rw [Nat.add_mul]
  have : d ≤ d * b := Nat.le_mul_of_pos_right d (by omega)
  omega
theorem sorted_least {b : Nat} (hb : 1 ≤ b) (l : List Nat) : ∀ (s : List Nat) (v : Nat), s.Perm l → s.Pairwise (· ≤ ·) → val b v s ≤ val b v l := by
 induction l with
 | nil => intro s v hp _; rw [hp.eq_nil]; exact Nat.le_refl _
 | cons x l ih =>
  intro s v hp hs
  have hx : x ∈ s := hp.mem_iff.2 (by simp)
  obtain ⟨s1, s2, rfl⟩ := List.append_of_mem hx
  have hs' := List.pairwise_append.1 hs
  have hle : ∀ y ∈ s1, y ≤ x := fun y hy => hs'.2.2 y hy x (by simp)
  have hp2 : (s1 ++ s2).Perm l := by
   have h1 : (x :: (s1 ++ s2)).Perm (x :: l) := List.perm_middle.symm.trans hp
   exact h1.cons_inv
  have hs2 : (s1 ++ s2).Pairwise (· ≤ ·) := List.pairwise_append.2 ⟨hs'.1, (List.pairwise_cons.1 hs'.2.1).2, fun a ha c hc => hs'.2.2 a ha c (by simp [hc])⟩
  exact Nat.le_trans (bubble hb x s2 s1 v hle) (ih _ _ hp2 hs2)
theorem sort_nat (l : List Nat) : ∃ s : List Nat, ((ic l).mergeSort fun x y => decide (x ≤ y)) = ic s ∧ s.Perm l ∧ s.Pairwise (· ≤ ·) := by
 have hp := List.mergeSort_perm (ic l) (fun x y => decide (x ≤ y))
 have hs : ((ic l).mergeSort fun x y => decide (x ≤ y)).Pairwise (fun x y => decide (x ≤ y) = true) := List.pairwise_mergeSort (fun a b c h1 h2 => by simp at *; omega) (fun a b => by simp; omega) (ic l)
 generalize ((ic l).mergeSort fun x y => decide (x ≤ y)) = m at hp hs
 have hnn : ∀ x ∈ m, 0 ≤ x := fun x hx => by
  have h1 := hp.mem_iff.1 hx
  unfold ic at h1
  obtain ⟨y, _, rfl⟩ := List.mem_map.1 h1
  omega
 have e : m = ic (m.map Int.toNat) := by
  unfold ic
  rw [List.map_map]
  refine (List.map_id' m).symm.trans (List.map_congr_left (fun x hx => ?_))
  have := hnn x hx
  simp only [Function.comp]
  omega
 refine ⟨m.map Int.toNat, e, ?_, ?_⟩
 ·have h1 := hp.map Int.toNat
  unfold ic at h1
  rw [List.map_map, show (Int.toNat ∘ fun (x : Nat) => (x : Int)) = id from funext (fun x => Int.toNat_natCast x), List.map_id] at h1
  exact h1
 ·rw [List.pairwise_map]
  exact hs.imp (fun h => by simp at h; omega)

theorem ic_snoc (l : List Nat) (x : Nat) : ic l ++ [(x : Int)] = ic (l ++ [x]) := by simp [ic]
theorem down_dn (b : Nat) (hb : 2 ≤ b) (n : Nat) : ∀ acc : List Nat, n ≤ 1000000000000 → acc.length + n ≤ 2000000000000 → Ev2 (fun i j => impl_down.dn (fun x => impl_digitProduct.f i x (b : Int)) (b : Int) j (ic (acc ++ [n])) (n : Int)) (ic (acc ++ prun b n)) := by
 induction n using Nat.strongRecOn with
 | _ n ih =>
  intro acc hn hl
  by_cases h : b ≤ n
  ·have hlt := dmul_lt hb n h
   have h2 := ih _ hlt (acc ++ [n]) (by omega) (by simp; omega)
   rw [prun_big hb h]
   refine Ev2.step (fun i j => by rw [impl_down.dn, if_pos (by omega)]) (impl_digitProduct_ev b n hb hn) ?_
   refine Ev2.congr_ ?_ h2
   intro i j
   rw [if_pos (by rw [ic_length]; simp; omega), ic_snoc]
  ·rw [prun_small (show n < b by omega)]
   exact Ev2.done (fun i j => by rw [impl_down.dn, if_neg (by omega)])
theorem impl_down_ev (b n : Nat) (hb : 2 ≤ b) (hn : n ≤ 1000000000000) : Ev (fun k => impl_down.f k (n : Int) (b : Int)) (ic (prun b n)) := by
 have h := Ev2.diag (down_dn b hb n [] hn (by simp; omega))
 simpa [impl_down.f, ic] using h
theorem spec_prRun_loopP (b : Nat) (hb : 2 ≤ b) (n : Nat) : ∀ acc : List Nat, n ≤ 1000000000000 → acc.length + n ≤ 2000000000000 → Ev (fun k => spec_prRun.l0 k (n : Int) (b : Int) false (ic (acc ++ [n]))) (ic (acc ++ prun b n)) := by
 induction n using Nat.strongRecOn with
 | _ n ih =>
  intro acc hn hl
  refine evs (fun k => by rw [spec_prRun.l0]) ?_
  by_cases h : b ≤ n
  ·have hlt := dmul_lt hb n h
   have h2 := ih _ hlt (acc ++ [n]) (by omega) (by simp; omega)
   rw [prun_big hb h]
   refine evp (by omega) (evn (by simp) (evb (spec_dgOf_ev b n hb hn) (evb (spec_dgProduct_ev b n hb hn) (evp (by rw [ic_length]; simp; omega) ?_))))
   rw [ic_snoc]
   simpa using h2
  ·rw [prun_small (show n < b by omega)]
   exact evn (by omega) (Ev.now _)
theorem spec_prRun_ev (b n : Nat) (hb : 2 ≤ b) (hn : n ≤ 1000000000000) : Ev (fun k => spec_prRun.f k (n : Int) (b : Int) false) (ic (prun b n)) := by
 have h := spec_prRun_loopP b hb n [] hn (by simp; omega)
 simpa [spec_prRun.f, ic] using h
theorem isn_yes (b n : Nat) (hb : 2 ≤ b) (hb2 : b ≤ 16) (hn : n ≤ 1000000000000) : impl_isNumber.f (n : Int) (b : Int) = some true ∧ spec_dgAsked.f (n : Int) (b : Int) = some true := by
 rw [impl_isNumber_eq, spec_dgAsked_eq, decide_eq_true (by omega)]
 exact ⟨rfl, rfl⟩
theorem last_rd (b n : Nat) (hb : 2 ≤ b) (hn : n ≤ 1000000000000) : impl_lastOf.f (ic (prun b n)) = some (proot b n : Int) ∧ spec_prLast.f (ic (prun b n)) = some (proot b n : Int) := by
 have hlen := prun_len hb n
 have e : rd (ic (prun b n)) (((prun b n).length : Int) - 1) = (proot b n : Int) := by
  unfold proot
  rw [List.getLast_eq_getElem, show ((prun b n).length : Int) - 1 = (((prun b n).length - 1 : Nat) : Int) by omega, rd_get _ _ (by rw [ic_length]; omega)]
  simp [ic]
 unfold impl_lastOf.f spec_prLast.f
 rw [ic_length, w64o (x := ((prun b n).length : Int) - 1), if_pos (by omega), if_pos (by omega), e]
 exact ⟨rfl, rfl⟩
theorem ppers_eq (b n : Nat) (hb : 2 ≤ b) (hn : n ≤ 1000000000000) : wrap64 (((ic (prun b n)).length : Int) - 1) = (ppers b n : Int) := by
 have h := prun_len hb n
 rw [ic_length, w64 (by omega) (by omega)]
 unfold ppers
 omega
theorem impl_ProductRun_ev (b n : Nat) (hb : 2 ≤ b) (hb2 : b ≤ 16) (hn : n ≤ 1000000000000) : Ev (fun k => impl_ProductRun.f k (n : Int) (b : Int)) (ic (prun b n), true) :=
 evc (isn_yes b n hb hb2 hn).1 (evp rfl (evb (impl_down_ev b n hb hn) (Ev.now _)))
theorem spec_ProductRun_ev (b n : Nat) (hb : 2 ≤ b) (hb2 : b ≤ 16) (hn : n ≤ 1000000000000) : Ev (fun k => spec_ProductRun.f k (n : Int) (b : Int)) (ic (prun b n), true) :=
 evc (isn_yes b n hb hb2 hn).2 (evp rfl (evb (spec_prRun_ev b n hb hn) (Ev.now _)))
theorem impl_Pers_ev (b n : Nat) (hb : 2 ≤ b) (hb2 : b ≤ 16) (hn : n ≤ 1000000000000) : Ev (fun k => impl_PersistenceOf.f k (n : Int) (b : Int)) ((ppers b n : Int), true) :=
 evc (isn_yes b n hb hb2 hn).1 (evp rfl (evb (impl_down_ev b n hb hn) (evr (by rw [ppers_eq b n hb hn]))))
theorem spec_Pers_ev (b n : Nat) (hb : 2 ≤ b) (hb2 : b ≤ 16) (hn : n ≤ 1000000000000) : Ev (fun k => spec_PersistenceOf.f k (n : Int) (b : Int)) ((ppers b n : Int), true) :=
 evc (isn_yes b n hb hb2 hn).2 (evp rfl (evb (spec_prRun_ev b n hb hn) (evr (by rw [ppers_eq b n hb hn]))))
theorem impl_Root_ev (b n : Nat) (hb : 2 ≤ b) (hb2 : b ≤ 16) (hn : n ≤ 1000000000000) : Ev (fun k => impl_ProductRoot.f k (n : Int) (b : Int)) ((proot b n : Int), true) :=
 evc (isn_yes b n hb hb2 hn).1 (evp rfl (evb (impl_down_ev b n hb hn) (evc (last_rd b n hb hn).1 (Ev.now _))))
theorem spec_Root_ev (b n : Nat) (hb : 2 ≤ b) (hb2 : b ≤ 16) (hn : n ≤ 1000000000000) : Ev (fun k => spec_ProductRoot.f k (n : Int) (b : Int)) ((proot b n : Int), true) :=
 evc (isn_yes b n hb hb2 hn).2 (evp rfl (evb (spec_prRun_ev b n hb hn) (evc (last_rd b n hb hn).2 (Ev.now _))))
theorem impl_DP_ev (b n : Nat) (hb : 2 ≤ b) (hb2 : b ≤ 16) (hn : n ≤ 1000000000000) : Ev (fun k => impl_DigitProduct.f k (n : Int) (b : Int)) ((dmul b n : Int), true) :=
 evc (isn_yes b n hb hb2 hn).1 (evp rfl (evb (impl_digitProduct_ev b n hb hn) (Ev.now _)))
theorem impl_SortedUp_ev (b n : Nat) (hb : 2 ≤ b) (hb2 : b ≤ 16) (hn : n ≤ 1000000000000) : ∃ u : Nat, u ≤ n ∧ (1 ≤ dmul b n → b ≤ n → proot b u = proot b n) ∧ Ev (fun k => impl_SortedUp.f k (n : Int) (b : Int)) ((u : Int), true) := by
 obtain ⟨s, h1, h2, h3⟩ := sort_nat (dgl b n)
 have hlt : ∀ d ∈ s, d < b := fun d hd => dgl_lt hb n d (h2.mem_iff.1 hd)
 have hlen := dgl_len hb n hn
 have hsl := h2.length_eq
 have hle := sorted_least (b := b) (by omega) (dgl b n) s 0 h2 h3
 rw [dgl_val hb n] at hle
 have hv := impl_value_ev b hb hb2 s hlt (by omega)
 rw [if_pos (by omega)] at hv
 refine ⟨val b 0 s, hle, fun hz hbn => (sorted_root hb n hbn hz s h2).1, ?_⟩
 refine evc (isn_yes b n hb hb2 hn).1 (evp rfl (evb (a := ic s) ?_ (evb hv (Ev.now _))))
 refine evb (impl_digitsOf_ev b n hb hn) (evc (a := ic s) ?_ (Ev.now _))
 unfold slices_Sort_int_int.f
 rw [if_pos (by rw [ic_length]; omega), h1]

def HasLen (b n k : Nat) : Prop := ∃ l : List Nat, (∀ d ∈ l, 2 ≤ d ∧ d < b) ∧ l.length = k ∧ lmul l = n
theorem HasLen.cons {b n k d : Nat} (h : HasLen b n k) (h1 : 2 ≤ d) (h2 : d < b) : HasLen b (d * n) (k + 1) := by
 obtain ⟨l, a, e, f⟩ := h
 refine ⟨d :: l, fun x hx => ?_, by simp [e], by simp [lmul, f]⟩
 rcases List.mem_cons.1 hx with rfl | hx
 ·exact ⟨h1, h2⟩
 ·exact a x hx
theorem HasLen.zero {b n : Nat} (h : HasLen b n 0) : n = 1 := by
 obtain ⟨l, _, e, f⟩ := h
 rw [List.eq_nil_of_length_eq_zero e] at f
 exact f.symm
theorem HasLen.one (b : Nat) : HasLen b 1 0 := ⟨[], by simp, rfl, rfl⟩
theorem HasLen.uncons {b n k : Nat} (h : HasLen b n (k + 1)) : ∃ d, 2 ≤ d ∧ d < b ∧ d ∣ n ∧ HasLen b (n / d) k := by
 obtain ⟨l, a, e, f⟩ := h
 cases l with
 | nil => simp at e
 | cons d l =>
  have hd := a d (by simp)
  refine ⟨d, hd.1, hd.2, ⟨lmul l, f.symm⟩, l, fun x hx => a x (by simp [hx]), by simpa using e, ?_⟩
  rw [← f]
  simp only [lmul]
  rw [Nat.mul_div_cancel_left _ (by omega)]
theorem HasLen.of_div {b n k d : Nat} (h1 : 2 ≤ d) (h2 : d < b) (hd : d ∣ n) (h : HasLen b (n / d) k) : HasLen b n (k + 1) := by
 have := h.cons h1 h2
 rwa [Nat.mul_div_cancel' hd] at this
theorem HasLen.pos {b n k : Nat} (h : HasLen b n k) : 1 ≤ n := by
 obtain ⟨l, a, e, rfl⟩ := h
 clear e
 induction l with
 | nil => simp [lmul]
 | cons d l ih =>
  have h1 := ih (fun x hx => a x (by simp [hx]))
  have h2 := (a d (by simp)).1
  simp only [lmul]
  exact Nat.mul_pos (by omega) h1
theorem HasLen.low {b n k : Nat} (h : HasLen b n k) : 2 ^ k ≤ n := by
 obtain ⟨l, a, rfl, rfl⟩ := h
 induction l with
 | nil => simp [lmul]
 | cons d l ih =>
  have h1 := ih (fun x hx => a x (by simp [hx]))
  have h2 := (a d (by simp)).1
  simp only [lmul, List.length_cons]
  rw [Nat.pow_succ, Nat.mul_comm]
  exact Nat.mul_le_mul h2 h1
theorem HasLen.le40 {b n k : Nat} (h : HasLen b n k) (hn : n ≤ 1000000000000) : k ≤ 40 := by
 have h1 := h.low
 rcases Nat.lt_or_ge 40 k with h2 | h2
 ·have : 2 ^ 41 ≤ 2 ^ k := Nat.pow_le_pow_right (by omega) h2
  have h3 : (2 : Nat) ^ 41 = 2199023255552 := by decide
  omega
 ·exact h2
theorem cop_one {b m : Nat} (l : List Nat) (hl : ∀ d ∈ l, 2 ≤ d ∧ d < b) (hm : ∀ d, 2 ≤ d → d < b → ¬ d ∣ m) (hd : m ∣ lmul l) (h1 : 1 ≤ m) : m = 1 := by
 have hc : Nat.Coprime m (lmul l) := by
  clear hd
  induction l with
  | nil => exact Nat.coprime_one_right m
  | cons d l ih =>
   simp only [lmul]
   have hd := hl d (by simp)
   have h2 : Nat.Coprime m d := by
    have hg : Nat.gcd m d ∣ m := Nat.gcd_dvd_left m d
    have hg2 : Nat.gcd m d ≤ d := Nat.le_of_dvd (by omega) (Nat.gcd_dvd_right m d)
    have hg3 : 1 ≤ Nat.gcd m d := Nat.gcd_pos_of_pos_left d h1
    rcases Nat.lt_or_ge (Nat.gcd m d) 2 with h3 | h3
    ·show Nat.gcd m d = 1
     omega
    ·exact absurd hg (hm _ h3 (by omega))
   exact Nat.Coprime.mul_right h2 (ih (fun x hx => hl x (by simp [hx])))
 have := Nat.gcd_eq_left hd
 have h3 : Nat.gcd m (lmul l) = 1 := hc
 omega
def Smooth (b n : Nat) : Prop := ∃ k, HasLen b n k

theorem impl_smooth_loop (b N : Nat) (hb2 : b ≤ 16) (D : Nat) : ∀ (d n : Nat), b ≤ d + D → 2 ≤ d → 1 ≤ n → n ≤ 1000000000000 → n ∣ N → (Smooth b n → Smooth b N) → (Smooth b N → ∃ l, (∀ x ∈ l, 2 ≤ x ∧ x < b) ∧ lmul l = N) → (∀ x, 2 ≤ x → x < d → ¬ x ∣ n) →
  ∃ r : Bool, (r = true ↔ Smooth b N) ∧ Ev (fun k => impl_isSmooth.l0 k (n : Int) (b : Int) (d : Int)) r ∧ Ev (fun k => spec_prSmooth.l0 k (n : Int) (b : Int) (d : Int)) r := by
 induction D with
 | zero =>
  intro d n hD hd hn1 hn hdv hs hl hno
  refine ⟨decide (n = 1), ?_, evs (fun k => by rw [impl_isSmooth.l0]) (evn (by omega) (evr ?_)), evs (fun k => by rw [spec_prSmooth.l0]) (evn (by omega) (evr ?_))⟩
  ·rw [decide_eq_true_eq]
   constructor
   ·rintro rfl; exact hs ⟨0, HasLen.one b⟩
   ·intro h
    obtain ⟨l, h1, h2⟩ := hl h
    exact cop_one l h1 (fun x hx1 hx2 => hno x hx1 (by omega)) (by rw [h2]; exact hdv) hn1
  ·by_cases h : n = 1
   ·subst h; rfl
   ·rw [decide_eq_false h]; exact beq_eq_false_iff_ne.2 (by omega)
  ·by_cases h : n = 1
   ·subst h; rfl
   ·rw [decide_eq_false h]; exact beq_eq_false_iff_ne.2 (by omega)
 | succ D ih =>
  intro d n hD hd hn1 hn hdv hs hl hno
  by_cases hdb : d < b
  ·suffices hin : ∃ r : Bool, (r = true ↔ Smooth b N) ∧ Ev (fun k => impl_isSmooth.l1 k (n : Int) (b : Int) (d : Int)) r ∧ Ev (fun k => spec_prSmooth.l1 k (n : Int) (b : Int) (d : Int)) r by
    obtain ⟨r, h1, h2, h3⟩ := hin
    exact ⟨r, h1, evs (fun k => by rw [impl_isSmooth.l0]) (evp (by omega) h2), evs (fun k => by rw [spec_prSmooth.l0]) (evp (by omega) h3)⟩
   induction n using Nat.strongRecOn with
   | _ n ihn =>
    by_cases hdn : n % d = 0
    ·have hdv2 : d ∣ n := Nat.dvd_of_mod_eq_zero hdn
     have hlt : n / d < n := Nat.div_lt_self (by omega) (by omega)
     have hpos : 1 ≤ n / d := Nat.div_pos (Nat.le_of_dvd (by omega) hdv2) (by omega)
     have hdd : n / d ∣ n := Nat.div_dvd_of_dvd hdv2
     obtain ⟨r, h1, h2, h3⟩ := ihn (n / d) hlt hpos (by omega) (Nat.dvd_trans hdd hdv) (fun ⟨k, hk⟩ => hs ⟨k + 1, hk.of_div hd hdb hdv2⟩) (fun x hx1 hx2 hx3 => hno x hx1 hx2 (Nat.dvd_trans hx3 hdd))
     refine ⟨r, h1, evs (fun k => by rw [impl_isSmooth.l1]) (evn (by omega) ?_), evs (fun k => by rw [spec_prSmooth.l1]) (evp (by omega) (evn (by omega) ?_))⟩
     ·rw [tmod_cast, tdiv_cast, w64n (n / d) (by omega)]
      exact evp (by omega) h2
     ·rw [tmod_cast, tdiv_cast, w64n (n / d) (by omega)]
      exact evp (by omega) h3
    ·obtain ⟨r, h1, h2, h3⟩ := ih (d + 1) n (by omega) (by omega) hn1 hn hdv hs hl (fun x hx1 hx2 hx3 => by
      rcases Nat.lt_or_ge x d with h | h
      ·exact hno x hx1 h hx3
      ·have : x = d := by omega
       subst this
       exact hdn (Nat.mod_eq_zero_of_dvd hx3))
     have e : wrap64 ((d : Int) + 1) = ((d + 1 : Nat) : Int) := w64 (by omega) (by omega)
     refine ⟨r, h1, evs (fun k => by rw [impl_isSmooth.l1]) (evn (by omega) ?_), evs (fun k => by rw [spec_prSmooth.l1]) (evp (by omega) (evn (by omega) ?_))⟩
     ·rw [tmod_cast, e]
      exact evn (by omega) h2
     ·rw [tmod_cast, e]
      exact evn (by omega) h3
  ·exact ih d n (by omega) hd hn1 hn hdv hs hl hno
theorem smooth_ev (b n : Nat) (hb2 : b ≤ 16) (hn1 : 1 ≤ n) (hn : n ≤ 1000000000000) : ∃ r : Bool, (r = true ↔ Smooth b n) ∧ Ev (fun k => impl_isSmooth.f k (n : Int) (b : Int)) r ∧ Ev (fun k => spec_prSmooth.f k (n : Int) (b : Int)) r := by
 obtain ⟨r, h1, h2, h3⟩ := impl_smooth_loop b n hb2 b 2 n (by omega) (by omega) hn1 hn (Nat.dvd_refl n) id (fun ⟨k, l, a, _, c⟩ => ⟨l, a, c⟩) (fun x h1 h2 => by omega)
 exact ⟨r, h1, evn (by omega) h2, h3⟩
theorem spec_smooth0_loop (b D : Nat) (hb2 : b ≤ 16) : ∀ d : Nat, b ≤ d + D → Ev (fun k => spec_prSmooth.l0 k 0 (b : Int) (d : Int)) false := by
 induction D with
 | zero =>
  intro d h
  refine evs (fun k => by rw [spec_prSmooth.l0]) ?_
  exact evn (by omega) (evr rfl)
 | succ D ih =>
  intro d h
  by_cases hdb : d < b
  ·have e : wrap64 ((d : Int) + 1) = ((d + 1 : Nat) : Int) := w64 (by omega) (by omega)
   refine evs (fun k => by rw [spec_prSmooth.l0]) (evp (by omega) (evs (fun k => by rw [spec_prSmooth.l1]) (evn (by omega) ?_)))
   rw [e]
   exact ih (d + 1) (by omega)
  ·exact ih d (by omega)
theorem smooth0_ev (b : Nat) (hb2 : b ≤ 16) : Ev (fun k => impl_isSmooth.f k 0 (b : Int)) false ∧ Ev (fun k => spec_prSmooth.f k 0 (b : Int)) false :=
 ⟨evp (by omega) (Ev.now _), spec_smooth0_loop b b hb2 2 (by omega)⟩

def IsF (b n : Nat) (v : Int) : Prop := (v = -1 ∧ ∀ k, ¬ HasLen b n k) ∨ ∃ k : Nat, v = k ∧ HasLen b n k ∧ ∀ j, j < k → ¬ HasLen b n j
theorem IsF.uniq {b n : Nat} {v u : Int} (h : IsF b n v) (g : IsF b n u) : v = u := by
 rcases h with ⟨h1, h2⟩ | ⟨k, h1, h2, h3⟩
 ·rcases g with ⟨g1, _⟩ | ⟨j, g1, g2, g3⟩
  ·omega
  ·exact absurd g2 (h2 j)
 ·rcases g with ⟨g1, g2⟩ | ⟨j, g1, g2, g3⟩
  ·exact absurd h2 (g2 k)
  ·rcases Nat.lt_trichotomy k j with h | h | h
   ·exact absurd h2 (g3 k h)
   ·omega
   ·exact absurd g2 (h3 j h)
theorem IsF.one (b : Nat) : IsF b 1 0 := Or.inr ⟨0, rfl, HasLen.one b, fun j h => by omega⟩
theorem IsF.small {b n : Nat} {v : Int} (h : IsF b n v) (hn : n ≤ 1000000000000) : -1 ≤ v ∧ v ≤ 40 := by
 rcases h with ⟨h1, _⟩ | ⟨k, h1, h2, _⟩
 ·omega
 ·have := h2.le40 hn
  omega
def IsFd (b n e : Nat) (v : Int) : Prop := (v = -1 ∧ ∀ d, 2 ≤ d → d < e → d ∣ n → ∀ k, ¬ HasLen b (n / d) k) ∨
 ∃ k : Nat, v = k + 1 ∧ (∃ d, 2 ≤ d ∧ d < e ∧ d ∣ n ∧ HasLen b (n / d) k) ∧ ∀ d, 2 ≤ d → d < e → d ∣ n → ∀ j, j < k → ¬ HasLen b (n / d) j
theorem IsFd.start (b n : Nat) : IsFd b n 2 (-1) := Or.inl ⟨rfl, fun d h1 h2 => by omega⟩
theorem IsFd.done {b n : Nat} {v : Int} (hn : 2 ≤ n) (h : IsFd b n b v) : IsF b n v := by
 rcases h with ⟨h1, h2⟩ | ⟨k, h1, ⟨d, d1, d2, d3, d4⟩, h3⟩
 ·refine Or.inl ⟨h1, fun k hk => ?_⟩
  cases k with
  | zero => have := hk.zero; omega
  | succ k =>
   obtain ⟨d, d1, d2, d3, d4⟩ := hk.uncons
   exact h2 d d1 d2 d3 k d4
 ·refine Or.inr ⟨k + 1, by omega, d4.of_div d1 d2 d3, fun j hj hk => ?_⟩
  cases j with
  | zero => have := hk.zero; omega
  | succ j =>
   obtain ⟨e, e1, e2, e3, e4⟩ := hk.uncons
   exact h3 e e1 e2 e3 j (by omega) e4
theorem IsFd.skip {b n e : Nat} {v : Int} (h : IsFd b n e v) (hd : ¬ e ∣ n) : IsFd b n (e + 1) v := by
 rcases h with ⟨h1, h2⟩ | ⟨k, h1, ⟨d, d1, d2, d3, d4⟩, h3⟩
 ·refine Or.inl ⟨h1, fun d a1 a2 a3 => ?_⟩
  rcases Nat.lt_or_ge d e with h | h
  ·exact h2 d a1 h a3
  ·exact absurd (show e ∣ n by rw [show e = d by omega]; exact a3) hd
 ·refine Or.inr ⟨k, h1, ⟨d, d1, by omega, d3, d4⟩, fun d a1 a2 a3 => ?_⟩
  rcases Nat.lt_or_ge d e with h | h
  ·exact h3 d a1 h a3
  ·exact absurd (show e ∣ n by rw [show e = d by omega]; exact a3) hd
theorem IsFd.next {b n e : Nat} {v u : Int} (h : IsFd b n e v) (h2e : 2 ≤ e) (hd : e ∣ n) (hu : IsF b (n / e) u) : IsFd b n (e + 1) (if 0 ≤ u ∧ (v < 0 ∨ u + 1 < v) then u + 1 else v) := by
 rcases hu with ⟨u1, u2⟩ | ⟨m, u1, u2, u3⟩
 ·rw [if_neg (by omega)]
  rcases h with ⟨h1, h2⟩ | ⟨k, h1, ⟨d, d1, d2, d3, d4⟩, h3⟩
  ·refine Or.inl ⟨h1, fun d a1 a2 a3 k hk => ?_⟩
   rcases Nat.lt_or_ge d e with h | h
   ·exact h2 d a1 h a3 k hk
   ·have : d = e := by omega
    subst this
    exact u2 k hk
  ·refine Or.inr ⟨k, h1, ⟨d, d1, by omega, d3, d4⟩, fun d a1 a2 a3 j hj hk => ?_⟩
   rcases Nat.lt_or_ge d e with h | h
   ·exact h3 d a1 h a3 j hj hk
   ·have : d = e := by omega
    subst this
    exact u2 j hk
 ·rcases h with ⟨h1, h2⟩ | ⟨k, h1, ⟨d, d1, d2, d3, d4⟩, h3⟩
  ·rw [if_pos (by omega)]
   refine Or.inr ⟨m, by omega, ⟨e, h2e, by omega, hd, u2⟩, fun d a1 a2 a3 j hj hk => ?_⟩
   rcases Nat.lt_or_ge d e with h | h
   ·exact h2 d a1 h a3 j hk
   ·have : d = e := by omega
    subst this
    exact u3 j hj hk
  ·by_cases hlt : m < k
   ·rw [if_pos (by omega)]
    refine Or.inr ⟨m, by omega, ⟨e, h2e, by omega, hd, u2⟩, fun d a1 a2 a3 j hj hk => ?_⟩
    rcases Nat.lt_or_ge d e with h | h
    ·exact h3 d a1 h a3 j (by omega) hk
    ·have : d = e := by omega
     subst this
     exact u3 j hj hk
   ·rw [if_neg (by omega)]
    refine Or.inr ⟨k, h1, ⟨d, d1, by omega, d3, d4⟩, fun d a1 a2 a3 j hj hk => ?_⟩
    rcases Nat.lt_or_ge d e with h | h
    ·exact h3 d a1 h a3 j hj hk
    ·have : d = e := by omega
     subst this
     exact u3 j (by omega) hk
inductive Gr (b : Nat) : Nat → Nat → List Nat → Prop
 | nil : Gr b 1 0 []
 | cons {n k d : Nat} {l : List Nat} : 2 ≤ d → d < b → d ∣ n → IsF b (n / d) k → (∀ e, 2 ≤ e → e < d → e ∣ n → ¬ IsF b (n / e) k) → Gr b (n / d) k l → Gr b n (k + 1) (d :: l)
theorem Gr.len {b n k : Nat} {l : List Nat} (h : Gr b n k l) : l.length = k := by
 induction h with
 | nil => rfl
 | cons _ _ _ _ _ _ ih => simp [ih]
theorem Gr.digs {b n k : Nat} {l : List Nat} (h : Gr b n k l) : ∀ d ∈ l, 2 ≤ d ∧ d < b := by
 induction h with
 | nil => simp
 | cons h1 h2 _ _ _ _ ih =>
  intro x hx
  rcases List.mem_cons.1 hx with rfl | hx
  ·exact ⟨h1, h2⟩
  ·exact ih x hx
theorem Gr.mul {b n k : Nat} {l : List Nat} (h : Gr b n k l) : lmul l = n := by
 induction h with
 | nil => rfl
 | cons h1 _ h3 _ _ _ ih => simp only [lmul, ih]; exact Nat.mul_div_cancel' h3
theorem Gr.tail_ge {b n k d : Nat} {l : List Nat} (h : Gr b n (k + 1) (d :: l)) (hf : IsF b n (k + 1 : Nat)) : ∀ e, 2 ≤ e → e < d → e ∣ n / d → ∀ j, j < k → ¬ HasLen b (n / d / e) j := by
 cases h with
 | cons h1 h2 h3 h4 h5 h6 =>
  intro e e1 e2 e3 j hj hk
  rcases hf with ⟨f1, _⟩ | ⟨m, f1, f2, f3⟩
  ·omega
  ·have hm : m = k + 1 := by omega
   subst hm
   -- the list e, d and the rest
   have e4 : e ∣ n := Nat.dvd_trans e3 (Nat.div_dvd_of_dvd h3)
   have e5 : n / d / e = n / e / d := by rw [Nat.div_div_eq_div_mul, Nat.div_div_eq_div_mul, Nat.mul_comm]
   have e6 : d ∣ n / e := by
    obtain ⟨x, hx⟩ := e3
    refine ⟨x, ?_⟩
    have h7 : n = d * (e * x) := by rw [← hx, Nat.mul_div_cancel' h3]
    rw [h7, show d * (e * x) = e * (d * x) by rw [← Nat.mul_assoc, ← Nat.mul_assoc, Nat.mul_comm d e], Nat.mul_div_cancel_left _ (by omega)]
   rw [e5] at hk
   have hk1 := hk.of_div h1 h2 e6
   have h8 : j + 1 = k := by
    rcases Nat.lt_or_ge (j + 1) k with h | h
    ·exact absurd (hk1.of_div e1 (by omega) e4) (f3 _ (by omega))
    ·omega
   subst h8
   refine h5 e e1 e2 e4 (Or.inr ⟨j + 1, rfl, hk1, fun i hi hh => f3 (i + 1) (by omega) (hh.of_div e1 (by omega) e4)⟩)

def Memo (P : Nat → Int → Prop) (M : List (Int × Int)) : Prop := (M.map (·.1)).Nodup ∧ ∀ p ∈ M, ∃ n : Nat, p.1 = n ∧ 2 ≤ n ∧ n ≤ 1000000000000 ∧ P n p.2
theorem Memo.nil (P : Nat → Int → Prop) : Memo P [] := ⟨by simp, by simp⟩
theorem nodup_leN (n : Nat) (xs : List Int) (h : xs.Nodup) (hb : ∀ x ∈ xs, 0 ≤ x ∧ x < n) : xs.length ≤ n := by
 rcases Nat.lt_or_ge n xs.length with hlt | hge
 ·exfalso
  obtain ⟨i, j, hij, hj, he⟩ := pigeon n (fun i => (xs.getD i 0).toNat) (fun i hi => by
   have hi2 : i < xs.length := by omega
   have hm : xs.getD i 0 ∈ xs := by
    rw [List.getD_eq_getElem?_getD, List.getElem?_eq_getElem hi2]
    exact List.getElem_mem hi2
   have := hb _ hm
   show (xs.getD i 0).toNat < n
   omega)
  have hi2 : i < xs.length := by omega
  have hj2 : j < xs.length := by omega
  have e1 : xs.getD i 0 = xs[i] := by rw [List.getD_eq_getElem?_getD, List.getElem?_eq_getElem hi2]; rfl
  have e2 : xs.getD j 0 = xs[j] := by rw [List.getD_eq_getElem?_getD, List.getElem?_eq_getElem hj2]; rfl
  have b1 := hb _ (List.getElem_mem hi2)
  have b2 := hb _ (List.getElem_mem hj2)
  simp only [e1, e2] at he
  have : xs[i] = xs[j] := by omega
  have hp := List.pairwise_iff_getElem.1 h i j hi2 hj2 hij
  exact hp this
 ·exact hge
theorem Memo.len {P : Nat → Int → Prop} {M : List (Int × Int)} (h : Memo P M) : M.length < 1000000000000 := by
 have h1 := nodup_leN 999999999999 ((M.map (·.1)).map (· - 2)) (by
  rw [List.Nodup, List.pairwise_map]
  exact h.1.imp (fun h1 h2 => h1 (by omega))) (by
  intro x hx
  obtain ⟨y, hy, rfl⟩ := List.mem_map.1 hx
  obtain ⟨p, hp, rfl⟩ := List.mem_map.1 hy
  obtain ⟨n, e1, e2, e3, _⟩ := h.2 p hp
  omega)
 simp only [List.length_map] at h1
 omega
theorem Memo.cons {P : Nat → Int → Prop} {M : List (Int × Int)} {n : Nat} {v : Int} (h : Memo P M) (hn : ∀ p ∈ M, p.1 ≠ n) (h2 : 2 ≤ n) (h3 : n ≤ 1000000000000) (hv : P n v) : Memo P (((n : Int), v) :: M) := by
 refine ⟨?_, fun p hp => ?_⟩
 ·rw [List.map_cons, List.nodup_cons]
  refine ⟨fun hm => ?_, h.1⟩
  obtain ⟨p, hp, e⟩ := List.mem_map.1 hm
  exact hn p hp e
 ·rcases List.mem_cons.1 hp with rfl | hp
  ·exact ⟨n, rfl, h2, h3, hv⟩
  ·exact h.2 p hp
theorem Memo.get {P : Nat → Int → Prop} {M : List (Int × Int)} {n : Nat} {v : Int} (h : Memo P M) (hm : ((n : Int), v) ∈ M) : P n v := by
 obtain ⟨m, e, _, _, hp⟩ := h.2 _ hm
 have : n = m := by
  have e2 : (n : Int) = m := e
  omega
 subst this
 exact hp

theorem impl_fewest_lk_some {M : List (Int × Int)} {y v : Int} (h : impl_fewest.lk M y = some v) : (y, v) ∈ M := by
 induction M with
 | nil => simp [impl_fewest.lk] at h
 | cons p M ih =>
  simp only [impl_fewest.lk] at h
  by_cases q : p.1 = y
  ·rw [if_pos q] at h
   have e := Option.some.inj h
   have : p = (y, v) := by rw [← q, ← e]
   rw [this]
   exact List.mem_cons_self
  ·rw [if_neg q] at h
   exact List.mem_cons_of_mem _ (ih h)
theorem impl_fewest_lk_none {M : List (Int × Int)} {y : Int} (h : impl_fewest.lk M y = none) : ∀ p ∈ M, p.1 ≠ y := by
 induction M with
 | nil => simp
 | cons p M ih =>
  simp only [impl_fewest.lk] at h
  by_cases q : p.1 = y
  ·rw [if_pos q] at h; simp at h
  ·rw [if_neg q] at h
   intro r hr
   rcases List.mem_cons.1 hr with rfl | hr
   ·exact q
   ·exact ih h r hr

theorem few_in (b n : Nat) (hb2 : b ≤ 16) (h2n : 2 ≤ n) (hn : n ≤ 1000000000000)
  (ih : ∀ m, m < n → 1 ≤ m → ∀ M, Memo (IsF b) M → ∃ v M', IsF b m v ∧ Memo (IsF b) M' ∧ (∀ p ∈ M', p ∈ M ∨ p.1 ≤ (m : Int)) ∧ Ev (fun k => impl_fewest.g (b : Int) k false (m : Int) 0 0 M) (v, M')) (D : Nat) :
  ∀ (d : Nat) (out : Int) (M : List (Int × Int)), b ≤ d + D → 2 ≤ d → d ≤ b ∨ d = 2 → IsFd b n (min d (max b 2)) out → Memo (IsF b) M → (∀ p ∈ M, p.1 ≠ (n : Int)) →
  ∃ v M', IsF b n v ∧ Memo (IsF b) M' ∧ (∀ p ∈ M', p ∈ M ∨ p.1 ≤ (n : Int)) ∧ Ev (fun k => impl_fewest.g (b : Int) k true (n : Int) (d : Int) out M) (v, M') := by
 have fin : ∀ (d : Nat) (out : Int) (M : List (Int × Int)), b ≤ d → IsFd b n b out → Memo (IsF b) M → (∀ p ∈ M, p.1 ≠ (n : Int)) →
   ∃ v M', IsF b n v ∧ Memo (IsF b) M' ∧ (∀ p ∈ M', p ∈ M ∨ p.1 ≤ (n : Int)) ∧ Ev (fun k => impl_fewest.g (b : Int) k true (n : Int) (d : Int) out M) (v, M') := by
  intro d out M hd hF hM hno
  have hf := hF.done h2n
  have hs := hf.small hn
  have hl := hM.len
  refine ⟨out, ((n : Int), out) :: M, hf, hM.cons hno h2n hn hf, fun p hp => ?_, evs (fun k => by rw [impl_fewest.g]) ?_⟩
  ·rcases List.mem_cons.1 hp with rfl | hp
   ·exact Or.inr (Int.le_refl _)
   ·exact Or.inl hp
  ·exact evn (by omega) (evp ⟨by omega, by omega⟩ (evp hl (Ev.now _)))
 induction D with
 | zero =>
  intro d out M hD hd hdb hF hM hno
  refine fin d out M (by omega) ?_ hM hno
  rcases Nat.lt_or_ge b 2 with h | h
  ·rw [show min d (max b 2) = 2 by omega] at hF
   rcases hF with ⟨h1, h2⟩ | ⟨k, h1, ⟨e, e1, e2, _⟩, h3⟩
   ·exact Or.inl ⟨h1, fun d a1 a2 => by omega⟩
   ·omega
  ·rw [show min d (max b 2) = b by omega] at hF
   exact hF
 | succ D ihD =>
  intro d out M hD hd hdb hF hM hno
  by_cases hlt : d < b
  ·rw [show min d (max b 2) = d by omega] at hF
   have e : wrap64 ((d : Int) + 1) = ((d + 1 : Nat) : Int) := w64 (by omega) (by omega)
   by_cases hdn : n % d = 0
   ·have hdv : d ∣ n := Nat.dvd_of_mod_eq_zero hdn
    have hlt2 : n / d < n := Nat.div_lt_self (by omega) (by omega)
    have hpos : 1 ≤ n / d := Nat.div_pos (Nat.le_of_dvd (by omega) hdv) (by omega)
    obtain ⟨u, M1, hu, hM1, hk1, hev⟩ := ih (n / d) hlt2 hpos M hM
    have hus := hu.small (by omega)
    have hnx := hF.next hd hdv hu
    have hno1 : ∀ p ∈ M1, p.1 ≠ (n : Int) := by
     intro p hp
     rcases hk1 p hp with h | h
     ·exact hno p h
     ·omega
    obtain ⟨v, M2, hv, hM2, hk2, hev2⟩ := ihD (d + 1) _ M1 (by omega) (by omega) (Or.inl (by omega)) (by rw [show min (d + 1) (max b 2) = d + 1 by omega]; exact hnx) hM1 hno1
    refine ⟨v, M2, hv, hM2, fun p hp => ?_, evs (fun k => by rw [impl_fewest.g]) ?_⟩
    ·rcases hk2 p hp with h | h
     ·rcases hk1 p h with h | h
      ·exact Or.inl h
      ·exact Or.inr (by omega)
     ·exact Or.inr h
    ·rw [tmod_cast, tdiv_cast, w64n (n / d) (by omega), e]
     refine evp (by omega) (evn (by omega) (evp (by omega) (evb hev ?_)))
     have ew : wrap64 (u + 1) = u + 1 := w64 (by omega) (by omega)
     simp only [ew]
     exact hev2
   ·obtain ⟨v, M2, hv, hM2, hk2, hev2⟩ := ihD (d + 1) out M (by omega) (by omega) (Or.inl (by omega)) (by rw [show min (d + 1) (max b 2) = d + 1 by omega]; exact hF.skip (fun h => hdn (Nat.mod_eq_zero_of_dvd h))) hM hno
    refine ⟨v, M2, hv, hM2, hk2, evs (fun k => by rw [impl_fewest.g]) ?_⟩
    rw [tmod_cast, e]
    exact evp (by omega) (evn (by omega) (evn (by omega) hev2))
  ·exact ihD d out M (by omega) hd hdb hF hM hno
theorem few_ev (b : Nat) (hb2 : b ≤ 16) (n : Nat) : 1 ≤ n → n ≤ 1000000000000 → ∀ M, Memo (IsF b) M → ∃ v M', IsF b n v ∧ Memo (IsF b) M' ∧ (∀ p ∈ M', p ∈ M ∨ p.1 ≤ (n : Int)) ∧ Ev (fun k => impl_fewest.g (b : Int) k false (n : Int) 0 0 M) (v, M') := by
 induction n using Nat.strongRecOn with
 | _ n ih =>
  intro h1 hn M hM
  by_cases h : n = 1
  ·subst h
   refine ⟨0, M, IsF.one b, hM, fun p hp => Or.inl hp, evs (fun k => by rw [impl_fewest.g]) ?_⟩
   exact evp (by omega) (Ev.now _)
  ·cases hlk : impl_fewest.lk M (n : Int) with
   | some v =>
    refine ⟨v, M, hM.get (impl_fewest_lk_some hlk), hM, fun p hp => Or.inl hp, evs (fun k => by rw [impl_fewest.g, hlk]) ?_⟩
    exact evn (by omega) (evp ⟨by omega, by omega⟩ (Ev.now _))
   | none =>
    obtain ⟨v, M', a1, a2, a3, a4⟩ := few_in b n hb2 (by omega) hn (fun m hm hm1 => ih m hm hm1 (by omega)) b 2 (-1) M (by omega) (by omega) (Or.inr rfl) (by rw [show min 2 (max b 2) = 2 by omega]; exact IsFd.start b n) hM (impl_fewest_lk_none hlk)
    refine ⟨v, M', a1, a2, a3, evs (fun k => by rw [impl_fewest.g, hlk]) ?_⟩
    exact evn (by omega) (evp ⟨by omega, by omega⟩ a4)
theorem l2_ev (b n k : Nat) (hb2 : b ≤ 16) (h1 : 1 ≤ n) (hn : n ≤ 1000000000000) (hf : IsF b n ((k + 1 : Nat) : Int)) (D : Nat) : ∀ (d : Nat) (M : List (Int × Int)), b ≤ d + D → 2 ≤ d → Memo (IsF b) M → (∀ e, 2 ≤ e → e < d → e ∣ n → ¬ IsF b (n / e) (k : Int)) →
  ∃ e M', d ≤ e ∧ e < b ∧ e ∣ n ∧ IsF b (n / e) (k : Int) ∧ (∀ c, 2 ≤ c → c < e → c ∣ n → ¬ IsF b (n / c) (k : Int)) ∧ Memo (IsF b) M' ∧ Ev (fun i => impl_LeastWithProduct.l2 (b : Int) i (n : Int) (d : Int) ((k + 1 : Nat) : Int) M) ((e : Int), M') := by
 have hk40 := hf.small hn
 have hex : ∃ e, 2 ≤ e ∧ e < b ∧ e ∣ n ∧ IsF b (n / e) (k : Int) := by
  rcases hf with ⟨f1, _⟩ | ⟨m, f1, f2, f3⟩
  ·omega
  ·have hm : m = k + 1 := by omega
   subst hm
   obtain ⟨e, e1, e2, e3, e4⟩ := f2.uncons
   exact ⟨e, e1, e2, e3, Or.inr ⟨k, rfl, e4, fun j hj hh => f3 (j + 1) (by omega) (hh.of_div e1 e2 e3)⟩⟩
 obtain ⟨x, x1, x2, x3, x4⟩ := hex
 induction D with
 | zero =>
  intro d M hD hd hM hno
  exact absurd x4 (hno x x1 (by omega) x3)
 | succ D ih =>
  intro d M hD hd hM hno
  have hdx : d ≤ x := by
   rcases Nat.lt_or_ge x d with h | h
   ·exact absurd x4 (hno x x1 h x3)
   ·exact h
  have e : wrap64 ((d : Int) + 1) = ((d + 1 : Nat) : Int) := w64 (by omega) (by omega)
  by_cases hdn : n % d = 0
  ·have hdv : d ∣ n := Nat.dvd_of_mod_eq_zero hdn
   have hpos : 1 ≤ n / d := Nat.div_pos (Nat.le_of_dvd (by omega) hdv) (by omega)
   have hle : n / d ≤ n := Nat.div_le_self n d
   obtain ⟨u, M1, hu, hM1, _, hev⟩ := few_ev b hb2 (n / d) hpos (by omega) M hM
   have el : wrap64 (((k + 1 : Nat) : Int) - 1) = (k : Int) := by rw [w64 (by omega) (by omega)]; omega
   by_cases huk : u = (k : Int)
   ·subst huk
    refine ⟨d, M1, Nat.le_refl _, by omega, hdv, hu, hno, hM1, evs (fun i => by rw [impl_LeastWithProduct.l2]) ?_⟩
    rw [tmod_cast, tdiv_cast, w64n (n / d) (by omega), el]
    exact evn (by omega) (evp (by omega) (evb hev (evp rfl (Ev.now _))))
   ·obtain ⟨y, M2, y1, y2, y3, y4, y5, y6, y7⟩ := ih (d + 1) M1 (by omega) (by omega) hM1 (fun c c1 c2 c3 c4 => by
     rcases Nat.lt_or_ge c d with h | h
     ·exact hno c c1 h c3 c4
     ·have : c = d := by omega
      subst this
      exact huk (hu.uniq c4))
    refine ⟨y, M2, by omega, y2, y3, y4, y5, y6, evs (fun i => by rw [impl_LeastWithProduct.l2]) ?_⟩
    rw [tmod_cast, tdiv_cast, w64n (n / d) (by omega), el, e]
    exact evn (by omega) (evp (by omega) (evb hev (evn huk y7)))
  ·obtain ⟨y, M2, y1, y2, y3, y4, y5, y6, y7⟩ := ih (d + 1) M (by omega) (by omega) hM (fun c c1 c2 c3 c4 => by
     rcases Nat.lt_or_ge c d with h | h
     ·exact hno c c1 h c3 c4
     ·have : c = d := by omega
      subst this
      exact hdn (Nat.mod_eq_zero_of_dvd c3))
   refine ⟨y, M2, by omega, y2, y3, y4, y5, y6, evs (fun i => by rw [impl_LeastWithProduct.l2]) ?_⟩
   rw [tmod_cast, e]
   exact evn (by omega) (evn (by omega) y7)
theorem l1_ev (b : Nat) (hb : 2 ≤ b) (hb2 : b ≤ 16) (k : Nat) : ∀ (n : Nat) (ds : List Nat) (M : List (Int × Int)), 1 ≤ n → n ≤ 1000000000000 → IsF b n (k : Int) → Memo (IsF b) M → (∀ d ∈ ds, d < b) → ds.length + k ≤ 1000 → k ≤ 40 →
  ∃ l, Gr b n k l ∧ Ev (fun i => impl_LeastWithProduct.l1 (b : Int) i (n : Int) (ic ds) (k : Int) M) (told (val b 0 (ds ++ l))) := by
 induction k with
 | zero =>
  intro n ds M h1 hn hf hM hds hlen _
  have hn1 : n = 1 := by
   rcases hf with ⟨f1, _⟩ | ⟨m, f1, f2, _⟩
   ·omega
   ·have : m = 0 := by omega
    subst this
    exact f2.zero
  subst hn1
  refine ⟨[], Gr.nil, evs (fun i => by rw [impl_LeastWithProduct.l1]) (evn (by simp) ?_)⟩
  rw [List.append_nil]
  refine evb (impl_value_ev b hb hb2 ds hds (by omega)) ?_
  simp only [impl_told_value]
  exact Ev.now _
 | succ k ih =>
  intro n ds M h1 hn hf hM hds hlen hk
  obtain ⟨d, M1, d1, d2, d3, d4, d5, hM1, hev⟩ := l2_ev b n k hb2 h1 hn hf b 2 M (by omega) (by omega) hM (fun e e1 e2 => by omega)
  have hpos : 1 ≤ n / d := Nat.div_pos (Nat.le_of_dvd (by omega) d3) (by omega)
  have hle : n / d ≤ n := Nat.div_le_self n d
  obtain ⟨l, hl, hev2⟩ := ih (n / d) (ds ++ [d]) M1 hpos (by omega) d4 hM1 (fun x hx => by
   rcases List.mem_append.1 hx with h | h
   ·exact hds x h
   ·rw [List.mem_singleton.1 h]; exact d2) (by simp; omega) (by omega)
  refine ⟨d :: l, Gr.cons d1 d2 d3 d4 d5 hl, evs (fun i => by rw [impl_LeastWithProduct.l1]) ?_⟩
  refine evp (by omega) (evb hev (evp (by rw [ic_length]; omega) (evn (by simp only; omega) ?_)))
  have el : wrap64 (((k + 1 : Nat) : Int) - 1) = (k : Int) := by rw [w64 (by omega) (by omega)]; omega
  simp only [tdiv_cast, w64n (n / d) (show n / d ≤ 9223372036854775807 by omega), el]
  rw [ic_snoc]
  rw [List.append_assoc] at hev2
  exact hev2

def firstOf (F : Nat → List Nat) : Nat → Nat → List Nat
 | 0, _ => []
 | D + 1, d => if F d = [] then firstOf F D (d + 1) else d :: F d
def spell (b : Nat) : Nat → Nat → Nat → List Nat
 | 0, _, _ => []
 | left + 1, p, f => match left with
  | 0 => if f ≤ p ∧ p < b then [p] else []
  | l + 1 => firstOf (fun d => if p % d = 0 then spell b (l + 1) (p / d) d else []) (b - f) f
theorem spell_one (b p f : Nat) : spell b 1 p f = if f ≤ p ∧ p < b then [p] else [] := rfl
theorem spell_two (b l p f : Nat) : spell b (l + 2) p f = firstOf (fun d => if p % d = 0 then spell b (l + 1) (p / d) d else []) (b - f) f := rfl
theorem firstOf_spec (F : Nat → List Nat) (D : Nat) : ∀ d, firstOf F D d ≠ [] → ∃ e, d ≤ e ∧ e < d + D ∧ F e ≠ [] ∧ firstOf F D d = e :: F e := by
 induction D with
 | zero => intro d h; simp [firstOf] at h
 | succ D ih =>
  intro d h
  simp only [firstOf] at h ⊢
  by_cases q : F d = []
  ·rw [if_pos q] at h ⊢
   obtain ⟨e, e1, e2, e3, e4⟩ := ih (d + 1) h
   exact ⟨e, by omega, by omega, e3, e4⟩
  ·rw [if_neg q]
   exact ⟨d, Nat.le_refl _, by omega, q, rfl⟩
theorem firstOf_at (F : Nat → List Nat) (D : Nat) : ∀ d e, d ≤ e → e < d + D → (∀ x, d ≤ x → x < e → F x = []) → F e ≠ [] → firstOf F D d = e :: F e := by
 induction D with
 | zero => intro d e h1 h2; omega
 | succ D ih =>
  intro d e h1 h2 h3 h4
  simp only [firstOf]
  by_cases q : d = e
  ·subst q
   rw [if_neg h4]
  ·rw [if_pos (h3 d (Nat.le_refl _) (by omega))]
   exact ih (d + 1) e (by omega) (by omega) (fun x a c => h3 x (by omega) c) h4
theorem firstOf_none (F : Nat → List Nat) (D : Nat) : ∀ d, (∀ x, d ≤ x → x < d + D → F x = []) → firstOf F D d = [] := by
 induction D with
 | zero => intro d _; rfl
 | succ D ih =>
  intro d h
  simp only [firstOf]
  rw [if_pos (h d (Nat.le_refl _) (by omega))]
  exact ih (d + 1) (fun x a c => h x (by omega) (by omega))
theorem spell_ok (b : Nat) (l : Nat) : ∀ p f, 1 ≤ f → spell b (l + 1) p f ≠ [] → (∀ x ∈ spell b (l + 1) p f, f ≤ x ∧ x < b) ∧ (spell b (l + 1) p f).length = l + 1 ∧ lmul (spell b (l + 1) p f) = p := by
 induction l with
 | zero =>
  intro p f _ h
  rw [spell_one] at h ⊢
  by_cases q : f ≤ p ∧ p < b
  ·rw [if_pos q]
   exact ⟨fun x hx => by rw [List.mem_singleton.1 hx]; exact q, rfl, by simp [lmul]⟩
  ·rw [if_neg q] at h; exact absurd rfl h
 | succ l ih =>
  intro p f hf h
  rw [spell_two] at h ⊢
  obtain ⟨e, e1, e2, e3, e4⟩ := firstOf_spec _ _ _ h
  rw [e4]
  by_cases q : p % e = 0
  ·rw [if_pos q] at e3 ⊢
   obtain ⟨i1, i2, i3⟩ := ih (p / e) e (by omega) e3
   refine ⟨fun x hx => ?_, by simp [i2], ?_⟩
   ·rcases List.mem_cons.1 hx with rfl | hx
    ·omega
    ·have := i1 x hx
     omega
   ·simp only [lmul, i3]
    exact Nat.mul_div_cancel' (Nat.dvd_of_mod_eq_zero q)
  ·rw [if_neg q] at e3
   exact absurd rfl e3
theorem spell_has {b l p f : Nat} (hf : 2 ≤ f) (h : spell b (l + 1) p f ≠ []) : HasLen b p (l + 1) := by
 obtain ⟨h1, h2, h3⟩ := spell_ok b l p f (by omega) h
 exact ⟨_, fun d hd => by have := h1 d hd; omega, h2, h3⟩
theorem lmul_ge (f : Nat) (l : List Nat) (h : ∀ x ∈ l, f ≤ x) : f ^ l.length ≤ lmul l := by
 induction l with
 | nil => simp [lmul]
 | cons d l ih =>
  have h1 := ih (fun x hx => h x (by simp [hx]))
  have h2 := h d (by simp)
  simp only [lmul, List.length_cons]
  rw [Nat.pow_succ, Nat.mul_comm]
  exact Nat.mul_le_mul h2 h1
theorem lmul_top (f : Nat) (l : List Nat) (h : ∀ x ∈ l, x ≤ f) : lmul l ≤ f ^ l.length := by
 induction l with
 | nil => simp [lmul]
 | cons d l ih =>
  have h1 := ih (fun x hx => h x (by simp [hx]))
  have h2 := h d (by simp)
  simp only [lmul, List.length_cons]
  rw [Nat.pow_succ, Nat.mul_comm (f ^ l.length)]
  exact Nat.mul_le_mul h2 h1
theorem spell_low {b l p f : Nat} (hf : 1 ≤ f) (h : spell b (l + 1) p f ≠ []) : f ^ (l + 1) ≤ p ∧ p ≤ (b - 1) ^ (l + 1) := by
 obtain ⟨h1, h2, h3⟩ := spell_ok b l p f hf h
 have a := lmul_ge f _ (fun x hx => (h1 x hx).1)
 have c := lmul_top (b - 1) (spell b (l + 1) p f) (fun x hx => by have := (h1 x hx).2; omega)
 rw [h2, h3] at a c
 exact ⟨a, c⟩
theorem spell_gr (b l : Nat) : ∀ (p f : Nat) (g : List Nat), 2 ≤ f → Gr b p (l + 1) g → IsF b p ((l + 1 : Nat) : Int) → (∀ e, 2 ≤ e → e < f → e ∣ p → ¬ HasLen b (p / e) l) → spell b (l + 1) p f = g := by
 induction l with
 | zero =>
  intro p f g hf hg hF hno
  cases hg with
  | cons h1 h2 h3 h4 h5 h6 =>
   rename_i d t
   have ht : t = [] := List.eq_nil_of_length_eq_zero h6.len
   have h7 := h6.mul
   rw [ht] at h7
   simp only [lmul] at h7
   have h8 := Nat.mul_div_cancel' h3
   rw [← h7, Nat.mul_one] at h8
   subst h8
   rw [spell_one, ht, if_pos]
   refine ⟨?_, h2⟩
   rcases Nat.lt_or_ge d f with h | h
   ·exfalso
    refine hno d h1 h (Nat.dvd_refl d) ?_
    rw [Nat.div_self (by omega)]
    exact HasLen.one b
   ·exact h
 | succ l ih =>
  intro p f g hf hg hF hno
  have htl := fun (d : Nat) (t : List Nat) (h : Gr b p (l + 1 + 1) (d :: t)) => h.tail_ge hF
  cases hg with
  | cons h1 h2 h3 h4 h5 h6 =>
   rename_i d t
   have hge := htl d t (Gr.cons h1 h2 h3 h4 h5 h6)
   have hlen : HasLen b (p / d) (l + 1) := ⟨t, h6.digs, h6.len, h6.mul⟩
   have hfd : f ≤ d := by
    rcases Nat.lt_or_ge d f with h | h
    ·exact absurd hlen (hno d h1 h h3)
    ·exact h
   have hrec := ih (p / d) d t h1 h6 h4 (fun e e1 e2 e3 => hge e e1 e2 e3 l (by omega))
   have hmod : p % d = 0 := Nat.mod_eq_zero_of_dvd h3
   have ht : t ≠ [] := fun e => by have := h6.len; rw [e] at this; simp at this
   rw [spell_two]
   rw [firstOf_at _ (b - f) f d hfd (by omega) ?_ (by rw [if_pos hmod, hrec]; exact ht)]
   ·rw [if_pos hmod, hrec]
   ·intro x x1 x2
    by_cases q : p % x = 0
    ·rw [if_pos q]
     by_cases hs : spell b (l + 1) (p / x) x = []
     ·exact hs
     ·exfalso
      have hx := spell_has (by omega) hs
      have hxd : x ∣ p := Nat.dvd_of_mod_eq_zero q
      rcases hF with ⟨f1, _⟩ | ⟨m, f1, f2, f3⟩
      ·omega
      ·have hm : m = l + 1 + 1 := by omega
       subst hm
       exact h5 x (by omega) x2 hxd (Or.inr ⟨l + 1, rfl, hx, fun j hj hh => f3 (j + 1) (by omega) (hh.of_div (by omega) (by omega) hxd)⟩)
    ·rw [if_neg q]
theorem spell_short {b l p : Nat} {k : Nat} (hF : IsF b p (k : Int)) (h : l + 1 < k) : spell b (l + 1) p 2 = [] := by
 by_cases hs : spell b (l + 1) p 2 = []
 ·exact hs
 ·exfalso
  have hx := spell_has (by omega) hs
  rcases hF with ⟨f1, _⟩ | ⟨m, f1, f2, f3⟩
  ·omega
  ·have hm : m = k := by omega
   subst hm
   exact f3 _ h hx

theorem ws (d : Nat) (h : d ≤ 1000000000000000) : wrap64 ((d : Int) + 1) = ((d + 1 : Nat) : Int) := w64 (by omega) (by omega)
theorem wm (l : Nat) (h : l ≤ 1000000000000000) : wrap64 (((l + 1 : Nat) : Int) - 1) = (l : Int) := by rw [w64 (by omega) (by omega)]; omega
theorem wb (b : Nat) (h : 1 ≤ b) (h2 : b ≤ 1000000000000) : wrap64 ((b : Int) - 1) = ((b - 1 : Nat) : Int) := by rw [w64 (by omega) (by omega)]; omega
def lim (v : Nat) : Nat := if v ≤ 1000000000000000000 then v else 1000000000000000000
theorem lim_loop (x : Nat) (hx : 1 ≤ x) (hx2 : x ≤ 16) (p : Nat) : ∀ out : Nat, out ≤ 1000000000000000000 → p ≤ 100 → Ev (fun k => spec_pwLimited.l0 k (x : Int) (p : Int) (out : Int)) ((lim (out * x ^ p) : Nat) : Int) := by
 induction p with
 | zero =>
  intro out ho hp
  refine evs (fun k => by rw [spec_pwLimited.l0]) (evn (by omega) (evr ?_))
  unfold lim
  rw [Nat.pow_zero, Nat.mul_one, if_pos ho]
 | succ p ih =>
  intro out ho hp
  have ediv : (1000000000000000000 : Int) / (x : Int) = ((1000000000000000000 / x : Nat) : Int) := by
   rw [Int.natCast_ediv]; rfl
  have hd1 : 1000000000000000000 / x ≤ 1000000000000000000 := Nat.div_le_self _ _
  have ew : wrap64 ((1000000000000000000 : Int) / (x : Int)) = ((1000000000000000000 / x : Nat) : Int) := by rw [ediv]; exact w64n _ (by omega)
  have ep : wrap64 (((p + 1 : Nat) : Int) - 1) = (p : Int) := by rw [w64 (by omega) (by omega)]; omega
  refine evs (fun k => by rw [spec_pwLimited.l0]) ?_
  rw [ew, ep]
  refine evp (by omega) (evn (by omega) ?_)
  by_cases h : 1000000000000000000 / x < out
  ·refine evp (by omega) (evr ?_)
   have h1 : 1000000000000000000 < out * x := by
    have := Nat.div_lt_iff_lt_mul (show 0 < x by omega) |>.1 h
    exact this
   have h2 : out * x * 1 ≤ out * x * x ^ p := Nat.mul_le_mul_left _ (Nat.pow_pos (by omega))
   unfold lim
   rw [if_neg]
   ·rfl
   ·rw [Nat.pow_succ, Nat.mul_comm (x ^ p) x, ← Nat.mul_assoc]
    omega
  ·have h1 : out * x ≤ 1000000000000000000 := by
    have := (Nat.le_div_iff_mul_le (show 0 < x by omega)).1 (Nat.le_of_not_lt h)
    exact this
   refine evn (by omega) ?_
   have e1 : (out : Int) * (x : Int) = ((out * x : Nat) : Int) := (Int.natCast_mul _ _).symm
   rw [e1, w64n (out * x) (by omega)]
   have := ih (out * x) h1 (by omega)
   rw [show out * x ^ (p + 1) = out * x * x ^ p by rw [Nat.pow_succ, Nat.mul_comm (x ^ p) x, Nat.mul_assoc]]
   exact this
theorem lim_ev (x p : Nat) (hx : 1 ≤ x) (hx2 : x ≤ 16) (hp : p ≤ 100) : Ev (fun k => spec_pwLimited.f k (x : Int) (p : Int)) ((lim (x ^ p) : Nat) : Int) := by
 have := lim_loop x hx hx2 p 1 (by omega) hp
 rw [Nat.one_mul] at this
 exact this
theorem lim_gt {v r : Nat} (hr : r ≤ 1000000000000) (h : lim v < r) : v < r := by
 unfold lim at h
 split at h <;> omega
theorem lim_le {v r : Nat} (hr : r ≤ 1000000000000) (h : r < lim v) : r < v := by
 unfold lim at h
 split at h <;> omega
theorem spell_ev (b : Nat) (hb : 2 ≤ b) (hb2 : b ≤ 16) (l : Nat) : ∀ p f : Nat, 1 ≤ p → p ≤ 1000000000000 → 2 ≤ f → f ≤ 16 → l ≤ 39 → Ev (fun k => spec_prSpell.f k (p : Int) (f : Int) ((l + 1 : Nat) : Int) (b : Int)) (ic (spell b (l + 1) p f)) := by
 induction l with
 | zero =>
  intro p f hp hp2 hf hf2 _
  refine evs (fun k => by rw [spec_prSpell.f]) ?_
  rw [spec_l1In_eq, w64o (x := (b : Int) - 1), spell_one]
  refine evp (by omega) ?_
  simp only [Option.bind_some]
  by_cases q : f ≤ p ∧ p < b
  ·rw [if_pos q]
   exact evp (decide_eq_true (by omega)) (Ev.now _)
  ·rw [if_neg q]
   exact evn (by rw [decide_eq_false (by omega)]; simp) (Ev.now _)
 | succ l ih =>
  intro p f hp hp2 hf hf2 hl
  refine evs (fun k => by rw [spec_prSpell.f]) (evn (by omega) ?_)
  rw [spell_two]
  obtain ⟨F, hF⟩ : ∃ F : Nat → List Nat, F = fun d => if p % d = 0 then spell b (l + 1) (p / d) d else [] := ⟨_, rfl⟩
  rw [← hF]
  have hF1 : ∀ d, p % d = 0 → F d = spell b (l + 1) (p / d) d := fun d h => by rw [hF]; exact if_pos h
  have hF0 : ∀ d, ¬ p % d = 0 → F d = [] := fun d h => by rw [hF]; exact if_neg h
  clear hF
  have loop : ∀ D d : Nat, D = b - d → 2 ≤ d → d ≤ 17 → Ev (fun k => spec_prSpell.l0 k (p : Int) ((l + 1 + 1 : Nat) : Int) (b : Int) (d : Int)) (ic (firstOf F D d)) := by
   intro D
   induction D with
   | zero =>
    intro d hD hd hd2
    refine evs (fun k => by rw [spec_prSpell.l0]) ?_
    exact evn (by omega) (evr rfl)
   | succ D ihD =>
    intro d hD hd hd2
    have hnext := ihD (d + 1) (by omega) (by omega) (by omega)
    have skip : F d = [] → Ev (fun k => spec_prSpell.l0 k (p : Int) ((l + 1 + 1 : Nat) : Int) (b : Int) (wrap64 ((d : Int) + 1))) (ic (firstOf F (D + 1) d)) := by
     intro h
     rw [ws d (by omega), show firstOf F (D + 1) d = firstOf F D (d + 1) from if_pos h]
     exact hnext
    have hqle : p / d ≤ p := Nat.div_le_self p d
    refine evs (fun k => by rw [spec_prSpell.l0]) (evp (by omega) (evn (by omega) ?_))
    rw [tmod_cast, tdiv_cast, w64n (p / d) (by omega), wb b (by omega) (by omega), wm (l + 1) (by omega)]
    by_cases hmod : p % d = 0
    ·have hpos : 1 ≤ p / d := Nat.div_pos (Nat.le_of_dvd (by omega) (Nat.dvd_of_mod_eq_zero hmod)) (by omega)
     refine evp (by omega) (evb (lim_ev (b - 1) (l + 1) (by omega) (by omega) (by omega)) (evs (fun k => by rw [spec_prSpell.j1]) ?_))
     by_cases hbig : lim ((b - 1) ^ (l + 1)) < p / d
     ·refine evp (decide_eq_true (Int.ofNat_lt.2 hbig)) (skip ?_)
      rw [hF1 d hmod]
      by_cases hs : spell b (l + 1) (p / d) d = []
      ·exact hs
      ·have h1 := (spell_low (by omega) hs).2
       have h2 := lim_gt (by omega) hbig
       exact absurd h2 (Nat.not_lt.2 h1)
     ·refine evn (by rw [decide_eq_false (Int.not_lt.2 (Int.ofNat_le.2 (Nat.le_of_not_lt hbig)))]; simp) ?_
      clear hbig
      rw [wm (l + 1) (by omega)]
      refine evb (lim_ev d (l + 1) (by omega) (by omega) (by omega)) ?_
      by_cases hsm : p / d < lim (d ^ (l + 1))
      ·have h2 := lim_le (by omega) hsm
       refine evp (Int.ofNat_lt.2 hsm) (evr ?_)
       clear hsm
       rw [firstOf_none]
       ·rfl
       ·intro x x1 x2
        by_cases hx : p % x = 0
        ·rw [hF1 x hx]
         by_cases hs : spell b (l + 1) (p / x) x = []
         ·exact hs
         ·have h3 := (spell_low (by omega) hs).1
          have h4 : d ^ (l + 1) ≤ x ^ (l + 1) := Nat.pow_le_pow_left x1 _
          have h5 : p / x ≤ p / d := Nat.div_le_div_left x1 (by omega)
          exact absurd (Nat.lt_of_lt_of_le h2 (Nat.le_trans h4 (Nat.le_trans h3 h5))) (Nat.lt_irrefl _)
        ·exact hF0 x hx
      ·refine evn (Int.not_lt.2 (Int.ofNat_le.2 (Nat.le_of_not_lt hsm))) ?_
       clear hsm
       refine (evb (ih (p / d) d hpos (by omega) hd (by omega) (by omega)) ?_)
       by_cases hs : spell b (l + 1) (p / d) d = []
       ·refine evn (by rw [hs]; simp [ic]) (skip ?_)
        rw [hF1 d hmod, hs]
       ·have hok := spell_ok b l (p / d) d (by omega) hs
        refine evp (by rw [ic_length]; omega) ?_
        simp only [Option.bind_some]
        refine evp (by simp only [List.length_cons, List.length_nil, ic_length]; omega) (evr ?_)
        rw [show firstOf F (D + 1) d = d :: F d from if_neg (by rw [hF1 d hmod]; exact hs), hF1 d hmod]
        rfl
    ·refine evn (by omega) (evs (fun k => by rw [spec_prSpell.j1]) (evp rfl (skip (hF0 d hmod))))
  exact loop (b - f) f rfl hf (by omega)
theorem specLW_loop (b p : Nat) (hb : 2 ≤ b) (hb2 : b ≤ 16) (hp : 1 ≤ p) (hp2 : p ≤ 1000000000000) (k : Nat) (g : List Nat) (hg : Gr b p (k + 1) g) (hF : IsF b p ((k + 1 : Nat) : Int)) (D : Nat) :
  ∀ l : Nat, l + D = k → Ev (fun i => spec_LeastWithProduct.l0 i (p : Int) (b : Int) ((l + 1 : Nat) : Int)) (told (val b 0 g)) := by
 have hk := hF.small hp2
 induction D with
 | zero =>
  intro l hl
  have : l = k := by omega
  subst this
  have e := spell_gr b l p 2 g (by omega) hg hF (fun e e1 e2 => by omega)
  have hs := spell_ev b hb hb2 l p 2 hp hp2 (by omega) (by omega) (by omega)
  rw [e] at hs
  have hlen := hg.len
  refine evs (fun k => by rw [spec_LeastWithProduct.l0]) ?_
  refine evp (by omega) (evb hs (evp (by rw [ic_length]; omega) (evb (spec_dgFrom_ev b hb hb2 g (fun d hd => (hg.digs d hd).2) (by omega)) (Ev.now _))))
 | succ D ih =>
  intro l hl
  have e := spell_short (l := l) hF (by omega)
  have hs := spell_ev b hb hb2 l p 2 hp hp2 (by omega) (by omega) (by omega)
  rw [e] at hs
  have ew : wrap64 (((l + 1 : Nat) : Int) + 1) = ((l + 1 + 1 : Nat) : Int) := w64 (by omega) (by omega)
  refine evs (fun k => by rw [spec_LeastWithProduct.l0]) ?_
  rw [ew]
  exact evp (by omega) (evb hs (evn (by simp [ic]) (ih (l + 1) (by omega))))
theorem least_both (b p : Nat) (hb : 2 ≤ b) (hb2 : b ≤ 16) (hp : 1 ≤ p) (hp2 : p ≤ 1000000000000) : ∃ r : Int × Bool, Ev (fun k => impl_LeastWithProduct.f k (p : Int) (b : Int)) r ∧ Ev (fun k => spec_LeastWithProduct.f k (p : Int) (b : Int)) r ∧
  (r.2 = true → Smooth b p ∧ ∃ m : Nat, r.1 = m ∧ m ≤ 1000000000000 ∧ dmul b m = p) := by
 obtain ⟨s, hs1, hs2, hs3⟩ := smooth_ev b p hb2 hp hp2
 have i1 : impl_in.f (p : Int) 1 1000000000000 = some true := by rw [impl_in_eq, decide_eq_true (by omega)]
 have i2 : impl_isBase.f (b : Int) = some true := by rw [impl_isBase_eq, decide_eq_true (by omega)]
 have j1 := (isn_yes b p hb hb2 hp2).2
 have pre : ∀ r : Int × Bool, Ev (fun k => spec_LeastWithProduct.j0 k (p : Int) (b : Int) false) r → Ev (fun k => spec_LeastWithProduct.f k (p : Int) (b : Int)) r := by
  intro r h
  refine evc j1 (evp rfl ?_)
  rw [show ((p : Int) == 0) = false from beq_eq_false_iff_ne.2 (by omega)]
  exact h
 by_cases h1 : p = 1
 ·subst h1
  refine ⟨(1, true), evc i1 (evp rfl (evc i2 (evp rfl (evp (by omega) (Ev.now _))))), pre _ (evs (fun k => by rw [spec_LeastWithProduct.j0]) (evn (by simp) (evp (by omega) (Ev.now _)))), fun _ => ⟨⟨0, HasLen.one b⟩, 1, rfl, by omega, ?_⟩⟩
  have h2 : dgl b 1 = [1] := by
   have h3 := dgl_of_val hb [1] (by simp) (by intro d hd; rw [List.mem_singleton.1 hd]; omega) (by simp [val])
   simpa [val] using h3
  unfold dmul
  rw [h2]
  rfl
 ·cases s with
  | false =>
   refine ⟨(0, false), evc i1 (evp rfl (evc i2 (evp rfl (evn (by omega) (evb hs2 (evn (by simp) (Ev.now _))))))), pre _ (evs (fun k => by rw [spec_LeastWithProduct.j0]) (evn (by simp) (evn (by omega) (evb hs3 (evn Bool.false_ne_true (Ev.now _)))))), fun h => by simp at h⟩
  | true =>
   have hsm := hs1.1 rfl
   obtain ⟨v, M, hv, hM, _, hev⟩ := few_ev b hb2 p hp hp2 [] (Memo.nil _)
   obtain ⟨k, hk⟩ : ∃ k : Nat, v = ((k + 1 : Nat) : Int) := by
    rcases hv with ⟨_, f2⟩ | ⟨m, f1, f2, _⟩
    ·obtain ⟨j, hj⟩ := hsm
     exact absurd hj (f2 j)
    ·cases m with
     | zero => exact absurd f2.zero h1
     | succ m => exact ⟨m, f1⟩
   subst hk
   have hsmall := hv.small hp2
   obtain ⟨g, hg, hev2⟩ := l1_ev b hb hb2 (k + 1) p [] M hp hp2 hv hM (by simp) (by simp; omega) (by omega)
   rw [List.nil_append] at hev2
   refine ⟨told (val b 0 g), evc i1 (evp rfl (evc i2 (evp rfl (evn (by omega) (evb hs2 (evp rfl (evb hev hev2))))))), pre _ (evs (fun k => by rw [spec_LeastWithProduct.j0]) (evn (by simp) (evn (by omega) (evb hs3 (evp rfl ?_))))), fun h => ⟨hsm, val b 0 g, ?_⟩⟩
   ·have := specLW_loop b p hb hb2 hp hp2 k g hg hv k 0 (by omega)
    simpa using this
   ·unfold told at h ⊢
    by_cases q : val b 0 g ≤ 1000000000000
    ·rw [if_pos q]
     refine ⟨rfl, q, ?_⟩
     have hlen := hg.len
     unfold dmul
     rw [dgl_of_val hb g (by omega) (fun d hd => (hg.digs d hd).2) ?_, hg.mul]
     cases g with
     | nil => simp at hlen
     | cons d t =>
      rw [val_cons]
      have h3 := (hg.digs d (by simp)).1
      have h4 : 1 * b ^ t.length ≤ d * b ^ t.length := Nat.mul_le_mul_right _ (by omega)
      simp only [List.length_cons, Nat.add_sub_cancel]
      omega
    ·rw [if_neg q] at h
     simp at h

def sumTo (F : Nat → Nat) : Nat → Nat
 | 0 => 0
 | e + 1 => sumTo F e + (if 2 ≤ e then F e else 0)
theorem sumTo_le {F G : Nat → Nat} (e : Nat) (h : ∀ d, 2 ≤ d → d < e → F d ≤ G d) : sumTo F e ≤ sumTo G e := by
 induction e with
 | zero => exact Nat.le_refl _
 | succ e ih =>
  have h1 := ih (fun d a b => h d a (by omega))
  simp only [sumTo]
  by_cases q : 2 ≤ e
  ·rw [if_pos q, if_pos q]
   have := h e q (by omega)
   omega
  ·rw [if_neg q, if_neg q]
   omega
theorem sumTo_eq {F G : Nat → Nat} (e : Nat) (h : ∀ d, 2 ≤ d → d < e → F d = G d) : sumTo F e = sumTo G e :=
 Nat.le_antisymm (sumTo_le e (fun d a b => Nat.le_of_eq (h d a b))) (sumTo_le e (fun d a b => Nat.le_of_eq (h d a b).symm))
theorem sumTo_mono (F : Nat → Nat) {e f : Nat} (h : e ≤ f) : sumTo F e ≤ sumTo F f := by
 induction f with
 | zero => rw [show e = 0 by omega]; exact Nat.le_refl _
 | succ f ih =>
  by_cases q : e = f + 1
  ·subst q; exact Nat.le_refl _
  ·have := ih (by omega)
   simp only [sumTo]
   omega
theorem sumTo_term (F : Nat → Nat) {d e : Nat} (h1 : 2 ≤ d) (h2 : d < e) : F d ≤ sumTo F e := by
 have h := sumTo_mono F (show d + 1 ≤ e by omega)
 simp only [sumTo] at h
 rw [if_pos h1] at h
 omega
theorem sumTo_pos {F : Nat → Nat} {e : Nat} (h : 0 < sumTo F e) : ∃ d, 2 ≤ d ∧ d < e ∧ 0 < F d := by
 induction e with
 | zero => simp [sumTo] at h
 | succ e ih =>
  simp only [sumTo] at h
  by_cases q : 2 ≤ e ∧ 0 < F e
  ·exact ⟨e, q.1, by omega, q.2⟩
  ·have h3 : 0 < sumTo F e := by
    by_cases q2 : 2 ≤ e
    ·rw [if_pos q2] at h
     have : ¬ 0 < F e := fun h => q ⟨q2, h⟩
     omega
    ·rw [if_neg q2] at h
     omega
   obtain ⟨d, d1, d2, d3⟩ := ih h3
   exact ⟨d, d1, by omega, d3⟩
theorem sumTo_one {F G : Nat → Nat} {d e c : Nat} (h1 : 2 ≤ d) (h2 : d < e) (hd : G d = F d + c) (h : ∀ x, 2 ≤ x → x < e → x ≠ d → G x = F x) : sumTo G e = sumTo F e + c := by
 induction e with
 | zero => omega
 | succ e ih =>
  simp only [sumTo]
  by_cases q : d = e
  ·subst q
   rw [if_pos h1, if_pos h1, sumTo_eq d (fun x a b => h x a (by omega) (by omega)), hd]
   omega
  ·rw [ih (by omega) (fun x a b n => h x a (by omega) n)]
   by_cases q2 : 2 ≤ e
   ·rw [if_pos q2, if_pos q2, h e q2 (by omega) (by omega)]
    omega
   ·rw [if_neg q2, if_neg q2]
    omega
def cntf (b : Nat) : Nat → Nat → Nat
 | 0, _ => 0
 | f + 1, n => if n = 1 then 1 else sumTo (fun d => if n % d = 0 then cntf b f (n / d) else 0) b
theorem cntf_fuel (b n : Nat) : 1 ≤ n → ∀ f g : Nat, n ≤ f → n ≤ g → cntf b f n = cntf b g n := by
 induction n using Nat.strongRecOn with
 | _ n ih =>
  intro h1 f g hf hg
  obtain ⟨f, rfl⟩ : ∃ x, f = x + 1 := ⟨f - 1, by omega⟩
  obtain ⟨g, rfl⟩ : ∃ x, g = x + 1 := ⟨g - 1, by omega⟩
  simp only [cntf]
  by_cases q : n = 1
  ·rw [if_pos q, if_pos q]
  ·rw [if_neg q, if_neg q]
   refine sumTo_eq b (fun d d1 _ => ?_)
   by_cases m : n % d = 0
   ·rw [if_pos m, if_pos m]
    have hlt : n / d < n := Nat.div_lt_self (by omega) (by omega)
    exact ih (n / d) hlt (Nat.div_pos (Nat.le_of_dvd (by omega) (Nat.dvd_of_mod_eq_zero m)) (by omega)) f g (by omega) (by omega)
   ·rw [if_neg m, if_neg m]
def ways (b n : Nat) : Nat := cntf b n n
theorem ways_one (b : Nat) : ways b 1 = 1 := rfl
theorem ways_sum (b n : Nat) (h : 2 ≤ n) : ways b n = sumTo (fun d => if n % d = 0 then ways b (n / d) else 0) b := by
 obtain ⟨m, rfl⟩ : ∃ x, n = x + 1 := ⟨n - 1, by omega⟩
 unfold ways
 simp only [cntf]
 rw [if_neg (by omega)]
 refine sumTo_eq b (fun d d1 _ => ?_)
 by_cases q : (m + 1) % d = 0
 ·rw [if_pos q, if_pos q]
  have hlt : (m + 1) / d < m + 1 := Nat.div_lt_self (by omega) (by omega)
  exact cntf_fuel b _ (Nat.div_pos (Nat.le_of_dvd (by omega) (Nat.dvd_of_mod_eq_zero q)) (by omega)) _ _ (by omega) (Nat.le_refl _)
 ·rw [if_neg q, if_neg q]
theorem ways_pos_of {b k : Nat} : ∀ n, HasLen b n k → 0 < ways b n := by
 induction k with
 | zero => intro n h; rw [h.zero, ways_one]; omega
 | succ k ih =>
  intro n h
  have hp := h.pos
  obtain ⟨d, d1, d2, d3, d4⟩ := h.uncons
  have h1 := ih _ d4
  have hle := Nat.le_of_dvd (by omega) d3
  rw [ways_sum b n (by omega)]
  have h2 := sumTo_term (fun d => if n % d = 0 then ways b (n / d) else 0) d1 d2
  simp only [Nat.mod_eq_zero_of_dvd d3, if_true] at h2
  omega
theorem ways_has {b : Nat} (n : Nat) : 1 ≤ n → 0 < ways b n → Smooth b n := by
 induction n using Nat.strongRecOn with
 | _ n ih =>
  intro h1 h
  by_cases q : n = 1
  ·subst q; exact ⟨0, HasLen.one b⟩
  ·rw [ways_sum b n (by omega)] at h
   obtain ⟨d, d1, d2, d3⟩ := sumTo_pos h
   by_cases m : n % d = 0
   ·rw [if_pos m] at d3
    have hd := Nat.dvd_of_mod_eq_zero m
    obtain ⟨k, hk⟩ := ih (n / d) (Nat.div_lt_self (by omega) (by omega)) (Nat.div_pos (Nat.le_of_dvd (by omega) hd) (by omega)) d3
    exact ⟨k + 1, hk.of_div d1 d2 hd⟩
   ·rw [if_neg m] at d3; omega
def ee (d : Nat) : Nat := [0, 0, 4, 6, 8, 9, 10, 11, 12, 12, 13, 13, 14, 14, 15, 15].getD d 0
def tt (k : Nat) : Nat := [0, 1, 1, 1, 1, 1, 1, 2, 2, 3, 4, 6, 7, 11, 14, 20, 25, 33, 40, 56, 71, 97, 125, 171, 221, 301, 390, 526, 686, 920, 1196, 1599, 2090, 2792, 3663, 4885, 6417, 8549, 11247, 14954, 19691, 26155, 34464, 45735, 60305, 79977, 105541, 139917, 184724, 244787, 323306, 428273, 565806, 749279, 990116, 1310890, 1732589, 2293483, 3031772, 4012739, 5305195, 7020975, 9283303, 12284493, 16244185, 21494120, 28424180, 37608233, 49736425, 65803450, 87028045, 115137485, 152279939, 201459146, 266455872, 352499585, 466236854, 616781121, 815805920, 1079205572, 1427467561, 1888329897, 2497727522, 3304092045, 4370422776, 5781318131, 7647183447, 10115840493, 13380713386, 17700165990, 23412983735, 30970834583, 40966989421, 54191184857, 71682174624, 94820999470, 125426173093, 165913043704, 219464900447, 290306411715, 384009432360, 507963842402, 671921664233, 888810199179, 1175696812309, 1555196630200, 2057178580277, 2721207267284, 3599553328856, 4761436198085, 6298326976724, 8331330093576, 11020512003708, 14577757945138, 19283165228965, 25507455858079, 33740759823295, 44631714025058, 59037965447552, 78094418980598, 103301801937587, 136645847651287, 180752538084132, 239096317236028, 316272116784802, 418359215605574, 553397765718477, 732024805235598, 968308832970683, 1280861756729420, 1694300279464851, 2241190242303212, 2964605219226999, 3921526817709602, 5187323741087623, 6861698912195151, 9076529757734680, 12006270596088064, 15881675465404936, 21007994648061821, 27788992235607449, 36758778388296235, 48623842592268156, 64318742157305592, 85079661925188405, 112541841160872902, 148868301599953308, 196920300393330078, 260482595920072943, 344561670069759971, 455779920852221036, 602897437862259414, 797501788473409179, 1054920939773465986, 1395430279344081508, 1845849923758318942, 2441656798525976222, 3229779421290111810, 4272293648739515129, 5651312698394787678, 7475453973276165792].getD k 0
def ttok (k : Nat) : Bool := k == 0 || (decide (1 ≤ tt k) && decide (sumTo (fun d => if ee d ≤ k then tt (k - ee d) else 0) 16 ≤ tt k))
theorem tt_all : (List.range 161).all ttok = true := by decide +kernel
theorem tt_ok {k : Nat} (h1 : 1 ≤ k) (h2 : k ≤ 160) : 1 ≤ tt k ∧ sumTo (fun d => if ee d ≤ k then tt (k - ee d) else 0) 16 ≤ tt k := by
 have h := List.all_eq_true.1 tt_all k (List.mem_range.2 (by omega))
 unfold ttok at h
 simp only [Bool.or_eq_true, Bool.and_eq_true, decide_eq_true_eq, beq_iff_eq] at h
 rcases h with h | h
 ·omega
 ·exact h
theorem ee_all : (List.range 16).all (fun d => decide (d < 2) || decide (2 ^ ee d ≤ d ^ 4)) = true := by decide +kernel
theorem ee_ok {d : Nat} (h1 : 2 ≤ d) (h2 : d < 16) : 2 ^ ee d ≤ d ^ 4 := by
 have h := List.all_eq_true.1 ee_all d (List.mem_range.2 h2)
 simp only [Bool.or_eq_true, decide_eq_true_eq] at h
 rcases h with h | h
 ·omega
 ·exact h
theorem ways_le {b : Nat} (hb : b ≤ 16) (n : Nat) : ∀ k, 1 ≤ n → n ^ 4 < 2 ^ k → k ≤ 160 → ways b n ≤ tt k := by
 induction n using Nat.strongRecOn with
 | _ n ih =>
  intro k h1 hk hk2
  have hk1 : 1 ≤ k := by
   rcases Nat.eq_zero_or_pos k with h | h
   ·subst h
    have : 1 ≤ n ^ 4 := Nat.pow_pos h1
    rw [Nat.pow_zero] at hk
    omega
   ·exact h
  obtain ⟨t1, t2⟩ := tt_ok hk1 hk2
  by_cases q : n = 1
  ·subst q; rw [ways_one]; exact t1
  ·rw [ways_sum b n (by omega)]
   refine Nat.le_trans (Nat.le_trans (sumTo_mono _ hb) (sumTo_le 16 (fun d d1 d2 => ?_))) t2
   by_cases m : n % d = 0
   ·rw [if_pos m]
    have hd := Nat.dvd_of_mod_eq_zero m
    have hpos : 1 ≤ n / d := Nat.div_pos (Nat.le_of_dvd (by omega) hd) (by omega)
    have e1 : n ^ 4 = d ^ 4 * (n / d) ^ 4 := by rw [← Nat.mul_pow, Nat.mul_div_cancel' hd]
    have e2 : 2 ^ ee d * (n / d) ^ 4 ≤ d ^ 4 * (n / d) ^ 4 := Nat.mul_le_mul_right _ (ee_ok d1 d2)
    have e3 : 2 ^ ee d * (n / d) ^ 4 < 2 ^ k := by rw [e1] at hk; exact Nat.lt_of_le_of_lt e2 hk
    have e4 : 1 ≤ (n / d) ^ 4 := Nat.pow_pos hpos
    have e5 : ee d ≤ k := by
     rcases Nat.lt_or_ge k (ee d) with h | h
     ·exfalso
      have h5 : 2 ^ k ≤ 2 ^ ee d := Nat.pow_le_pow_right (by omega) (by omega)
      have h6 : 2 ^ ee d * 1 ≤ 2 ^ ee d * (n / d) ^ 4 := Nat.mul_le_mul_left _ e4
      rw [Nat.mul_one] at h6
      exact absurd (Nat.lt_of_le_of_lt h6 e3) (Nat.not_lt.2 h5)
     ·exact h
    rw [if_pos e5]
    refine ih (n / d) (Nat.div_lt_self (by omega) (by omega)) (k - ee d) hpos ?_ (by omega)
    have e6 : 2 ^ k = 2 ^ ee d * 2 ^ (k - ee d) := by rw [← Nat.pow_add, Nat.add_sub_cancel' e5]
    rw [e6] at e3
    exact Nat.lt_of_mul_lt_mul_left e3
   ·rw [if_neg m]; exact Nat.zero_le _
theorem ways_lt {b : Nat} (hb : b ≤ 16) (n : Nat) (h1 : 1 ≤ n) (hn : n ≤ 1000000000000) : ways b n < 9223372036854775808 := by
 have h2 : n ^ 4 ≤ 1000000000000 ^ 4 := Nat.pow_le_pow_left hn 4
 have h3 : (1000000000000 : Nat) ^ 4 < 2 ^ 160 := by decide +kernel
 have h4 := ways_le hb n 160 h1 (Nat.lt_of_le_of_lt h2 h3) (Nat.le_refl _)
 have h5 : tt 160 < 9223372036854775808 := by decide +kernel
 exact Nat.lt_of_le_of_lt h4 h5

theorem impl_countWith_lk_some {M : List (Int × Int)} {y v : Int} (h : impl_countWith.lk M y = some v) : (y, v) ∈ M := by
 induction M with
 | nil => simp [impl_countWith.lk] at h
 | cons p M ih =>
  simp only [impl_countWith.lk] at h
  by_cases q : p.1 = y
  ·rw [if_pos q] at h
   have e := Option.some.inj h
   have : p = (y, v) := by rw [← q, ← e]
   rw [this]
   exact List.mem_cons_self
  ·rw [if_neg q] at h
   exact List.mem_cons_of_mem _ (ih h)
theorem impl_countWith_lk_none {M : List (Int × Int)} {y : Int} (h : impl_countWith.lk M y = none) : ∀ p ∈ M, p.1 ≠ y := by
 induction M with
 | nil => simp
 | cons p M ih =>
  simp only [impl_countWith.lk] at h
  by_cases q : p.1 = y
  ·rw [if_pos q] at h; simp at h
  ·rw [if_neg q] at h
   intro r hr
   rcases List.mem_cons.1 hr with rfl | hr
   ·exact q
   ·exact ih h r hr

def IsC (b n : Nat) (v : Int) : Prop := v = (ways b n : Int)
theorem waysum_lt {b n d : Nat} (hb : b ≤ 16) (h2 : 2 ≤ n) (hn : n ≤ 1000000000000) (hd : d ≤ b) : sumTo (fun d => if n % d = 0 then ways b (n / d) else 0) d < 9223372036854775808 := by
 have h := ways_lt hb n (by omega) hn
 rw [ways_sum b n h2] at h
 exact Nat.lt_of_le_of_lt (sumTo_mono _ hd) h
theorem wadd {a b c : Nat} (h : a + b = c) (hc : c < 9223372036854775808) : wrap64 ((a : Int) + (b : Int)) = (c : Int) := by
 rw [w64 (by omega) (by omega)]
 omega
theorem cw_in (b n : Nat) (hb2 : b ≤ 16) (h2n : 2 ≤ n) (hn : n ≤ 1000000000000)
  (ih : ∀ m, m < n → 1 ≤ m → ∀ M, Memo (IsC b) M → ∃ M', Memo (IsC b) M' ∧ (∀ p ∈ M', p ∈ M ∨ p.1 ≤ (m : Int)) ∧ Ev (fun k => impl_countWith.g (b : Int) k false (m : Int) 0 0 M) ((ways b m : Int), M')) (S : Nat → Nat) (hS : S = sumTo (fun d => if n % d = 0 then ways b (n / d) else 0)) (D : Nat) :
  ∀ (d : Nat) (M : List (Int × Int)), D = b - d → 2 ≤ d → Memo (IsC b) M → (∀ p ∈ M, p.1 ≠ (n : Int)) →
  ∃ M', Memo (IsC b) M' ∧ (∀ p ∈ M', p ∈ M ∨ p.1 ≤ (n : Int)) ∧ Ev (fun k => impl_countWith.g (b : Int) k true (n : Int) (d : Int) (S (min d (max b 2)) : Int) M) ((ways b n : Int), M') := by
 have hSb : S b = ways b n := by rw [hS, ways_sum b n h2n]
 have hlt := ways_lt hb2 n (by omega) hn
 have hSlt : ∀ e, e ≤ b → S e < 9223372036854775808 := fun e he => by rw [hS]; exact waysum_lt hb2 h2n hn he
 have hS2 : S 2 = 0 := by rw [hS]; simp [sumTo]
 have hSn : ∀ e, 2 ≤ e → S (e + 1) = S e + (if n % e = 0 then ways b (n / e) else 0) := fun e he => by
  rw [hS]
  show sumTo _ e + (if 2 ≤ e then _ else 0) = _
  rw [if_pos he]
 clear hS
 induction D with
 | zero =>
  intro d M hD hd hM hno
  have hl := hM.len
  have hval : S (min d (max b 2)) = ways b n := by
   rcases Nat.lt_or_ge b 2 with h | h
   ·rw [show min d (max b 2) = 2 by omega, hS2, ← hSb]
    rcases Nat.eq_zero_or_pos (S b) with h0 | h0
    ·rw [h0]
    ·exfalso
     rw [hSb, ways_sum b n h2n] at h0
     obtain ⟨x, x1, x2, _⟩ := sumTo_pos h0
     omega
   ·rw [show min d (max b 2) = b by omega, hSb]
  rw [hval]
  refine ⟨((n : Int), (ways b n : Int)) :: M, hM.cons hno h2n hn rfl, fun p hp => ?_, evs (fun k => by rw [impl_countWith.g]) ?_⟩
  ·rcases List.mem_cons.1 hp with rfl | hp
   ·exact Or.inr (Int.le_refl _)
   ·exact Or.inl hp
  ·exact evn (by omega) (evp ⟨by omega, by omega⟩ (evp hl (Ev.now _)))
 | succ D ihD =>
  intro d M hD hd hM hno
  rw [show min d (max b 2) = d by omega]
  have hmin : min (d + 1) (max b 2) = d + 1 := by omega
  by_cases hdn : n % d = 0
  ·have hdv : d ∣ n := Nat.dvd_of_mod_eq_zero hdn
   have hlt2 : n / d < n := Nat.div_lt_self (by omega) (by omega)
   have hpos : 1 ≤ n / d := Nat.div_pos (Nat.le_of_dvd (by omega) hdv) (by omega)
   obtain ⟨M1, hM1, hk1, hev⟩ := ih (n / d) hlt2 hpos M hM
   have hno1 : ∀ p ∈ M1, p.1 ≠ (n : Int) := by
    intro p hp
    rcases hk1 p hp with h | h
    ·exact hno p h
    ·omega
   obtain ⟨M2, hM2, hk2, hev2⟩ := ihD (d + 1) M1 (by omega) (by omega) hM1 hno1
   rw [hmin] at hev2
   refine ⟨M2, hM2, fun p hp => ?_, evs (fun k => by rw [impl_countWith.g]) ?_⟩
   ·rcases hk2 p hp with h | h
    ·rcases hk1 p h with h | h
     ·exact Or.inl h
     ·exact Or.inr (by omega)
    ·exact Or.inr h
   ·have e5 : S d + ways b (n / d) = S (d + 1) := by rw [hSn d hd, if_pos hdn]
    have e6 := wadd e5 (hSlt (d + 1) (by omega))
    rw [tmod_cast, tdiv_cast, w64n (n / d) (by omega), ws d (by omega)]
    refine evp (by omega) (evn (by omega) (evp (by omega) (evb hev ?_)))
    simp only [e6]
    exact hev2
  ·obtain ⟨M2, hM2, hk2, hev2⟩ := ihD (d + 1) M (by omega) (by omega) hM hno
   rw [hmin, hSn d hd, if_neg hdn, Nat.add_zero] at hev2
   refine ⟨M2, hM2, hk2, evs (fun k => by rw [impl_countWith.g]) ?_⟩
   rw [tmod_cast, ws d (by omega)]
   exact evp (by omega) (evn (by omega) (evn (by omega) hev2))
theorem cw_ev (b : Nat) (hb2 : b ≤ 16) (n : Nat) : 1 ≤ n → n ≤ 1000000000000 → ∀ M, Memo (IsC b) M → ∃ M', Memo (IsC b) M' ∧ (∀ p ∈ M', p ∈ M ∨ p.1 ≤ (n : Int)) ∧ Ev (fun k => impl_countWith.g (b : Int) k false (n : Int) 0 0 M) ((ways b n : Int), M') := by
 induction n using Nat.strongRecOn with
 | _ n ih =>
  intro h1 hn M hM
  by_cases h : n = 1
  ·subst h
   refine ⟨M, hM, fun p hp => Or.inl hp, evs (fun k => by rw [impl_countWith.g]) ?_⟩
   exact evp (by omega) (Ev.now _)
  ·cases hlk : impl_countWith.lk M (n : Int) with
   | some v =>
    have hv : v = (ways b n : Int) := hM.get (impl_countWith_lk_some hlk)
    subst hv
    refine ⟨M, hM, fun p hp => Or.inl hp, evs (fun k => by rw [impl_countWith.g, hlk]) ?_⟩
    exact evn (by omega) (evp ⟨by omega, by omega⟩ (Ev.now _))
   | none =>
    obtain ⟨M', a1, a2, a3⟩ := cw_in b n hb2 (by omega) hn (fun m hm hm1 => ih m hm hm1 (by omega)) _ rfl (b - 2) 2 M rfl (by omega) hM (impl_countWith_lk_none hlk)
    rw [show min 2 (max b 2) = 2 by omega, show sumTo (fun d => if n % d = 0 then ways b (n / d) else 0) 2 = 0 by simp [sumTo]] at a3
    refine ⟨M', a1, a2, evs (fun k => by rw [impl_countWith.g, hlk]) ?_⟩
    exact evn (by omega) (evp ⟨by omega, by omega⟩ a3)
theorem pc_in (b n : Nat) (hb2 : b ≤ 16) (h2n : 2 ≤ n) (hn : n ≤ 1000000000000)
  (ih : ∀ m, m < n → 1 ≤ m → Ev (fun k => spec_prCount.f k (m : Int) (b : Int)) (ways b m : Int)) (S : Nat → Nat) (hS : S = sumTo (fun d => if n % d = 0 then ways b (n / d) else 0)) (D : Nat) :
  ∀ d : Nat, D = b - d → 2 ≤ d → Ev (fun k => spec_prCount.l0 k (n : Int) (b : Int) (S (min d (max b 2)) : Int) (d : Int)) (ways b n : Int) := by
 have hSb : S b = ways b n := by rw [hS, ways_sum b n h2n]
 have hSlt : ∀ e, e ≤ b → S e < 9223372036854775808 := fun e he => by rw [hS]; exact waysum_lt hb2 h2n hn he
 have hS2 : S 2 = 0 := by rw [hS]; simp [sumTo]
 have hSn : ∀ e, 2 ≤ e → S (e + 1) = S e + (if n % e = 0 then ways b (n / e) else 0) := fun e he => by
  rw [hS]
  show sumTo _ e + (if 2 ≤ e then _ else 0) = _
  rw [if_pos he]
 clear hS
 induction D with
 | zero =>
  intro d hD hd
  have hval : S (min d (max b 2)) = ways b n := by
   rcases Nat.lt_or_ge b 2 with h | h
   ·rw [show min d (max b 2) = 2 by omega, hS2, ← hSb]
    rcases Nat.eq_zero_or_pos (S b) with h0 | h0
    ·rw [h0]
    ·exfalso
     rw [hSb, ways_sum b n h2n] at h0
     obtain ⟨x, x1, x2, _⟩ := sumTo_pos h0
     omega
   ·rw [show min d (max b 2) = b by omega, hSb]
  rw [hval]
  refine evs (fun k => by rw [spec_prCount.l0]) ?_
  exact evn (by omega) (Ev.now _)
 | succ D ihD =>
  intro d hD hd
  rw [show min d (max b 2) = d by omega]
  have hmin : min (d + 1) (max b 2) = d + 1 := by omega
  have hev2 := ihD (d + 1) (by omega) (by omega)
  rw [hmin] at hev2
  refine evs (fun k => by rw [spec_prCount.l0]) ?_
  by_cases hdn : n % d = 0
  ·have hdv : d ∣ n := Nat.dvd_of_mod_eq_zero hdn
   have hlt2 : n / d < n := Nat.div_lt_self (by omega) (by omega)
   have hpos : 1 ≤ n / d := Nat.div_pos (Nat.le_of_dvd (by omega) hdv) (by omega)
   have e5 : S d + ways b (n / d) = S (d + 1) := by rw [hSn d hd, if_pos hdn]
   have e6 := wadd e5 (hSlt (d + 1) (by omega))
   rw [tmod_cast, tdiv_cast, w64n (n / d) (by omega), ws d (by omega)]
   refine evp (by omega) (evn (by omega) (evp (by omega) (evb (ih (n / d) hlt2 hpos) ?_)))
   simp only [e6]
   exact hev2
  ·rw [hSn d hd, if_neg hdn, Nat.add_zero] at hev2
   rw [tmod_cast, ws d (by omega)]
   exact evp (by omega) (evn (by omega) (evn (by omega) hev2))
theorem pc_ev (b : Nat) (hb2 : b ≤ 16) (n : Nat) : 1 ≤ n → n ≤ 1000000000000 → Ev (fun k => spec_prCount.f k (n : Int) (b : Int)) (ways b n : Int) := by
 induction n using Nat.strongRecOn with
 | _ n ih =>
  intro h1 hn
  refine evs (fun k => by rw [spec_prCount.f]) ?_
  by_cases h : n = 1
  ·subst h
   exact evp (by omega) (Ev.now _)
  ·have := pc_in b n hb2 (by omega) hn (fun m hm hm1 => ih m hm hm1 (by omega)) _ rfl (b - 2) 2 rfl (by omega)
   rw [show min 2 (max b 2) = 2 by omega, show sumTo (fun d => if n % d = 0 then ways b (n / d) else 0) 2 = 0 by simp [sumTo]] at this
   exact evn (by omega) this

def told2 (b x e m : Nat) : Nat := if m = 1 then 1 else sumTo (fun d => if m % d = 0 ∧ (m / d < x ∨ m / d = x ∧ d < e) then ways b (m / d) else 0) b
theorem told2_one (b x e : Nat) : told2 b x e 1 = 1 := if_pos rfl
theorem told2_le (b x e m : Nat) (h : 1 ≤ m) : told2 b x e m ≤ ways b m := by
 unfold told2
 by_cases q : m = 1
 ·subst q; rw [if_pos rfl, ways_one]; exact Nat.le_refl _
 ·rw [if_neg q, ways_sum b m (by omega)]
  refine sumTo_le b (fun d _ _ => ?_)
  by_cases h1 : m % d = 0
  ·rw [if_pos h1]
   split
   ·exact Nat.le_refl _
   ·exact Nat.zero_le _
  ·rw [if_neg h1, if_neg (fun h => h1 h.1)]
   exact Nat.le_refl _
theorem told2_self (b x e : Nat) (h : 1 ≤ x) : told2 b x e x = ways b x := by
 unfold told2
 by_cases q : x = 1
 ·subst q; rw [if_pos rfl, ways_one]
 ·rw [if_neg q, ways_sum b x (by omega)]
  refine sumTo_eq b (fun d d1 _ => ?_)
  have hlt : x / d < x := Nat.div_lt_self (by omega) (by omega)
  by_cases h1 : x % d = 0
  ·rw [if_pos h1, if_pos ⟨h1, Or.inl hlt⟩]
  ·rw [if_neg h1, if_neg (fun h => h1 h.1)]
theorem told2_skip (b x e m : Nat) (h : m ≠ x * e) : told2 b x (e + 1) m = told2 b x e m := by
 unfold told2
 by_cases q : m = 1
 ·rw [if_pos q, if_pos q]
 ·rw [if_neg q, if_neg q]
  refine sumTo_eq b (fun d d1 _ => ?_)
  by_cases h1 : m % d = 0 ∧ (m / d < x ∨ m / d = x ∧ d < e)
  ·rw [if_pos h1, if_pos ⟨h1.1, by omega⟩]
  ·rw [if_neg h1, if_neg]
   rintro ⟨a1, a2⟩
   refine h1 ⟨a1, ?_⟩
   rcases a2 with a2 | ⟨a2, a3⟩
   ·exact Or.inl a2
   ·rcases Nat.lt_or_ge d e with h2 | h2
    ·exact Or.inr ⟨a2, h2⟩
    ·exfalso
     have h3 : d = e := by omega
     subst h3
     have h4 := Nat.mul_div_cancel' (Nat.dvd_of_mod_eq_zero a1)
     rw [a2, Nat.mul_comm] at h4
     exact h h4.symm
theorem told2_add (b x e : Nat) (hx : 1 ≤ x) (he : 2 ≤ e) (heb : e < b) : told2 b x (e + 1) (x * e) = told2 b x e (x * e) + ways b x := by
 have h1 : x * e ≠ 1 := by
  have := Nat.mul_le_mul hx he
  omega
 have hdiv : x * e / e = x := Nat.mul_div_cancel _ (by omega)
 have hmod : x * e % e = 0 := Nat.mul_mod_left x e
 unfold told2
 rw [if_neg h1, if_neg h1]
 refine sumTo_one he heb ?_ (fun d d1 d2 d3 => ?_)
 ·rw [if_pos ⟨hmod, Or.inr ⟨hdiv, by omega⟩⟩, if_neg (by rw [hdiv]; omega), hdiv, Nat.zero_add]
 ·have e1 : (x * e % d = 0 ∧ (x * e / d < x ∨ x * e / d = x ∧ d < e + 1)) ↔ (x * e % d = 0 ∧ (x * e / d < x ∨ x * e / d = x ∧ d < e)) := by
   constructor
   ·rintro ⟨a, c⟩
    exact ⟨a, by omega⟩
   ·rintro ⟨a, c⟩
    exact ⟨a, by omega⟩
  by_cases h2 : x * e % d = 0 ∧ (x * e / d < x ∨ x * e / d = x ∧ d < e)
  ·rw [if_pos h2, if_pos (e1.2 h2)]
  ·rw [if_neg h2, if_neg (fun h => h2 (e1.1 h))]
theorem told2_next (b x y p m : Nat) (hxy : x < y) (hp : m ∣ p) (h : ∀ z, z ∣ p → x < z → z < y → ways b z = 0) : told2 b y 2 m = told2 b x b m := by
 unfold told2
 by_cases q : m = 1
 ·rw [if_pos q, if_pos q]
 ·rw [if_neg q, if_neg q]
  refine sumTo_eq b (fun d d1 d2 => ?_)
  by_cases h1 : m % d = 0
  ·by_cases h2 : m / d ≤ x
   ·rw [if_pos ⟨h1, by omega⟩, if_pos ⟨h1, by omega⟩]
   ·rw [if_neg (show ¬ (m % d = 0 ∧ (m / d < x ∨ m / d = x ∧ d < b)) by omega)]
    by_cases h3 : m / d < y
    ·rw [if_pos ⟨h1, by omega⟩]
     exact h _ (Nat.dvd_trans (Nat.div_dvd_of_dvd (Nat.dvd_of_mod_eq_zero h1)) hp) (by omega) h3
    ·rw [if_neg (by omega)]
  ·rw [if_neg (fun h => h1 h.1), if_neg (fun h => h1 h.1)]
def SetOK (b p x e : Nat) (D : List Nat) : Prop := D.Pairwise (· < ·) ∧ ∀ m, m ∈ D ↔ (1 ≤ m ∧ m ∣ p ∧ 0 < told2 b x e m)
theorem set_all {b p x : Nat} {pre post : List Nat} (h : SetOK b p x b (pre ++ x :: post)) (y : Nat) : 1 ≤ y → y ∣ p → 0 < ways b y → (∀ z ∈ post, y ≤ z) → y ∈ pre ++ x :: post := by
 induction y using Nat.strongRecOn with
 | _ y ih =>
  intro h1 hy hw hz
  refine (h.2 y).2 ⟨h1, hy, ?_⟩
  by_cases q : y = 1
  ·subst q; rw [told2_one]; omega
  ·have hw2 := hw
   rw [ways_sum b y (by omega)] at hw2
   obtain ⟨d, d1, d2, d3⟩ := sumTo_pos hw2
   by_cases m : y % d = 0
   ·rw [if_pos m] at d3
    have hd := Nat.dvd_of_mod_eq_zero m
    have hlt : y / d < y := Nat.div_lt_self (by omega) (by omega)
    have hpos : 1 ≤ y / d := Nat.div_pos (Nat.le_of_dvd (by omega) hd) (by omega)
    have hin := ih (y / d) hlt hpos (Nat.dvd_trans (Nat.div_dvd_of_dvd hd) hy) d3 (fun z hz2 => by have := hz z hz2; omega)
    have hle : y / d ≤ x := by
     have hs := List.pairwise_append.1 h.1
     rcases List.mem_append.1 hin with h3 | h3
     ·exact Nat.le_of_lt (hs.2.2 _ h3 x (by simp))
     ·rcases List.mem_cons.1 h3 with h3 | h3
      ·omega
      ·have := hz _ h3
       omega
    unfold told2
    rw [if_neg q]
    have ht := sumTo_term (fun d => if y % d = 0 ∧ (y / d < x ∨ y / d = x ∧ d < b) then ways b (y / d) else 0) d1 d2
    rw [if_pos ⟨m, by omega⟩] at ht
    omega
   ·rw [if_neg m] at d3; omega
theorem set_next {b p x y : Nat} {pre post : List Nat} (h : SetOK b p x b (pre ++ x :: y :: post)) : (∀ m, m ∣ p → told2 b y 2 m = told2 b x b m) ∧ SetOK b p y 2 (pre ++ x :: y :: post) := by
 have hs := List.pairwise_append.1 h.1
 have hs2 := List.pairwise_cons.1 hs.2.1
 have hs3 := List.pairwise_cons.1 hs2.2
 have hxy : x < y := hs2.1 y (by simp)
 have hgap : ∀ z, z ∣ p → x < z → z < y → ways b z = 0 := by
  intro z hz h1 h2
  rcases Nat.eq_zero_or_pos (ways b z) with h3 | h3
  ·exact h3
  ·exfalso
   have hin := set_all h z (by omega) hz h3 (fun u hu => by
    rcases List.mem_cons.1 hu with rfl | hu
    ·omega
    ·have := hs3.1 u hu; omega)
   rcases List.mem_append.1 hin with h4 | h4
   ·have := hs.2.2 _ h4 x (by simp); omega
   ·rcases List.mem_cons.1 h4 with h4 | h4
    ·omega
    ·rcases List.mem_cons.1 h4 with h4 | h4
     ·omega
     ·have := hs3.1 z h4; omega
 have hall : ∀ m, m ∣ p → told2 b y 2 m = told2 b x b m := fun m hm => told2_next b x y p m hxy hm hgap
 refine ⟨hall, h.1, fun m => ?_⟩
 rw [h.2 m]
 constructor
 ·rintro ⟨a, c, d⟩; exact ⟨a, c, by rw [hall m c]; exact d⟩
 ·rintro ⟨a, c, d⟩; exact ⟨a, c, by rw [← hall m c]; exact d⟩
theorem set_skip {b p x e : Nat} {D : List Nat} (h : SetOK b p x e D) (hn : ¬ x * e ∣ p) : (∀ m, m ∣ p → told2 b x (e + 1) m = told2 b x e m) ∧ SetOK b p x (e + 1) D := by
 have hall : ∀ m, m ∣ p → told2 b x (e + 1) m = told2 b x e m := fun m hm => told2_skip b x e m (fun q => hn (by rw [← q]; exact hm))
 refine ⟨hall, h.1, fun m => ?_⟩
 rw [h.2 m]
 constructor
 ·rintro ⟨a, c, d⟩; exact ⟨a, c, by rw [hall m c]; exact d⟩
 ·rintro ⟨a, c, d⟩; exact ⟨a, c, by rw [← hall m c]; exact d⟩
theorem set_more {b p x e : Nat} {D : List Nat} (h : SetOK b p x e D) (hm : x * e ∈ D) : SetOK b p x (e + 1) D := by
 refine ⟨h.1, fun m => ?_⟩
 by_cases q : m = x * e
 ·subst q
  have h1 := (h.2 (x * e)).1 hm
  constructor
  ·intro _
   refine ⟨h1.1, h1.2.1, ?_⟩
   have : told2 b x e (x * e) ≤ told2 b x (e + 1) (x * e) := by
    unfold told2
    split
    ·exact Nat.le_refl _
    ·refine sumTo_le b (fun d _ _ => ?_)
     by_cases h2 : x * e % d = 0 ∧ (x * e / d < x ∨ x * e / d = x ∧ d < e)
     ·rw [if_pos h2, if_pos ⟨h2.1, by omega⟩]; exact Nat.le_refl _
     ·rw [if_neg h2]; exact Nat.zero_le _
   omega
  ·intro _; exact hm
 ·rw [told2_skip b x e m q]
  exact h.2 m
theorem set_new {b p x e : Nat} {P Q : List Nat} (h : SetOK b p x e (P ++ Q)) (hx : 1 ≤ x) (he : 2 ≤ e) (heb : e < b) (hp : x * e ∣ p) (hw : 0 < ways b x) (h1 : ∀ m ∈ P, m < x * e) (h2 : ∀ m ∈ Q, x * e < m) : SetOK b p x (e + 1) (P ++ x * e :: Q) := by
 have hs := List.pairwise_append.1 h.1
 refine ⟨List.pairwise_append.2 ⟨hs.1, List.pairwise_cons.2 ⟨h2, hs.2.1⟩, fun a ha c hc => ?_⟩, fun m => ?_⟩
 ·rcases List.mem_cons.1 hc with rfl | hc
  ·exact h1 a ha
  ·exact hs.2.2 a ha c hc
 ·by_cases q : m = x * e
  ·subst q
   constructor
   ·intro _
    refine ⟨Nat.mul_pos hx (by omega), hp, ?_⟩
    rw [told2_add b x e hx he heb]
    omega
   ·intro _; simp
  ·rw [told2_skip b x e m q, ← h.2 m]
   simp [q]

def wl (f : Nat → Nat) (D : List Nat) : List Int := D.map fun m => (f m : Int)
theorem wl_length (f : Nat → Nat) (D : List Nat) : (wl f D).length = D.length := by simp [wl]
theorem wl_append (f : Nat → Nat) (P Q : List Nat) : wl f (P ++ Q) = wl f P ++ wl f Q := by simp [wl]
theorem wl_cons (f : Nat → Nat) (x : Nat) (Q : List Nat) : wl f (x :: Q) = (f x : Int) :: wl f Q := rfl
theorem wl_congr {f g : Nat → Nat} {D : List Nat} (h : ∀ m ∈ D, f m = g m) : wl f D = wl g D := by
 unfold wl
 exact List.map_congr_left (fun m hm => by rw [h m hm])
theorem icl_append (P Q : List Nat) : ic (P ++ Q) = ic P ++ ic Q := by simp [ic]
theorem icl_cons (x : Nat) (Q : List Nat) : ic (x :: Q) = (x : Int) :: ic Q := rfl
theorem len_le {D : List Nat} {p : Nat} (h : D.Pairwise (· < ·)) (hd : ∀ m ∈ D, 1 ≤ m ∧ m ≤ p) : D.length ≤ p := by
 have h1 := nodup_leN p (D.map fun (m : Nat) => ((m : Int) - 1)) (by
  rw [List.Nodup, List.pairwise_map]
  exact h.imp (fun h1 h2 => by omega)) (by
  intro x hx
  obtain ⟨m, hm, rfl⟩ := List.mem_map.1 hx
  have := hd m hm
  omega)
 simpa using h1
theorem split_at (n : Nat) (l : List Nat) : l.Pairwise (· < ·) → ∃ P Q, l = P ++ Q ∧ (∀ m ∈ P, m < n) ∧ ∀ m ∈ Q, n ≤ m := by
 induction l with
 | nil => intro _; exact ⟨[], [], rfl, by simp, by simp⟩
 | cons x l ih =>
  intro h
  obtain ⟨h1, h2⟩ := List.pairwise_cons.1 h
  by_cases q : x < n
  ·obtain ⟨P, Q, e, a, c⟩ := ih h2
   refine ⟨x :: P, Q, by rw [e]; rfl, fun m hm => ?_, c⟩
   rcases List.mem_cons.1 hm with rfl | hm
   ·exact q
   ·exact a m hm
  ·refine ⟨[], x :: l, rfl, by simp, fun m hm => ?_⟩
   rcases List.mem_cons.1 hm with rfl | hm
   ·omega
   ·have := h1 m hm; omega
theorem search_ev (p b nx idx e R : Int) (W : List Int) (P Q : List Nat) (n : Nat) (hn : nx = (n : Int)) (hP : ∀ m ∈ P, m < n) (hQ : ∀ m ∈ Q, n ≤ m) (hlen : (P ++ Q).length ≤ 1000000000000)
  (h : Ev (fun k => spec_prLists.j3 k p b (ic (P ++ Q)) W idx e nx (P.length : Int)) R) (j : Nat) : ∀ i : Nat, i + j = P.length → Ev (fun k => spec_prLists.l2 k p b (ic (P ++ Q)) W idx e nx (i : Int)) R := by
 have hl : (P ++ Q).length = P.length + Q.length := List.length_append
 induction j with
 | zero =>
  intro i hi
  have : i = P.length := by omega
  subst this
  refine evs (fun k => by rw [spec_prLists.l2]) ?_
  cases Q with
  | nil => exact evn (by rw [ic_length]; simp) h
  | cons q Q =>
   have hq := hQ q (by simp)
   have hrd : rd (ic (P ++ q :: Q)) (P.length : Int) = (q : Int) := by
    rw [icl_append, icl_cons]
    exact rd_mid' _ _ _ _ (by rw [ic_length])
   refine evp (by rw [ic_length]; simp; omega) (evp (by omega) ?_)
   rw [hrd]
   exact evn (by omega) h
 | succ j ih =>
  intro i hi
  have hrd : rd (ic (P ++ Q)) (i : Int) < nx := by
   rw [rd_get _ _ (by rw [ic_length]; omega)]
   have e1 : (ic (P ++ Q))[i]'(by rw [ic_length]; omega) = (((P ++ Q)[i]'(by omega) : Nat) : Int) := by simp only [ic, List.getElem_map]
   rw [e1, List.getElem_append_left (by omega)]
   have := hP _ (List.getElem_mem (show i < P.length by omega))
   omega
  refine evs (fun k => by rw [spec_prLists.l2]) ?_
  rw [ws i (by omega)]
  exact evp (by rw [ic_length]; omega) (evp (by omega) (evp hrd (ih (i + 1) (by omega))))
theorem ins_eq (P Q : List Int) (x : Int) (h : (P ++ Q).length < 1000000000000) : slices_nextPowerOfTwo.f (P ++ Q) (P.length : Int) x = some (P ++ x :: Q) := by
 unfold slices_nextPowerOfTwo.f
 have h1 : (P ++ Q).length = P.length + Q.length := List.length_append
 rw [if_pos ⟨by omega, h⟩]
 simp
theorem wl_set (f g : Nat → Nat) (P Q : List Nat) (n : Nat) (h1 : ∀ m ∈ P, f m = g m) (h2 : ∀ m ∈ Q, f m = g m) : (wl f (P ++ n :: Q)).set (P.length : Int).toNat ((g n : Nat) : Int) = wl g (P ++ n :: Q) := by
 rw [wl_append, wl_cons, set_midI _ _ _ _ _ (by rw [wl_length]), wl_append, wl_cons, wl_congr h1, wl_congr h2]
theorem wl_ins (f g : Nat → Nat) (P Q : List Nat) (n c : Nat) (h1 : ∀ m ∈ P, f m = g m) (h2 : ∀ m ∈ Q, f m = g m) (h : g n = c) : wl f P ++ (c : Int) :: wl f Q = wl g (P ++ n :: Q) := by
 rw [wl_append, wl_cons, wl_congr h1, wl_congr h2, h]
theorem rdw (b x e : Nat) (pre post : List Nat) (h : 1 ≤ x) : rd (wl (told2 b x e) (pre ++ x :: post)) (pre.length : Int) = (ways b x : Int) := by
 rw [wl_append, wl_cons, told2_self b x e h]
 exact rd_mid' _ _ _ _ (by rw [wl_length])
theorem rdw2 (f : Nat → Nat) (y : Nat) (pre post : List Nat) : rd (wl f (pre ++ y :: post)) (pre.length : Int) = (f y : Int) := by
 rw [wl_append, wl_cons]
 exact rd_mid' _ _ _ _ (by rw [wl_length])
theorem wmul (x e : Nat) (h : x * e ≤ 1000000000000000000) : wrap64 ((x : Int) * (e : Int)) = ((x * e : Nat) : Int) := by
 rw [← Int.natCast_mul]
 exact w64n _ (by omega)
theorem turn_ev (b p x : Nat) (hb : 2 ≤ b) (hb2 : b ≤ 16) (hp : 1 ≤ p) (hp2 : p ≤ 1000000000000)
  (hout : ∀ pre y post, SetOK b p y 2 (pre ++ y :: post) → x < y → Ev (fun k => spec_prLists.l1 k (p : Int) (b : Int) (ic (pre ++ y :: post)) (wl (told2 b y 2) (pre ++ y :: post)) (pre.length : Int) 2) (ways b p : Int)) (E : Nat) :
  ∀ (e : Nat) (pre post : List Nat), E = b - e → 2 ≤ e → e ≤ b → SetOK b p x e (pre ++ x :: post) → Ev (fun k => spec_prLists.l1 k (p : Int) (b : Int) (ic (pre ++ x :: post)) (wl (told2 b x e) (pre ++ x :: post)) (pre.length : Int) (e : Int)) (ways b p : Int) := by
 induction E with
 | zero =>
  intro e pre post hE he heb hS
  have heq : e = b := by omega
  subst heq
  have hmem : ∀ m ∈ pre ++ x :: post, 1 ≤ m ∧ m ∣ p := fun m hm => by have := (hS.2 m).1 hm; exact ⟨this.1, this.2.1⟩
  have hlen := len_le hS.1 (p := p) (fun m hm => ⟨(hmem m hm).1, Nat.le_of_dvd (by omega) (hmem m hm).2⟩)
  have hl : (pre ++ x :: post).length = pre.length + (post.length + 1) := by simp
  refine evs (fun k => by rw [spec_prLists.l1]) ?_
  rw [ws pre.length (by omega)]
  refine evn (by omega) (evs (fun k => by rw [spec_prLists.l0]) ?_)
  cases post with
  | cons y post =>
   obtain ⟨h1, h2⟩ := set_next hS
   have hs := List.pairwise_append.1 hS.1
   have hxy : x < y := (List.pairwise_cons.1 hs.2.1).1 y (by simp)
   have h3 := hout (pre ++ [x]) y post (by rw [List.append_assoc]; exact h2) hxy
   rw [List.append_assoc, List.singleton_append, wl_congr (fun m hm => h1 m (hmem m hm).2)] at h3
   have e1 : ((pre ++ [x]).length : Int) = ((pre.length + 1 : Nat) : Int) := by simp
   rw [e1] at h3
   exact evp (by rw [ic_length]; simp; omega) h3
  | nil =>
   have hx1 := hmem x (by simp)
   have h0 : ([] : List Nat).length = 0 := rfl
   have hll : (ic (pre ++ [x])).length = pre.length + 1 := by rw [ic_length]; omega
   have hwl2 : (wl (told2 e x e) (pre ++ [x])).length = pre.length + 1 := by rw [wl_length]; omega
   rw [hll, wm pre.length (by omega)]
   refine evn (by omega) (evp (by omega) (evp (by omega) ?_))
   rw [ic_rd]
   by_cases hxp : x = p
   ·subst hxp
    refine evp rfl (evp (by omega) ?_)
    rw [rdw e x e pre [] hx1.1]
    exact Ev.now _
   ·refine evn (by omega) (evr ?_)
    rcases Nat.eq_zero_or_pos (ways e p) with h3 | h3
    ·rw [h3]; rfl
    ·exfalso
     have hin := set_all hS p hp (Nat.dvd_refl p) h3 (by simp)
     have hs := List.pairwise_append.1 hS.1
     rcases List.mem_append.1 hin with h4 | h4
     ·have := hs.2.2 p h4 x (by simp)
      have := Nat.le_of_dvd (by omega) hx1.2
      omega
     ·exact hxp (List.mem_singleton.1 h4).symm
 | succ E ih =>
  intro e pre post hE he heb hS
  have hmem : ∀ m ∈ pre ++ x :: post, 1 ≤ m ∧ m ∣ p := fun m hm => by have := (hS.2 m).1 hm; exact ⟨this.1, this.2.1⟩
  have hlen := len_le hS.1 (p := p) (fun m hm => ⟨(hmem m hm).1, Nat.le_of_dvd (by omega) (hmem m hm).2⟩)
  have hl : (pre ++ x :: post).length = pre.length + (post.length + 1) := by simp
  have hx1 := hmem x (by simp)
  have hxp := Nat.le_of_dvd (by omega) hx1.2
  have hwx : 0 < ways b x := by
   have := ((hS.2 x).1 (by simp)).2.2
   rwa [told2_self b x e hx1.1] at this
  have HWD := Aside0.mk (rdw b x e pre post hx1.1)
  have hxe : x * e ≤ 1000000000000 * 16 := Nat.mul_le_mul (by omega) (by omega)
  have hxe2 : x * 2 ≤ x * e := Nat.mul_le_mul_left _ he
  refine evs (fun k => by rw [spec_prLists.l1]) ?_
  rw [ic_rd, wmul x e (by omega), ws e (by omega), tmod_cast, ws pre.length (by omega)]
  refine evp (by omega) (evp (by omega) (evp (by rw [ic_length]; omega) (evn (by omega) ?_)))
  by_cases hdv : p % (x * e) = 0
  ·have hpd : x * e ∣ p := Nat.dvd_of_mod_eq_zero hdv
   have hs := List.pairwise_append.1 hS.1
   have hs2 := List.pairwise_cons.1 hs.2.1
   obtain ⟨P2, Q, hpq, hP2, hQ⟩ := split_at (x * e) post hs2.2
   obtain ⟨nx, hnx⟩ : ∃ nx, nx = x * e := ⟨_, rfl⟩
   have hadd := told2_add b x e hx1.1 he (by omega)
   have htl := told2_le b x (e + 1) (x * e) (by omega)
   have hwl := ways_lt hb2 (x * e) (by omega) (Nat.le_trans (Nat.le_of_dvd (by omega) hpd) hp2)
   have hD : pre ++ x :: post = (pre ++ x :: P2) ++ Q := by rw [hpq]; simp
   have hP : ∀ m ∈ pre ++ x :: P2, m < x * e := fun m hm => by
    rcases List.mem_append.1 hm with h | h
    ·have := hs.2.2 m h x (by simp); omega
    ·rcases List.mem_cons.1 h with h | h
     ·omega
     ·exact hP2 m h
   refine evp (by omega) ?_
   have hPl : (pre ++ x :: P2).length = pre.length + (P2.length + 1) := by simp
   rw [hD] at hS HWD hlen hl ⊢
   refine search_ev _ _ _ _ _ _ _ (pre ++ x :: P2) Q (x * e) rfl hP hQ (by omega) ?_ P2.length (pre.length + 1) (by omega)
   refine evs (fun k => by rw [spec_prLists.j3]) ?_
   have hcase : (∃ Q', Q = x * e :: Q') ∨ (∀ m ∈ Q, x * e < m) := by
    cases Q with
    | nil => exact Or.inr (by simp)
    | cons q Q' =>
     have h1 := hQ q (by simp)
     by_cases h2 : q = x * e
     ·subst h2; exact Or.inl ⟨Q', rfl⟩
     ·refine Or.inr (fun m hm => ?_)
      rcases List.mem_cons.1 hm with rfl | hm
      ·omega
      ·have h3 := (List.pairwise_append.1 hS.1).2.1
       have h4 := (List.pairwise_cons.1 h3).1 m hm
       omega
   rcases hcase with ⟨Q', rfl⟩ | hQ2
   ·have hnew := set_more hS (by simp)
    have HSUM := Aside0.mk (wadd hadd.symm (show told2 b x (e + 1) (x * e) < 9223372036854775808 by omega))
    have HSET : Aside0 ((wl (told2 b x e) ((pre ++ x :: P2) ++ x * e :: Q')).set ((pre ++ x :: P2).length : Int).toNat ((told2 b x (e + 1) (x * e) : Nat) : Int) = wl (told2 b x (e + 1)) ((pre ++ x :: P2) ++ x * e :: Q')) := by
     refine ⟨wl_set (told2 b x e) (told2 b x (e + 1)) (pre ++ x :: P2) Q' (x * e) (fun m hm => (told2_skip b x e m (fun h => by have := hP m hm; omega)).symm) (fun m hm => (told2_skip b x e m (fun h => by have := (List.pairwise_cons.1 (List.pairwise_append.1 hS.1).2.1).1 m hm; omega)).symm)⟩
    have hnext := ih (e + 1) pre (P2 ++ x * e :: Q') (by omega) (by omega) (by omega) (by
     have e3 : pre ++ x :: (P2 ++ x * e :: Q') = (pre ++ x :: P2) ++ x * e :: Q' := by simp
     rw [e3]; exact hnew)
    rw [show pre ++ x :: (P2 ++ x * e :: Q') = (pre ++ x :: P2) ++ x * e :: Q' by simp] at hnext
    rw [ic_rd]
    refine evp (by rw [ic_length]; simp; omega) (evp (by omega) (evs (fun k => by rw [spec_prLists.j4]) ?_))
    rw [HWD.out, rdw2, HSUM.out, HSET.out, ws e (by omega)]
    exact evp (by simp) (evp (by omega) (evp (by rw [wl_length]; simp; omega) (evp (by omega) (evp (by rw [wl_length]; simp; omega) hnext))))
   ·have hnew := set_new hS hx1.1 he (by omega) hpd hwx hP hQ2
    have hzero : told2 b x e (x * e) = 0 := by
     rcases Nat.eq_zero_or_pos (told2 b x e (x * e)) with h | h
     ·exact h
     ·exfalso
      have hin := (hS.2 (x * e)).2 ⟨by omega, hpd, h⟩
      rcases List.mem_append.1 hin with h4 | h4
      ·have := hP _ h4; omega
      ·have := hQ2 _ h4; omega
    have hlen2 := len_le hnew.1 (p := p) (fun m hm => by have := (hnew.2 m).1 hm; exact ⟨this.1, Nat.le_of_dvd (by omega) this.2.1⟩)
    have hl2 : ((pre ++ x :: P2) ++ x * e :: Q).length = ((pre ++ x :: P2) ++ Q).length + 1 := by simp; omega
    have hi1 := ins_eq (ic (pre ++ x :: P2)) (ic Q) ((x * e : Nat) : Int) (by rw [← icl_append, ic_length]; omega)
    have hi2 := ins_eq (wl (told2 b x e) (pre ++ x :: P2)) (wl (told2 b x e) Q) (ways b x : Int) (by rw [← wl_append, wl_length]; omega)
    rw [ic_length, ← icl_cons, ← icl_append, ← icl_append] at hi1
    rw [wl_length, ← wl_append] at hi2
    have hw2 : wl (told2 b x e) (pre ++ x :: P2) ++ (ways b x : Int) :: wl (told2 b x e) Q = wl (told2 b x (e + 1)) ((pre ++ x :: P2) ++ x * e :: Q) := by
     exact wl_ins (told2 b x e) (told2 b x (e + 1)) (pre ++ x :: P2) Q (x * e) (ways b x) (fun m hm => (told2_skip b x e m (fun h => by have := hP m hm; omega)).symm) (fun m hm => (told2_skip b x e m (fun h => by have := hQ2 m hm; omega)).symm) (by rw [hadd, hzero, Nat.zero_add])
    rw [hw2] at hi2
    have hnext := ih (e + 1) pre (P2 ++ x * e :: Q) (by omega) (by omega) (by omega) (by
     have e3 : pre ++ x :: (P2 ++ x * e :: Q) = (pre ++ x :: P2) ++ x * e :: Q := by simp
     rw [e3]; exact hnew)
    rw [show pre ++ x :: (P2 ++ x * e :: Q) = (pre ++ x :: P2) ++ x * e :: Q by simp] at hnext
    have hj4 : Ev (fun k => spec_prLists.j4 k (p : Int) (b : Int) (ic ((pre ++ x :: P2) ++ Q)) (wl (told2 b x e) ((pre ++ x :: P2) ++ Q)) (pre.length : Int) (e : Int) ((x * e : Nat) : Int) ((pre ++ x :: P2).length : Int) false) (ways b p : Int) := by
     refine evs (fun k => by rw [spec_prLists.j4]) ?_
     rw [HWD.out, ws e (by omega)]
     exact evn (by simp) (evc hi1 (evp (by omega) (evp (by rw [wl_length]; omega) (evc hi2 hnext))))
    cases hQc : Q with
    | nil =>
     rw [hQc] at hj4
     exact evn (by rw [ic_length]; simp) hj4
    | cons q Q' =>
     rw [hQc] at hj4 hQ2
     have hqne := hQ2 q (by simp)
     rw [ic_rd, show ((q : Int) == ((x * e : Nat) : Int)) = false from beq_eq_false_iff_ne.2 (by omega)]
     exact evp (by rw [ic_length]; simp; omega) (evp (by omega) hj4)
  ·obtain ⟨h1, h2⟩ := set_skip hS (fun h => hdv (Nat.mod_eq_zero_of_dvd h))
   have hnext := ih (e + 1) pre post (by omega) (by omega) (by omega) h2
   rw [wl_congr (fun m hm => h1 m (hmem m hm).2)] at hnext
   exact evn (by omega) hnext
theorem lists_all (b p : Nat) (hb : 2 ≤ b) (hb2 : b ≤ 16) (hp : 1 ≤ p) (hp2 : p ≤ 1000000000000) (t : Nat) : ∀ (x : Nat) (pre post : List Nat), p - x = t → SetOK b p x 2 (pre ++ x :: post) → Ev (fun k => spec_prLists.l1 k (p : Int) (b : Int) (ic (pre ++ x :: post)) (wl (told2 b x 2) (pre ++ x :: post)) (pre.length : Int) 2) (ways b p : Int) := by
 induction t using Nat.strongRecOn with
 | _ t ih =>
  intro x pre post ht hS
  refine turn_ev b p x hb hb2 hp hp2 (fun pre2 y post2 h2 hxy => ?_) (b - 2) 2 pre post rfl (by omega) hb hS
  have hy := (h2.2 y).1 (by simp)
  have hyp := Nat.le_of_dvd (by omega) hy.2.1
  exact ih (p - y) (by omega) y pre2 post2 rfl h2
theorem lists_ev (b p : Nat) (hb : 2 ≤ b) (hb2 : b ≤ 16) (hp : 1 ≤ p) (hp2 : p ≤ 1000000000000) : Ev (fun k => spec_prLists.f k (p : Int) (b : Int)) (ways b p : Int) := by
 have hS : SetOK b p 1 2 ([] ++ 1 :: []) := by
  refine ⟨by simp, fun m => ?_⟩
  constructor
  ·intro h
   have : m = 1 := by simpa using h
   subst this
   exact ⟨by omega, Nat.one_dvd p, by rw [told2_one]; omega⟩
  ·rintro ⟨h1, h2, h3⟩
   by_cases q : m = 1
   ·subst q; simp
   ·exfalso
    unfold told2 at h3
    rw [if_neg q] at h3
    obtain ⟨d, d1, d2, d3⟩ := sumTo_pos h3
    by_cases c : m % d = 0 ∧ (m / d < 1 ∨ m / d = 1 ∧ d < 2)
    ·have hd := Nat.dvd_of_mod_eq_zero c.1
     have hpos : 1 ≤ m / d := Nat.div_pos (Nat.le_of_dvd (by omega) hd) (by omega)
     omega
    ·rw [if_neg c] at d3; omega
 have h := lists_all b p hb hb2 hp hp2 (p - 1) 1 [] [] rfl hS
 refine evs (g := fun k => spec_prLists.f k (p : Int) (b : Int)) (f := fun k => spec_prLists.l1 k (p : Int) (b : Int) [1] [1] 0 2) (fun k => ?_) ?_
 ·show spec_prLists.l0 (k + 1) _ _ _ _ _ = _
  rw [spec_prLists.l0]
  exact if_pos (by simp)
 ·have e1 : wl (told2 b 1 2) ([] ++ 1 :: []) = [1] := by
   simp [wl, told2_one]
  rw [e1] at h
  exact h

theorem count_both (b p : Nat) (hb : 2 ≤ b) (hb2 : b ≤ 16) (hp2 : p ≤ 1000000000000) : ∃ r : Int × Bool, Ev (fun k => impl_CountWithProduct.f k (p : Int) (b : Int)) r ∧ Ev (fun k => spec_CountWithProduct.f k (p : Int) (b : Int)) r ∧ (r.2 = true → (0 < r.1 ↔ Smooth b p)) := by
 have j1 := (isn_yes b p hb hb2 hp2).2
 by_cases h2 : p < 2
 ·have i1 : impl_in.f (p : Int) 2 1000000000000 = some false := by rw [impl_in_eq, decide_eq_false (by omega)]
  refine ⟨(0, false), evc i1 (evn (by simp) (Ev.now _)), evc j1 (evp rfl ?_), fun h => by simp at h⟩
  rw [decide_eq_true (show (p : Int) < 2 by omega)]
  exact evs (fun k => by rw [spec_CountWithProduct.j0]) (evp rfl (Ev.now _))
 ·have i1 : impl_in.f (p : Int) 2 1000000000000 = some true := by rw [impl_in_eq, decide_eq_true (by omega)]
  have i2 : impl_isBase.f (b : Int) = some true := by rw [impl_isBase_eq, decide_eq_true (by omega)]
  have hs : Ev (fun k => spec_CountWithProduct.f k (p : Int) (b : Int)) ((ways b p : Int), true) := by
   refine evc j1 (evp rfl ?_)
   rw [decide_eq_false (show ¬ (p : Int) < 2 by omega)]
   refine evs (fun k => by rw [spec_CountWithProduct.j0]) (evn (by simp) ?_)
   by_cases h3 : p < 1000
   ·exact evp (by omega) (evb (pc_ev b hb2 p (by omega) hp2) (Ev.now _))
   ·exact evn (by omega) (evb (lists_ev b p hb hb2 (by omega) hp2) (Ev.now _))
  obtain ⟨s, hs1, hs2, _⟩ := smooth_ev b p hb2 (by omega) hp2
  have hpos : 0 < ways b p ↔ Smooth b p := ⟨ways_has p (by omega), fun ⟨k, hk⟩ => ways_pos_of p hk⟩
  refine ⟨((ways b p : Int), true), ?_, hs, fun _ => ?_⟩
  ·refine evc i1 (evp rfl (evc i2 (evp rfl (evb hs2 ?_))))
   cases s with
   | false =>
    have hz : ways b p = 0 := by
     rcases Nat.eq_zero_or_pos (ways b p) with h | h
     ·exact h
     ·exact absurd (hs1.2 (hpos.1 h)) (by simp)
    rw [hz]
    exact evn Bool.false_ne_true (Ev.now _)
   | true =>
    obtain ⟨M, _, _, hev⟩ := cw_ev b hb2 p (by omega) hp2 [] (Memo.nil _)
    exact evp rfl (evb hev (Ev.now _))
  ·simp only
   rw [← hpos]
   omega

def IsMin (S : Nat → Prop) (r : Nat) : Prop := (r = 0 ∧ ∀ m, ¬ S m) ∨ (1 ≤ r ∧ S r ∧ ∀ m, S m → r ≤ m)
theorem IsMin.uniq {S : Nat → Prop} {r t : Nat} (h : IsMin S r) (g : IsMin S t) : r = t := by
 rcases h with ⟨h1, h2⟩ | ⟨h1, h2, h3⟩
 ·rcases g with ⟨g1, _⟩ | ⟨_, g2, _⟩
  ·omega
  ·exact absurd g2 (h2 t)
 ·rcases g with ⟨_, g2⟩ | ⟨_, g2, g3⟩
  ·exact absurd h2 (g2 r)
  ·have := h3 t g2
   have := g3 r h2
   omega
theorem IsMin.congr {S T : Nat → Prop} {r : Nat} (h : IsMin S r) (e : ∀ m, S m ↔ T m) : IsMin T r := by
 rcases h with ⟨h1, h2⟩ | ⟨h1, h2, h3⟩
 ·exact Or.inl ⟨h1, fun m hm => h2 m ((e m).2 hm)⟩
 ·exact Or.inr ⟨h1, (e r).1 h2, fun m hm => h3 m ((e m).2 hm)⟩
def Ext (b n least m : Nat) : Prop := ∃ t : List Nat, t ≠ [] ∧ t.Pairwise (· ≤ ·) ∧ (∀ d ∈ t, least ≤ d ∧ d < b) ∧ m = val b n t
theorem Ext.split {b n least m : Nat} : Ext b n least m ↔ ∃ e, least ≤ e ∧ e < b ∧ (m = n * b + e ∨ Ext b (n * b + e) e m) := by
 constructor
 ·rintro ⟨t, h1, h2, h3, h4⟩
  cases t with
  | nil => exact absurd rfl h1
  | cons e t =>
   obtain ⟨a, c⟩ := List.pairwise_cons.1 h2
   have he := h3 e (by simp)
   refine ⟨e, he.1, he.2, ?_⟩
   cases t with
   | nil => exact Or.inl h4
   | cons f t => exact Or.inr ⟨f :: t, by simp, c, fun d hd => ⟨a d hd, (h3 d (by simp [List.mem_cons.1 hd])).2⟩, h4⟩
 ·rintro ⟨e, h1, h2, h3 | ⟨t, t1, t2, t3, t4⟩⟩
  ·exact ⟨[e], by simp, by simp, fun d hd => by rw [List.mem_singleton.1 hd]; exact ⟨h1, h2⟩, h3⟩
  ·refine ⟨e :: t, by simp, List.pairwise_cons.2 ⟨fun d hd => (t3 d hd).1, t2⟩, fun d hd => ?_, t4⟩
   rcases List.mem_cons.1 hd with rfl | hd
   ·exact ⟨h1, h2⟩
   ·have := t3 d hd
    exact ⟨by omega, this.2⟩
theorem Ext.ge {b n least m : Nat} (hb : 1 ≤ b) (h : Ext b n least m) : n ≤ m := by
 obtain ⟨t, _, _, _, rfl⟩ := h
 exact val_ge hb t n
def Look (b kk n least m : Nat) : Prop := Ext b n least m ∧ m ≤ 10000000 ∧ ppers b m = kk
def LookD (b kk n least d m : Nat) : Prop := (∃ e, least ≤ e ∧ e < d ∧ e < b ∧ (m = n * b + e ∨ Ext b (n * b + e) e m)) ∧ m ≤ 10000000 ∧ ppers b m = kk
theorem LookD.all {b kk n least m : Nat} : LookD b kk n least b m ↔ Look b kk n least m := by
 unfold LookD Look
 rw [Ext.split]
 constructor
 ·rintro ⟨⟨e, h1, _, h2, h3⟩, h4⟩; exact ⟨⟨e, h1, h2, h3⟩, h4⟩
 ·rintro ⟨⟨e, h1, h2, h3⟩, h4⟩; exact ⟨⟨e, h1, h2, h2, h3⟩, h4⟩
theorem LookD.start {b kk n least m : Nat} : ¬ LookD b kk n least least m := by
 rintro ⟨⟨e, h1, h2, _⟩, _⟩
 omega
theorem sub_ge {b n e m : Nat} (hb : 1 ≤ b) (h : m = n * b + e ∨ Ext b (n * b + e) e m) : n * b + e ≤ m := by
 rcases h with rfl | h
 ·exact Nat.le_refl _
 ·exact h.ge hb
theorem LookD.stop {b kk n least d r : Nat} (hb : 1 ≤ b) (h : IsMin (LookD b kk n least d) r) (hd : d ≤ b) (hx : 10000000 < n * b + d ∨ (1 ≤ r ∧ r ≤ n * b + d)) : IsMin (Look b kk n least) r := by
 rcases h with ⟨h1, h2⟩ | ⟨h1, h2, h3⟩
 ·refine Or.inl ⟨h1, fun m hm => ?_⟩
  rw [← LookD.all] at hm
  obtain ⟨⟨e, e1, e2, e3, e4⟩, m1, m2⟩ := hm
  rcases Nat.lt_or_ge e d with h | h
  ·exact h2 m ⟨⟨e, e1, h, e3, e4⟩, m1, m2⟩
  ·have := sub_ge hb e4
   omega
 ·refine Or.inr ⟨h1, ?_, fun m hm => ?_⟩
  ·obtain ⟨⟨e, e1, e2, e3, e4⟩, m1, m2⟩ := h2
   exact LookD.all.1 ⟨⟨e, e1, e3, e3, e4⟩, m1, m2⟩
  ·rw [← LookD.all] at hm
   obtain ⟨⟨e, e1, e2, e3, e4⟩, m1, m2⟩ := hm
   rcases Nat.lt_or_ge e d with h | h
   ·exact h3 m ⟨⟨e, e1, h, e3, e4⟩, m1, m2⟩
   ·have := sub_ge hb e4
    omega
theorem LookD.hit {b kk n least d r : Nat} (hb : 1 ≤ b) (h : IsMin (LookD b kk n least d) r) (hl : least ≤ d) (hd : d < b) (h1 : 1 ≤ n * b + d) (hm : n * b + d ≤ 10000000) (hk : ppers b (n * b + d) = kk) (hr : r = 0 ∨ n * b + d ≤ r) : IsMin (LookD b kk n least (d + 1)) (n * b + d) := by
 refine Or.inr ⟨h1, ⟨⟨d, hl, by omega, hd, Or.inl rfl⟩, hm, hk⟩, fun m hmm => ?_⟩
 obtain ⟨⟨e, e1, e2, e3, e4⟩, m1, m2⟩ := hmm
 rcases Nat.lt_or_ge e d with h5 | h5
 ·have hin : LookD b kk n least d m := ⟨⟨e, e1, h5, e3, e4⟩, m1, m2⟩
  rcases h with ⟨_, h7⟩ | ⟨h6, _, h8⟩
  ·exact absurd hin (h7 m)
  ·have := h8 m hin
   omega
 ·have h6 : e = d := by omega
  subst h6
  exact sub_ge hb e4
theorem LookD.deep {b kk n least d r s : Nat} (h : IsMin (LookD b kk n least d) r) (hl : least ≤ d) (hd : d < b) (hk : ppers b (n * b + d) ≠ kk) (hs : IsMin (Look b kk (n * b + d) d) s) : IsMin (LookD b kk n least (d + 1)) (if 1 ≤ s ∧ (r = 0 ∨ s < r) then s else r) := by
 have hsp : ∀ m, LookD b kk n least (d + 1) m ↔ LookD b kk n least d m ∨ Look b kk (n * b + d) d m := by
  intro m
  constructor
  ·rintro ⟨⟨e, e1, e2, e3, e4⟩, m1, m2⟩
   rcases Nat.lt_or_ge e d with h5 | h5
   ·exact Or.inl ⟨⟨e, e1, h5, e3, e4⟩, m1, m2⟩
   ·have h6 : e = d := by omega
    subst h6
    rcases e4 with rfl | e4
    ·exact absurd m2 hk
    ·exact Or.inr ⟨e4, m1, m2⟩
  ·rintro (⟨⟨e, e1, e2, e3, e4⟩, m1, m2⟩ | ⟨e4, m1, m2⟩)
   ·exact ⟨⟨e, e1, by omega, e3, e4⟩, m1, m2⟩
   ·exact ⟨⟨d, hl, by omega, hd, Or.inr e4⟩, m1, m2⟩
 refine IsMin.congr (S := fun m => LookD b kk n least d m ∨ Look b kk (n * b + d) d m) ?_ (fun m => (hsp m).symm)
 rcases h with ⟨h1, h2⟩ | ⟨h1, h2, h3⟩
 ·rcases hs with ⟨s1, s2⟩ | ⟨s1, s2, s3⟩
  ·rw [if_neg (by omega)]
   exact Or.inl ⟨h1, fun m hm => hm.elim (h2 m) (s2 m)⟩
  ·rw [if_pos (by omega)]
   exact Or.inr ⟨s1, Or.inr s2, fun m hm => hm.elim (fun h => absurd h (h2 m)) (s3 m)⟩
 ·rcases hs with ⟨s1, s2⟩ | ⟨s1, s2, s3⟩
  ·rw [if_neg (by omega)]
   exact Or.inr ⟨h1, Or.inl h2, fun m hm => hm.elim (h3 m) (fun h => absurd h (s2 m))⟩
  ·by_cases q : s < r
   ·rw [if_pos (by omega)]
    exact Or.inr ⟨s1, Or.inr s2, fun m hm => hm.elim (fun h => by have := h3 m h; omega) (s3 m)⟩
   ·rw [if_neg (by omega)]
    exact Or.inr ⟨h1, Or.inl h2, fun m hm => hm.elim (h3 m) (fun h => by have := s3 m h; omega)⟩
def alst (hi : Nat) : Nat → Nat → List (List Nat)
 | 0, _ => [[]]
 | r + 1, lo => (List.range' lo (hi + 1 - lo)).flatMap fun d => (alst hi r d).map (d :: ·)
theorem alst_mem (hi r : Nat) : ∀ (lo : Nat) (t : List Nat), t ∈ alst hi r lo ↔ t.length = r ∧ t.Pairwise (fun a b => a ≤ b) ∧ ∀ d ∈ t, lo ≤ d ∧ d ≤ hi := by
 induction r with
 | zero =>
  intro lo t
  simp only [alst, List.mem_singleton]
  constructor
  ·rintro rfl; simp
  ·rintro ⟨h, _⟩; exact List.eq_nil_of_length_eq_zero h
 | succ r ih =>
  intro lo t
  simp only [alst, List.mem_flatMap, List.mem_range'_1, List.mem_map]
  constructor
  ·rintro ⟨x, hx, s, hs, rfl⟩
   obtain ⟨h1, h2, h3⟩ := (ih x s).1 hs
   refine ⟨by simp [h1], List.pairwise_cons.2 ⟨fun a ha => (h3 a ha).1, h2⟩, fun d hd => ?_⟩
   rcases List.mem_cons.1 hd with rfl | hd
   ·omega
   ·have := h3 d hd; omega
  ·rintro ⟨h1, h2, h3⟩
   cases t with
   | nil => simp at h1
   | cons x s =>
    obtain ⟨h4, h5⟩ := List.pairwise_cons.1 h2
    have := h3 x (by simp)
    exact ⟨x, by omega, s, (ih x s).2 ⟨by simpa using h1, h5, fun d hd => ⟨h4 d hd, (h3 d (by simp [hd])).2⟩⟩, rfl⟩
theorem alst_lt (b hi r : Nat) (hb : hi < b) : ∀ lo, (alst hi r lo).Pairwise (fun s t => val b 0 s < val b 0 t) := by
 induction r with
 | zero => intro lo; simp [alst]
 | succ r ih =>
  intro lo
  have hl : (List.range' lo (hi + 1 - lo)).Pairwise (· < ·) := List.pairwise_lt_range'
  have hle : ∀ d ∈ List.range' lo (hi + 1 - lo), d ≤ hi := fun d hd => by have := List.mem_range'_1.1 hd; omega
  simp only [alst]
  generalize List.range' lo (hi + 1 - lo) = l at hl hle
  induction l with
  | nil => simp
  | cons x l ihl =>
   obtain ⟨h1, h2⟩ := List.pairwise_cons.1 hl
   rw [List.flatMap_cons, List.pairwise_append]
   refine ⟨?_, ihl h2 (fun d hd => hle d (by simp [hd])), fun s0 hs0 t0 ht0 => ?_⟩
   ·rw [List.pairwise_map]
    refine (List.Pairwise.and_mem.1 (ih x)).imp ?_
    rintro s t ⟨hs, ht, hlt⟩
    rw [val_cons, val_cons, ((alst_mem hi r x s).1 hs).1, ((alst_mem hi r x t).1 ht).1]
    omega
   ·obtain ⟨s, hs, rfl⟩ := List.mem_map.1 hs0
    obtain ⟨y, hy, ht1⟩ := List.mem_flatMap.1 ht0
    obtain ⟨t, ht, rfl⟩ := List.mem_map.1 ht1
    obtain ⟨s1, _, s3⟩ := (alst_mem hi r x s).1 hs
    obtain ⟨t1, _, _⟩ := (alst_mem hi r y t).1 ht
    have hxy := h1 y hy
    have hv := val_lt0 (b := b) s (fun d hd => by have := (s3 d hd).2; omega)
    rw [val_cons, val_cons, s1, t1]
    rw [s1] at hv
    have h5 : (x + 1) * b ^ r ≤ y * b ^ r := Nat.mul_le_mul_right _ hxy
    rw [Nat.add_mul, Nat.one_mul] at h5
    omega
def nst (b kk o : Nat) (t : List Nat) : Nat := if o = 0 then (if val b 0 t ≤ 10000000 then (if ppers b (val b 0 t) = kk then val b 0 t else o) else o) else o
theorem fold_stay (b kk : Nat) (L : List (List Nat)) : ∀ o, 1 ≤ o → L.foldl (nst b kk) o = o := by
 induction L with
 | nil => intro o _; rfl
 | cons t L ih =>
  intro o ho
  rw [List.foldl_cons, show nst b kk o t = o from if_neg (by omega)]
  exact ih o ho
theorem fold_min (b kk : Nat) (hk : 2 ≤ kk) (hb : 2 ≤ b) (L : List (List Nat)) : L.Pairwise (fun s t => val b 0 s < val b 0 t) → IsMin (fun m => (∃ t ∈ L, m = val b 0 t) ∧ m ≤ 10000000 ∧ ppers b m = kk) (L.foldl (nst b kk) 0) := by
 induction L with
 | nil => intro _; exact Or.inl ⟨rfl, fun m hm => by simp at hm⟩
 | cons t L ih =>
  intro h
  obtain ⟨h1, h2⟩ := List.pairwise_cons.1 h
  rw [List.foldl_cons]
  by_cases q : val b 0 t ≤ 10000000 ∧ ppers b (val b 0 t) = kk
  ·have hp : 1 ≤ val b 0 t := by
    rcases Nat.eq_zero_or_pos (val b 0 t) with h0 | h0
    ·rw [h0, ppers_small (by omega)] at q; omega
    ·exact h0
   rw [show nst b kk 0 t = val b 0 t from by unfold nst; rw [if_pos rfl, if_pos q.1, if_pos q.2], fold_stay b kk L _ hp]
   refine Or.inr ⟨hp, ⟨⟨t, by simp, rfl⟩, q⟩, fun m hm => ?_⟩
   obtain ⟨⟨s, hs, rfl⟩, _⟩ := hm
   rcases List.mem_cons.1 hs with rfl | hs
   ·exact Nat.le_refl _
   ·exact Nat.le_of_lt (h1 s hs)
  ·rw [show nst b kk 0 t = 0 from by
    unfold nst
    rw [if_pos rfl]
    by_cases q1 : val b 0 t ≤ 10000000
    ·rw [if_pos q1, if_neg (fun q2 => q ⟨q1, q2⟩)]
    ·rw [if_neg q1]]
   refine (ih h2).congr (fun m => ?_)
   constructor
   ·rintro ⟨⟨s, hs, e⟩, m1⟩; exact ⟨⟨s, by simp [hs], e⟩, m1⟩
   ·rintro ⟨⟨s, hs, e⟩, m1⟩
    rcases List.mem_cons.1 hs with rfl | hs
    ·subst e; exact absurd m1 q
    ·exact ⟨⟨s, hs, e⟩, m1⟩
def LookW (b kk w m : Nat) : Prop := (∃ t : List Nat, t ≠ [] ∧ t.length < w ∧ t.Pairwise (· ≤ ·) ∧ (∀ d ∈ t, 1 ≤ d ∧ d < b) ∧ m = val b 0 t) ∧ m ≤ 10000000 ∧ ppers b m = kk
theorem val_low {b : Nat} (t : List Nat) (h0 : t ≠ []) (h : ∀ d ∈ t, 1 ≤ d) : b ^ (t.length - 1) ≤ val b 0 t := by
 cases t with
 | nil => exact absurd rfl h0
 | cons d t =>
  rw [val_cons]
  have h1 := h d (by simp)
  have h2 : 1 * b ^ t.length ≤ d * b ^ t.length := Nat.mul_le_mul_right _ h1
  simp only [List.length_cons, Nat.add_sub_cancel]
  omega
theorem LookW.start {b kk m : Nat} (hb : 2 ≤ b) (hk : 2 ≤ kk) : ¬ LookW b kk 2 m := by
 rintro ⟨⟨t, h0, h1, h2, h3, rfl⟩, h4, h5⟩
 match t, h0, h1, h3 with
 | [d], _, _, h3 =>
  have := (h3 d (by simp)).2
  have e : val b 0 [d] = d := by simp [val]
  rw [e, ppers_small this] at h5
  omega
theorem LookW.step {b kk w m : Nat} (hw : 1 ≤ w) : LookW b kk (w + 1) m ↔ LookW b kk w m ∨ ((∃ t ∈ alst (b - 1) w 1, m = val b 0 t) ∧ m ≤ 10000000 ∧ ppers b m = kk) := by
 constructor
 ·rintro ⟨⟨t, h0, h1, h2, h3, h4⟩, h5⟩
  rcases Nat.lt_or_ge t.length w with h | h
  ·exact Or.inl ⟨⟨t, h0, h, h2, h3, h4⟩, h5⟩
  ·exact Or.inr ⟨⟨t, (alst_mem _ _ _ _).2 ⟨by omega, h2, fun d hd => by have := h3 d hd; omega⟩, h4⟩, h5⟩
 ·rintro (⟨⟨t, h0, h1, h2, h3, h4⟩, h5⟩ | ⟨⟨t, ht, h4⟩, h5⟩)
  ·exact ⟨⟨t, h0, by omega, h2, h3, h4⟩, h5⟩
  ·obtain ⟨a, c, d⟩ := (alst_mem _ _ _ _).1 ht
   exact ⟨⟨t, fun e => by rw [e] at a; simp at a; omega, by omega, c, fun x hx => by have := d x hx; omega, h4⟩, h5⟩
theorem LookW.stop {b kk w r : Nat} (hb : 2 ≤ b) (hw : 2 ≤ w) (h : IsMin (LookW b kk w) r) (hx : 10000000 < b ^ (w - 1) ∨ 1 ≤ r) : IsMin (Look b kk 0 1) r := by
 have hlong : ∀ m, Look b kk 0 1 m → LookW b kk w m ∨ b ^ (w - 1) ≤ m := by
  rintro m ⟨⟨t, h0, h1, h2, h3⟩, h4⟩
  rcases Nat.lt_or_ge t.length w with h5 | h5
  ·exact Or.inl ⟨⟨t, h0, h5, h1, h2, h3⟩, h4⟩
  ·refine Or.inr ?_
   have h6 := val_low (b := b) t h0 (fun d hd => (h2 d hd).1)
   have h7 : b ^ (w - 1) ≤ b ^ (t.length - 1) := Nat.pow_le_pow_right (by omega) (by omega)
   rw [h3]
   omega
 have hback : ∀ m, LookW b kk w m → Look b kk 0 1 m := by
  rintro m ⟨⟨t, h0, _, h1, h2, h3⟩, h4⟩
  exact ⟨⟨t, h0, h1, h2, h3⟩, h4⟩
 rcases h with ⟨h1, h2⟩ | ⟨h1, h2, h3⟩
 ·refine Or.inl ⟨h1, fun m hm => ?_⟩
  rcases hlong m hm with h | h
  ·exact h2 m h
  ·have := hm.2.1
   omega
 ·refine Or.inr ⟨h1, hback r h2, fun m hm => ?_⟩
  rcases hlong m hm with h | h
  ·exact h3 m h
  ·obtain ⟨⟨t, t0, t1, t2, t3, t4⟩, _⟩ := h2
   have hv := val_lt0 (b := b) t (fun d hd => (t3 d hd).2)
   have h7 : b ^ t.length ≤ b ^ (w - 1) := Nat.pow_le_pow_right (by omega) (by omega)
   omega

theorem leastS (b kk : Nat) (hb : 2 ≤ b) (hb2 : b ≤ 16) (hkk : kk ≤ 12) (hk : 2 ≤ kk) (t : Nat) : ∀ (n least : Nat), 10000000 - n = t → n ≤ 10000000 → 1 ≤ least → least ≤ b → ∃ r : Nat, r ≤ 10000000 ∧ IsMin (Look b kk n least) r ∧ Ev (fun k => spec_prLeast.f k (n : Int) (least : Int) (b : Int) (kk : Int) 10000000) (r : Int) := by
 induction t using Nat.strongRecOn with
 | _ t ih =>
  intro n least ht hn hl hlb
  have loop : ∀ E d best : Nat, E = b - d → least ≤ d → d ≤ b → best ≤ 10000000 → IsMin (LookD b kk n least d) best → ∃ r : Nat, r ≤ 10000000 ∧ IsMin (Look b kk n least) r ∧ Ev (fun k => spec_prLeast.l0 k (n : Int) (b : Int) (kk : Int) 10000000 (best : Int) (d : Int)) (r : Int) := by
   intro E
   induction E with
   | zero =>
    intro d best hE h1 h2 hbest hm
    have : d = b := by omega
    subst this
    refine ⟨best, hbest, hm.congr (fun m => LookD.all), evs (fun k => by rw [spec_prLeast.l0]) ?_⟩
    exact evn (by omega) (Ev.now _)
   | succ E ihE =>
    intro d best hE h1 h2 hbest hm
    have hnb : n * b ≤ 10000000 * 16 := Nat.mul_le_mul hn hb2
    have hnb2 : n * 2 ≤ n * b := Nat.mul_le_mul_left _ hb
    have hnx : wrap64 (wrap64 ((n : Int) * (b : Int)) + (d : Int)) = ((n * b + d : Nat) : Int) := by
     rw [wmul n b (by omega), w64 (by omega) (by omega)]
     omega
    have HNX := Aside0.mk hnx
    clear hnx
    obtain ⟨nx, hnxe⟩ : ∃ nx, nx = n * b + d := ⟨_, rfl⟩
    have stop : (10000000 < nx ∨ (1 ≤ best ∧ best ≤ nx)) → ∃ r : Nat, r = best ∧ IsMin (Look b kk n least) r := by
     intro h
     exact ⟨best, rfl, LookD.stop (by omega) hm h2 (by rw [← hnxe]; exact h)⟩
    by_cases c1 : 10000000 < nx
    ·obtain ⟨r, hr1, hr⟩ := stop (Or.inl c1)
     subst hr1
     refine ⟨r, hbest, hr, evs (fun k => by rw [spec_prLeast.l0]) ?_⟩
     rw [HNX.out, ← hnxe]
     exact evp (by omega) (evp (by omega) (evs (fun k => by rw [spec_prLeast.j1]) (evp rfl (Ev.now _))))
    ·by_cases c2 : 1 ≤ best ∧ best < nx
     ·obtain ⟨r, hr1, hr⟩ := stop (Or.inr ⟨c2.1, by omega⟩)
      subst hr1
      refine ⟨r, hbest, hr, evs (fun k => by rw [spec_prLeast.l0]) ?_⟩
      rw [HNX.out, ← hnxe]
      refine evp (by omega) (evn (by omega) (evp (by omega) (evs (fun k => by rw [spec_prLeast.j1]) ?_)))
      exact evp (decide_eq_true (by omega)) (Ev.now _)
     ·clear stop
      have key : ∃ r : Nat, r ≤ 10000000 ∧ IsMin (Look b kk n least) r ∧ Ev (fun k => spec_prLeast.j1 k (n : Int) (b : Int) (kk : Int) 10000000 (best : Int) (d : Int) (nx : Int) false) (r : Int) := by
       by_cases hp : ppers b nx = kk
       ·have hm2 := LookD.hit (by omega) hm h1 (show d < b by omega) (by omega) (by omega) (by rw [← hnxe]; exact hp) (by omega)
        rw [← hnxe] at hm2
        obtain ⟨r, r1, r2, r3⟩ := ihE (d + 1) nx (by omega) (by omega) (by omega) (by omega) hm2
        refine ⟨r, r1, r2, evs (fun k => by rw [spec_prLeast.j1]) ?_⟩
        rw [ws d (by omega)]
        refine evn (by simp) (evb (spec_prRun_ev b nx hb (by omega)) ?_)
        rw [ppers_eq b nx hb (by omega)]
        exact evp (by omega) r3
       ·obtain ⟨s, s1, s2, s3⟩ := ih (10000000 - nx) (by omega) nx d rfl (by omega) (by omega) (by omega)
        have hm2 := LookD.deep hm h1 (by omega) (by rw [← hnxe]; exact hp) (by rw [← hnxe]; exact s2)
        obtain ⟨r, r1, r2, r3⟩ := ihE (d + 1) (if 1 ≤ s ∧ (best = 0 ∨ s < best) then s else best) (by omega) (by omega) (by omega) (by split <;> omega) hm2
        refine ⟨r, r1, r2, evs (fun k => by rw [spec_prLeast.j1]) ?_⟩
        rw [ws d (by omega)]
        refine evn (by simp) (evb (spec_prRun_ev b nx hb (by omega)) ?_)
        rw [ppers_eq b nx hb (by omega)]
        refine evn (by omega) (evb s3 ?_)
        by_cases q1 : 1 ≤ s
        ·refine evp (by omega) ?_
         by_cases q2 : best = 0
         ·rw [if_pos ⟨q1, Or.inl q2⟩] at r3
          exact evp (by omega) r3
         ·refine evn (by omega) ?_
          by_cases q3 : s < best
          ·rw [if_pos ⟨q1, Or.inr q3⟩] at r3
           exact evp (by omega) r3
          ·rw [if_neg (by omega)] at r3
           exact evn (by omega) r3
        ·rw [if_neg (by omega)] at r3
         exact evn (by omega) r3
      obtain ⟨r, r1, r2, r3⟩ := key
      refine ⟨r, r1, r2, evs (fun k => by rw [spec_prLeast.l0]) ?_⟩
      rw [HNX.out, ← hnxe]
      refine evp (by omega) (evn (by omega) ?_)
      by_cases c3 : 1 ≤ best
      ·refine evp (by omega) ?_
       rw [decide_eq_false (show ¬ ((nx : Int) > (best : Int)) by omega)]
       exact r3
      ·exact evn (by omega) r3
  obtain ⟨r, r1, r2, r3⟩ := loop (b - least) least 0 rfl (Nat.le_refl _) hlb (by omega) (Or.inl ⟨rfl, fun m => LookD.start⟩)
  refine ⟨r, r1, r2, evs (fun k => by rw [spec_prLeast.f]) ?_⟩
  exact r3
theorem st_ev (b kk : Nat) (hb : 2 ≤ b) (hb2 : b ≤ 16) (t : List Nat) (ht : ∀ d ∈ t, d < b) (hl : t.length ≤ 1000) (o : Nat) : Ev (fun k => impl_LeastPersistent.st (b : Int) (kk : Int) k (ic t) (o : Int)) ((nst b kk o t : Nat) : Int) := by
 unfold impl_LeastPersistent.st nst
 refine evb (impl_value_ev b hb hb2 t ht (by omega)) ?_
 by_cases h0 : o = 0
 ·rw [if_pos h0]
  refine evp (by omega) ?_
  by_cases h1 : val b 0 t ≤ 10000000
  ·rw [if_pos h1, if_pos (show val b 0 t ≤ 1000000000000 by omega)]
   refine evp (by omega) (evb (impl_down_ev b (val b 0 t) hb (by omega)) ?_)
   rw [ppers_eq b (val b 0 t) hb (by omega)]
   by_cases h2 : ppers b (val b 0 t) = kk
   ·rw [if_pos h2]
    exact evp (by omega) (Ev.now _)
   ·rw [if_neg h2]
    exact evn (by omega) (Ev.now _)
  ·rw [if_neg h1]
   refine evn ?_ (Ev.now _)
   by_cases h3 : val b 0 t ≤ 1000000000000
   ·rw [if_pos h3]; omega
   ·rw [if_neg h3]; omega
 ·rw [if_neg h0]
  exact evn (by omega) (Ev.now _)
theorem onP_ev (b kk n : Nat) (hb : 2 ≤ b) (hb2 : b ≤ 16) (hn : n ≤ 100) (r : Nat) : ∀ (pre : List Nat) (lo o : Nat), pre.length + r = n → 1 ≤ lo → lo ≤ b - 1 → (∀ d ∈ pre, d < b) →
  Ev (fun k => impl_LeastPersistent.on (b : Int) (kk : Int) (n : Int) ((b - 1 : Nat) : Int) k false (ic pre) (lo : Int) (o : Int)) ((((alst (b - 1) r lo).map (pre ++ ·)).foldl (nst b kk) o : Nat) : Int) := by
 induction r with
 | zero =>
  intro pre lo o h _ _ hd
  refine evs (fun k => by rw [impl_LeastPersistent.on]) (evp (by rw [ic_length]; omega) ?_)
  have h1 := st_ev b kk hb hb2 pre hd (by omega) o
  simpa [alst] using h1
 | succ r ih =>
  have inner : ∀ (j d : Nat) (pre : List Nat) (o : Nat), pre.length + (r + 1) = n → 1 ≤ d → d + j = b → (∀ x ∈ pre, x < b) →
    Ev (fun k => impl_LeastPersistent.on (b : Int) (kk : Int) (n : Int) ((b - 1 : Nat) : Int) k true (ic pre) (d : Int) (o : Int)) (((((List.range' d j).flatMap fun y => (alst (b - 1) r y).map (y :: ·)).map (pre ++ ·)).foldl (nst b kk) o : Nat) : Int) := by
   intro j
   induction j with
   | zero =>
    intro d pre o _ _ h _
    refine evs (fun k => by rw [impl_LeastPersistent.on]) ?_
    exact evn (by omega) (evr (by simp))
   | succ j ihj =>
    intro d pre o hp h1 h hd
    have h2 := ih (pre ++ [d]) d o (by simp; omega) h1 (by omega) (fun x hx => by
     rcases List.mem_append.1 hx with h3 | h3
     ·exact hd x h3
     ·rw [List.mem_singleton.1 h3]; omega)
    have e1 : ic (pre ++ [d]) = ic pre ++ [(d : Int)] := (ic_snoc pre d).symm
    rw [e1] at h2
    have e2 : (alst (b - 1) r d).map ((pre ++ [d]) ++ ·) = ((alst (b - 1) r d).map (d :: ·)).map (pre ++ ·) := by
     rw [List.map_map]
     refine List.map_congr_left (fun t _ => ?_)
     simp
    rw [e2] at h2
    have h3 := ihj (d + 1) pre ((((alst (b - 1) r d).map (d :: ·)).map (pre ++ ·)).foldl (nst b kk) o) hp (by omega) (by omega) hd
    rw [List.range'_succ, List.flatMap_cons, List.map_append, List.foldl_append]
    refine evs (fun k => by rw [impl_LeastPersistent.on]) ?_
    rw [ws d (by omega)]
    exact evp (by omega) (evp (by rw [ic_length]; omega) (evb h2 h3))
  intro pre lo o h h1 h2 hd
  refine evs (fun k => by rw [impl_LeastPersistent.on]) (evn (by rw [ic_length]; omega) ?_)
  have h3 := inner (b - lo) lo pre o h h1 (by omega) hd
  simp only [alst]
  rw [show b - 1 + 1 - lo = b - lo by omega]
  exact h3
theorem toPow_loop (x p : Nat) (h : x ^ p ≤ 1000000000000) (hx : 1 ≤ x) (hp : p ≤ 1000) (e : Nat) : ∀ i : Nat, i + e = p → Ev (fun k => impl_toPower.l0 k (x : Int) ((x ^ i : Nat) : Int) (p : Int) (i : Int)) ((x ^ p : Nat) : Int) := by
 induction e with
 | zero =>
  intro i hi
  have : i = p := by omega
  subst this
  refine evs (fun k => by rw [impl_toPower.l0]) ?_
  exact evn (by omega) (Ev.now _)
 | succ e ih =>
  intro i hi
  have h1 : x ^ (i + 1) ≤ x ^ p := Nat.pow_le_pow_right hx (by omega)
  refine evs (fun k => by rw [impl_toPower.l0]) (evp (by omega) ?_)
  have h2 : x ^ i * x ≤ 1000000000000 := Nat.le_trans h1 h
  rw [wmul (x ^ i) x (by omega), ws i (by omega), ← Nat.pow_succ]
  exact ih (i + 1) (by omega)
theorem toPow_ev (x p : Nat) (h : x ^ p ≤ 1000000000000) (hx : 1 ≤ x) (hp : p ≤ 1000) : Ev (fun k => impl_toPower.f k (x : Int) (p : Int)) ((x ^ p : Nat) : Int) := toPow_loop x p h hx hp p 0 (by omega)
theorem pow_small {b w : Nat} (hb : 2 ≤ b) (hb2 : b ≤ 16) (h : w = 0 ∨ b ^ (w - 1) ≤ 10000000) : w ≤ 24 ∧ b ^ w ≤ 160000000 := by
 rcases h with h | h
 ·subst h
  exact ⟨by omega, by rw [Nat.pow_zero]; omega⟩
 ·rcases Nat.eq_zero_or_pos w with h0 | h0
  ·subst h0; exact ⟨by omega, by rw [Nat.pow_zero]; omega⟩
  ·obtain ⟨v, rfl⟩ : ∃ v, w = v + 1 := ⟨w - 1, by omega⟩
   rw [Nat.add_sub_cancel] at h
   refine ⟨?_, ?_⟩
   ·rcases Nat.lt_or_ge 23 v with h1 | h1
    ·exfalso
     have h2 : 2 ^ 24 ≤ b ^ v := Nat.le_trans (Nat.pow_le_pow_right (by omega) h1) (Nat.pow_le_pow_left hb v)
     have h3 : (2 : Nat) ^ 24 = 16777216 := by decide
     omega
    ·omega
   ·rw [Nat.pow_succ]
    have := Nat.mul_le_mul h hb2
    omega
theorem leastI (b kk : Nat) (hb : 2 ≤ b) (hb2 : b ≤ 16) (hk : 2 ≤ kk) (E : Nat) : ∀ (w o : Nat), w + E = 26 → 2 ≤ w → b ^ (w - 2) ≤ 10000000 → IsMin (LookW b kk w) o → ∃ r : Nat, IsMin (Look b kk 0 1) r ∧ Ev (fun k => impl_LeastPersistent.lp (b : Int) (kk : Int) k (w : Int) (o : Int)) (r : Int) := by
 induction E with
 | zero =>
  intro w o hE hw hp hm
  have := (pow_small hb hb2 (w := w - 1) (Or.inr (by rw [show w - 1 - 1 = w - 2 by omega]; exact hp))).1
  omega
 | succ E ih =>
  intro w o hE hw hp hm
  have hpw := (pow_small hb hb2 (w := w - 1) (Or.inr (by rw [show w - 1 - 1 = w - 2 by omega]; exact hp))).2
  by_cases h0 : o = 0
  ·subst h0
   have hw1 : wrap64 ((w : Int) - 1) = ((w - 1 : Nat) : Int) := wb w (by omega) (by omega)
   have HW1 := Aside0.mk hw1
   clear hw1
   have htp := toPow_ev b (w - 1) (by omega) (by omega) (by omega)
   by_cases h1 : b ^ (w - 1) ≤ 10000000
   ·have hon := onP_ev b kk w hb hb2 (by omega) w [] 1 0 (by simp) (by omega) (by omega) (by simp)
    have e1 : (alst (b - 1) w 1).map ([] ++ ·) = alst (b - 1) w 1 := by simp
    rw [e1] at hon
    have hmin := fold_min b kk hk hb (alst (b - 1) w 1) (alst_lt b (b - 1) w (by omega) 1)
    generalize (alst (b - 1) w 1).foldl (nst b kk) 0 = o2 at hon hmin
    have hm2 : IsMin (LookW b kk (w + 1)) o2 := by
     refine hmin.congr (fun m => ?_)
     rw [LookW.step (by omega)]
     rcases hm with ⟨_, h⟩ | ⟨h, _⟩
     ·exact ⟨fun a => Or.inr a, fun a => a.elim (fun c => absurd c (h m)) id⟩
     ·omega
    obtain ⟨r, r1, r2⟩ := ih (w + 1) o2 (by omega) (by omega) (by rw [show w + 1 - 2 = w - 1 by omega]; exact h1) hm2
    refine ⟨r, r1, evs (fun k => by rw [impl_LeastPersistent.lp]) ?_⟩
    rw [HW1.out, wb b (by omega) (by omega), ws w (by omega)]
    refine evp rfl (evb htp (evp (by omega) (evb hon r2)))
   ·refine ⟨0, LookW.stop hb hw hm (Or.inl (by omega)), evs (fun k => by rw [impl_LeastPersistent.lp]) ?_⟩
    rw [HW1.out]
    exact evp rfl (evb htp (evn (by omega) (Ev.now _)))
  ·refine ⟨o, LookW.stop hb hw hm (Or.inr (by omega)), evs (fun k => by rw [impl_LeastPersistent.lp]) ?_⟩
   exact evn (by omega) (Ev.now _)
theorem dgl_base (b : Nat) (hb : 2 ≤ b) : ppers b b = 1 := by
 have h : dgl b b = [1, 0] := by
  have h3 := dgl_of_val hb [1, 0] (by simp) (by intro d hd; simp at hd; omega) (by simp [val])
  have e : val b 0 [1, 0] = b := by simp [val]
  rwa [e] at h3
 rw [ppers_big hb (Nat.le_refl b)]
 unfold dmul
 rw [h]
 simp only [lmul]
 rw [Nat.mul_comm, Nat.mul_one, Nat.zero_mul, ppers_small (by omega)]
theorem lp_both (b kk : Int) : ∃ r : Int × Bool, Ev (fun k => impl_LeastPersistent.f k kk b) r ∧ Ev (fun k => spec_LeastPersistent.f k kk b) r ∧
  (r.2 = true → ∃ (b' m : Nat), b = b' ∧ 2 ≤ b' ∧ b' ≤ 16 ∧ r.1 = m ∧ m ≤ 1000000000000 ∧ (ppers b' m : Int) = kk) := by
 by_cases hk : 0 ≤ kk ∧ kk ≤ 12
 ·by_cases hb : 2 ≤ b ∧ b ≤ 16
  ·obtain ⟨k, rfl⟩ := natOf (a := kk) (by omega)
   obtain ⟨b, rfl⟩ := natOf (a := b) (by omega)
   have i1 : impl_in.f (k : Int) 0 12 = some true := by rw [impl_in_eq, decide_eq_true (by omega)]
   have i2 : impl_isBase.f (b : Int) = some true := by rw [impl_isBase_eq, decide_eq_true (by omega)]
   have j1 : spec_l1In.f (k : Int) 0 12 = some true := by rw [spec_l1In_eq, decide_eq_true (by omega)]
   have j2 : spec_dgBase.f (b : Int) = some true := by rw [spec_dgBase_eq, decide_eq_true (by omega)]
   have spre : ∀ r : Int × Bool, Ev (fun i => spec_LeastPersistent.j0 i (k : Int) (b : Int) (!true)) r → Ev (fun i => spec_LeastPersistent.f i (k : Int) (b : Int)) r := fun r h => evc j2 (evp rfl (evc j1 h))
   by_cases h2 : k < 2
   ·have hv : wrap64 ((k : Int) * (b : Int)) = ((k * b : Nat) : Int) := wmul k b (by have := Nat.mul_le_mul (show k ≤ 2 by omega) (show b ≤ 16 by omega); omega)
    refine ⟨(((k * b : Nat) : Int), true), evc i1 (evp rfl (evc i2 (evp rfl (evp (by omega) (evr (by rw [hv])))))), spre _ (evs (fun i => by rw [spec_LeastPersistent.j0]) (evn (by simp) ?_)), fun _ => ?_⟩
    ·clear hv
     by_cases h0 : k = 0
     ·subst h0
      refine evp rfl (evr ?_)
      rw [Nat.zero_mul]; rfl
     ·have : k = 1 := by omega
      subst this
      refine evn (by omega) (evp rfl (evr ?_))
      rw [Nat.one_mul]
    ·clear hv
     refine ⟨b, k * b, rfl, by omega, by omega, rfl, by have := Nat.mul_le_mul (show k ≤ 2 by omega) (show b ≤ 16 by omega); omega, ?_⟩
     by_cases h0 : k = 0
     ·subst h0
      rw [Nat.zero_mul, ppers_small (by omega)]
     ·have : k = 1 := by omega
      subst this
      rw [Nat.one_mul, dgl_base b (by omega)]
   ·obtain ⟨r, r1, r2, r3⟩ := leastS b k (by omega) (by omega) (by omega) (by omega) 10000000 0 1 rfl (by omega) (by omega) (by omega)
    obtain ⟨s, s1, s2⟩ := leastI b k (by omega) (by omega) (by omega) 24 2 0 (by omega) (by omega) (by rw [show 2 - 2 = 0 by omega, Nat.pow_zero]; omega) (Or.inl ⟨rfl, fun m => LookW.start (by omega) (by omega)⟩)
    have hrs := r2.uniq s1
    subst hrs
    refine ⟨((r : Int), decide ((r : Int) > 0)), evc i1 (evp rfl (evc i2 (evp rfl (evn (by omega) (evb s2 (Ev.now _)))))), spre _ (evs (fun i => by rw [spec_LeastPersistent.j0]) ?_), fun h => ?_⟩
    ·exact evn (by simp) (evn (by omega) (evn (by omega) (evb r3 (Ev.now _))))
    have hpos : (r : Int) > 0 := of_decide_eq_true h
    rcases r2 with ⟨h3, _⟩ | ⟨_, h4, _⟩
    ·omega
    ·exact ⟨b, r, rfl, by omega, by omega, rfl, by omega, by rw [h4.2.2]⟩
  ·have i1 : impl_in.f kk 0 12 = some true := by rw [impl_in_eq, decide_eq_true (by omega)]
   have i2 : impl_isBase.f b = some false := by rw [impl_isBase_eq, decide_eq_false (by omega)]
   have j2 : spec_dgBase.f b = some false := by rw [spec_dgBase_eq, decide_eq_false (by omega)]
   exact ⟨(0, false), evc i1 (evp rfl (evc i2 (evn (by simp) (Ev.now _)))), evc j2 (evn (by simp) (evs (fun i => by rw [spec_LeastPersistent.j0]) (evp rfl (Ev.now _)))), fun h => by simp at h⟩
 ·have i1 : impl_in.f kk 0 12 = some false := by rw [impl_in_eq, decide_eq_false (by omega)]
  refine ⟨(0, false), evc i1 (evn (by simp) (Ev.now _)), ?_, fun h => by simp at h⟩
  by_cases hb : 2 ≤ b ∧ b ≤ 16
  ·have j1 : spec_l1In.f kk 0 12 = some false := by rw [spec_l1In_eq, decide_eq_false (by omega)]
   have j2 : spec_dgBase.f b = some true := by rw [spec_dgBase_eq, decide_eq_true (by omega)]
   refine evc j2 (evp rfl (evc j1 (evs (fun i => by rw [spec_LeastPersistent.j0]) ?_)))
   exact evp (by simp) (Ev.now _)
  ·have j2 : spec_dgBase.f b = some false := by rw [spec_dgBase_eq, decide_eq_false (by omega)]
   exact evc j2 (evn (by simp) (evs (fun i => by rw [spec_LeastPersistent.j0]) (evp rfl (Ev.now _))))

theorem low_byte (x : Int) : 0 ≤ Go.bits .and .u64 ((IntKind.u64.wrap x) / 1099511627776) 255 ∧ Go.bits .and .u64 ((IntKind.u64.wrap x) / 1099511627776) 255 ≤ 255 := by
 have h0 : 0 ≤ IntKind.u64.wrap x ∧ IntKind.u64.wrap x < 18446744073709551616 := by rw [IntKind.wrap_u64]; omega
 obtain ⟨y, hy⟩ := Int.eq_ofNat_of_zero_le (show 0 ≤ IntKind.u64.wrap x / 1099511627776 by omega)
 rw [hy]
 have h1 := bits_and_u64_nat y 255 (by omega) (by omega)
 have e : y &&& 255 = y % 256 := Nat.and_two_pow_sub_one_eq_mod y 8
 rw [e] at h1
 rw [show ((255 : Int)) = ((255 : Nat) : Int) from rfl, h1]
 omega
theorem next_ok (l : List Int) (hl : Bs l) (p s : Int) (h0 : 0 ≤ p) (h1 : p ≤ 1000000000000) :
  ∃ v s' : Int, spec_l1Cur_next.f l p s = some (v, p + 1, s') ∧ 0 ≤ v ∧ v ≤ 255 := by
 unfold spec_l1Cur_next.f
 rw [w64o (x := p + 1)]
 by_cases hp : p < (l.length : Int)
 ·have hm := hl _ (rd_mem l p h0 hp)
  rw [if_pos hp, if_pos h0]
  by_cases hq : p + 1 ≤ (l.length : Int)
  ·rw [if_pos hq]
   refine ⟨_, _, rfl, ?_⟩
   rw [w64 (by omega) (by omega)]
   exact hm
  ·omega
 ·rw [if_neg hp]
  by_cases hq : p + 1 ≤ (l.length : Int)
  ·omega
  ·rw [if_neg hq]
   refine ⟨_, _, rfl, ?_⟩
   have h := low_byte (IntKind.u64.wrap (IntKind.u64.wrap (s * 6364136223846793005)) + 1442695040888963407)
   rw [w64 (by omega) (by omega)]
   exact h
theorem pick_ok (l : List Int) (hl : Bs l) (p s n : Int) (h0 : 0 ≤ p) (h1 : p ≤ 999999999990) (hn : n ≤ 1000000) :
  ∃ v p' s' : Int, spec_l1Cur_pick.f l p s n = some (v, p', s') ∧ 0 ≤ v ∧ v ≤ 1000000 ∧ (v = 0 ∨ v < n) ∧ p ≤ p' ∧ p' ≤ p + 2 := by
 unfold spec_l1Cur_pick.f
 by_cases h : n ≤ 1
 ·rw [if_pos h]
  exact ⟨0, p, s, rfl, by omega, by omega, by omega, by omega, by omega⟩
 ·rw [if_neg h]
  obtain ⟨v, s1, e1, h2, h3⟩ := next_ok l hl p s h0 (by omega)
  rw [e1]
  simp only [Option.bind_some]
  by_cases h4 : n > 200
  ·rw [if_pos h4]
   obtain ⟨v2, s2, e2, h5, h6⟩ := next_ok l hl (p + 1) s1 (by omega) (by omega)
   rw [e2]
   simp only [Option.bind_some]
   rw [if_neg (by omega), w64o (x := v * 256), w64 (by omega) (by omega)]
   have h7 := Int.tmod_nonneg n (show 0 ≤ v * 256 + v2 by omega)
   have h8 := Int.tmod_lt_of_pos (v * 256 + v2) (show 0 < n by omega)
   exact ⟨_, _, _, rfl, h7, by omega, Or.inr h8, by omega, by omega⟩
  ·rw [if_neg h4, if_neg (by omega)]
   have h7 := Int.tmod_nonneg n (show 0 ≤ v by omega)
   have h8 := Int.tmod_lt_of_pos v (show 0 < n by omega)
   exact ⟨_, _, _, rfl, h7, by omega, Or.inr h8, by omega, by omega⟩
theorem among_ok (l : List Int) (hl : Bs l) (p s : Int) (m : List Int) (hm : m ≠ []) (hm2 : m.length ≤ 1000000) (h0 : 0 ≤ p) (h1 : p ≤ 999999999990) :
  ∃ v p' s' : Int, spec_l1Cur_among.f l p s m = some (v, p', s') ∧ v ∈ m ∧ p ≤ p' ∧ p' ≤ p + 2 := by
 unfold spec_l1Cur_among.f
 have hpos := List.length_pos_iff.2 hm
 obtain ⟨v, p', s', e1, h2, h3, h4, h5, h6⟩ := pick_ok l hl p s m.length h0 h1 (by omega)
 rw [e1]
 simp only [Option.bind_some]
 rw [if_pos h2, if_pos (by omega)]
 exact ⟨_, _, _, rfl, rd_mem m v h2 (by omega), h5, h6⟩

theorem base_ok (l : List Int) (hl : Bs l) (p s : Int) (h0 : 0 ≤ p) (h1 : p ≤ 999999999990) : ∃ v p' s' : Int, spec_l1Cur_base.f l p s = some (v, p', s') ∧ p ≤ p' ∧ p' ≤ p + 2 := by
 unfold spec_l1Cur_base.f
 obtain ⟨v, p', s', e, _, h2, h3⟩ := among_ok l hl p s [10, 10, 10, 2, 3, 5, 7, 16, 12, 10, 10, 16, 1, 17, 0] (by simp) (by simp) h0 h1
 rw [e]
 exact ⟨_, _, _, rfl, h2, h3⟩

theorem one_ok (l : List Int) (hl : Bs l) (p s n : Int) (h0 : 0 ≤ p) (h1 : p ≤ 999999999990) (hn : n ≤ 1000000) : ∃ (v : Bool) (p' s' : Int), spec_l1Cur_one.f l p s n = some (v, p', s') ∧ p ≤ p' ∧ p' ≤ p + 2 := by
 obtain ⟨v1, p1, s1, e1, a1, b1, c1, d1, f1⟩ := pick_ok l hl p s n h0 h1 hn
 unfold spec_l1Cur_one.f
 rw [e1]
 exact ⟨_, _, _, rfl, d1, f1⟩
theorem sureNumber_loop (l : List Int) (hl : Bs l) (d : Nat) : ∀ x p s : Int, 0 ≤ p → p + 2 * (d : Int) ≤ 100000000 → ∃ v p' s' : Int, Ev (fun k => spec_l1Cur_sureNumber.l0 k x (d : Int) l p s) (v, p', s') ∧ p ≤ p' ∧ p' ≤ p + 2 * (d : Int) := by
 induction d with
 | zero =>
  intro x p s h0 h1
  exact ⟨x, p, s, evs (fun k => by rw [spec_l1Cur_sureNumber.l0]) (evn (by omega) (Ev.now _)), by omega, by omega⟩
 | succ d ih =>
  intro x p s h0 h1
  obtain ⟨v, p1, s1, e1, _, _, _, h2, h3⟩ := pick_ok l hl p s 10 h0 (by omega) (by omega)
  obtain ⟨v', p2, s2, e2, h4, h5⟩ := ih (wrap64 (wrap64 (x * 10) + v)) p1 s1 (by omega) (by omega)
  refine ⟨v', p2, s2, evs (fun k => by rw [spec_l1Cur_sureNumber.l0]) (evp (by omega) ?_), by omega, by omega⟩
  simp only [e1, Option.bind_some]
  rw [w64 (x := (((d + 1 : Nat)) : Int) - 1) (by omega) (by omega), show (((d + 1 : Nat)) : Int) - 1 = (d : Int) by omega]
  exact e2
theorem sureNumber_ok (l : List Int) (hl : Bs l) (p s : Int) (h0 : 0 ≤ p) (h1 : p ≤ 90000000) : ∃ v p' s' : Int, Ev (fun k => spec_l1Cur_sureNumber.f k l p s) (v, p', s') ∧ p ≤ p' ∧ p' ≤ p + 30 := by
 obtain ⟨v1, p1, s1, e1, a1, b1, c1, d1, f1⟩ := pick_ok l hl p s 8 (by omega) (by omega) (by omega)
 simp only [spec_l1Cur_sureNumber.f, e1, Option.bind_some]
 by_cases h0 : v1 = 0
 ·obtain ⟨v2, p2, s2, e2, a2, b2, c2, d2, f2⟩ := pick_ok l hl p1 s1 256 (by omega) (by omega) (by omega)
  refine ⟨v2, p2, s2, evp h0 ?_, by omega, by omega⟩
  simp only [e2, Option.bind_some]
  exact Ev.now _
 ·by_cases h1 : v1 = 1
  ·obtain ⟨v, p2, s2, e2, _, h2, h3⟩ := among_ok l hl p1 s1 [0, 1, 9, 10, 99, 100, 153, 370, 1000, 6174, 9999, 999999999999, 1000000000000] (by simp) (by simp) (by omega) (by omega)
   refine ⟨v, p2, s2, evn h0 (evp h1 ?_), by omega, by omega⟩
   simp only [e2, Option.bind_some]
   exact Ev.now _
  ·by_cases h2 : v1 = 2
   ·obtain ⟨v2, p2, s2, e2, a2, b2, c2, d2, f2⟩ := pick_ok l hl p1 s1 256 (by omega) (by omega) (by omega)
    obtain ⟨v3, p3, s3, e3, a3, b3, c3, d3, f3⟩ := pick_ok l hl p2 s2 256 (by omega) (by omega) (by omega)
    refine ⟨wrap64 (v2 * v3), p3, s3, evn h0 (evn h1 (evp h2 ?_)), by omega, by omega⟩
    simp only [e2, e3, Option.bind_some]
    exact Ev.now _
   ·obtain ⟨v2, p2, s2, e2, a2, b2, c2, d2, f2⟩ := pick_ok l hl p1 s1 11 (by omega) (by omega) (by omega)
    obtain ⟨d, rfl⟩ := natOf (a := v2) a2
    obtain ⟨v3, p3, s3, e3, h4, h5⟩ := sureNumber_loop l hl (1 + d) 0 p2 s2 (by omega) (by omega)
    refine ⟨v3, p3, s3, evn h0 (evn h1 (evn h2 ?_)), by omega, by omega⟩
    simp only [e2, Option.bind_some]
    rw [w64o (x := (1 : Int) + (d : Int))]
    simpa using e3
theorem number_ok (l : List Int) (hl : Bs l) (p s : Int) (h0 : 0 ≤ p) (h1 : p ≤ 80000000) : ∃ v p' s' : Int, Ev (fun k => spec_l1Cur_number.f k l p s) (v, p', s') ∧ p ≤ p' ∧ p' ≤ p + 40 := by
 obtain ⟨v1, p1, s1, e1, d1, f1⟩ := one_ok l hl p s 20 (by omega) (by omega) (by omega)
 simp only [spec_l1Cur_number.f, e1, Option.bind_some]
 by_cases h0 : v1 = true
 ·obtain ⟨v, p2, s2, e2, _, h2, h3⟩ := among_ok l hl p1 s1 [(-1), 1000000000001, 4611686018427387904, (-4611686018427387904)] (by simp) (by simp) (by omega) (by omega)
  refine ⟨v, p2, s2, evp h0 ?_, by omega, by omega⟩
  simp only [e2, Option.bind_some]
  exact Ev.now _
 ·obtain ⟨v, p2, s2, e2, h2, h3⟩ := sureNumber_ok l hl p1 s1 (by omega) (by omega)
  exact ⟨v, p2, s2, evn h0 (evb e2 (Ev.now _)), by omega, by omega⟩

theorem laws_qSame_loop (post : List Int) : ∀ (pre post' : List Int), post'.length = post.length → (pre ++ post).length ≤ 4611686018427387904 →
  Ev (fun k => laws_qSame.l0 k (pre ++ post) (pre ++ post') ((pre ++ post).length : Int) (pre.length : Int)) (decide (post = post')) := by
 induction post with
 | nil =>
  intro pre post' hl h
  obtain rfl : post' = [] := List.eq_nil_of_length_eq_zero hl
  refine evs (fun k => by rw [laws_qSame.l0]) ?_
  exact evn (by simp) (evr (by simp))
 | cons x post ih =>
  intro pre post' hl h
  obtain ⟨y, post', rfl⟩ : ∃ y z, post' = y :: z := by cases post' with
   | nil => simp at hl
   | cons y z => exact ⟨y, z, rfl⟩
  refine evs (fun k => by rw [laws_qSame.l0]) ?_
  refine evp (by simp; omega) (evp (by omega) (evp (by simp; omega) (evp (by simp; omega) ?_)))
  rw [rd_mid, rd_mid]
  by_cases he : x = y
  ·subst he
   refine evp rfl ?_
   have h2 := ih (pre ++ [x]) post' (by simpa using hl) (by simpa using h)
   simp only [List.append_assoc, List.singleton_append] at h2
   rw [w64 (by omega) (by simp at h; omega)]
   simpa using h2
  ·exact evn he (evr (by simp [he]))
theorem laws_qSame_ev (l l' : List Int) (h : l.length ≤ 4611686018427387904) : Ev (fun k => laws_qSame.f k l l') (decide (l = l')) := by
 unfold laws_qSame.f
 by_cases hl : l.length = l'.length
 ·exact evp (by omega) (by simpa using laws_qSame_loop l [] l' hl.symm (by simpa using h))
 ·exact evn (by omega) (evr (by symm; rw [decide_eq_false_iff_not]; exact fun e => hl (by rw [e])))
theorem prod_loop (l : List Int) (hl : Bs l) (b : Int) (hb : b ≤ 1000000) (d : Nat) : ∀ x p s : Int, 0 ≤ p → p + 2 * (d : Int) ≤ 100000000 → ∃ v p' s' : Int, Ev (fun k => spec_l1Cur_product.l0 k b x (d : Int) l p s) (v, p', s') := by
 have fin : ∀ (x p s : Int), ∃ v p' s' : Int, Ev (fun k => (spec_dgNumber.f x).bind fun t => if t = true then some (x, p, s) else some (24, p, s)) (v, p', s') := by
  intro x p s
  have e : spec_dgNumber.f x = some (decide (0 ≤ x ∧ x ≤ 1000000000000)) := by
   unfold spec_dgNumber.f
   rw [spec_l1In_eq]
   rfl
  by_cases h : 0 ≤ x ∧ x ≤ 1000000000000
  ·exact ⟨x, p, s, evc e (evp (decide_eq_true h) (Ev.now _))⟩
  ·exact ⟨24, p, s, evc e (evn (by rw [decide_eq_false h]; simp) (Ev.now _))⟩
 induction d with
 | zero =>
  intro x p s _ _
  obtain ⟨v, p', s', e⟩ := fin x p s
  refine ⟨v, p', s', evs (fun k => by rw [spec_l1Cur_product.l0]) ?_⟩
  exact evn (by omega) e
 | succ d ih =>
  intro x p s h0 h1
  by_cases h2 : b > 2
  ·have hb2 : wrap64 (b - 2) = b - 2 := w64 (by omega) (by omega)
   obtain ⟨v, p1, s1, e1, _, _, _, h3, h4⟩ := pick_ok l hl p s (b - 2) h0 (by omega) (by omega)
   obtain ⟨v', p2, s2, e2⟩ := ih (wrap64 (x * wrap64 (2 + v))) p1 s1 (by omega) (by omega)
   refine ⟨v', p2, s2, evs (fun k => by rw [spec_l1Cur_product.l0]) (evp (by omega) (evp h2 ?_))⟩
   rw [hb2, wm d (by omega)]
   exact evc e1 e2
  ·obtain ⟨v, p', s', e⟩ := fin x p s
   refine ⟨v, p', s', evs (fun k => by rw [spec_l1Cur_product.l0]) (evp (by omega) ?_)⟩
   exact evn h2 e
theorem product_ok (l : List Int) (hl : Bs l) (p s b : Int) (h0 : 0 ≤ p) (h1 : p ≤ 1000000) (hb : b ≤ 1000000) : ∃ v p' s' : Int, Ev (fun k => spec_l1Cur_product.f k l p s b) (v, p', s') := by
 have hj : ∀ (t : Bool) (p s : Int), 0 ≤ p → p ≤ 2000000 → ∃ v p' s' : Int, Ev (fun k => spec_l1Cur_product.j0 k b t l p s) (v, p', s') := by
  intro t p s h0 h1
  cases t with
  | true =>
   obtain ⟨v, p1, s1, e1, _, _⟩ := number_ok l hl p s h0 (by omega)
   exact ⟨v, p1, s1, evs (fun k => by rw [spec_l1Cur_product.j0]) (evp rfl (evb e1 (Ev.now _)))⟩
  | false =>
   obtain ⟨v, p1, s1, e1, a1, a2, a3, h3, h4⟩ := pick_ok l hl p s 8 h0 (by omega) (by omega)
   obtain ⟨d, rfl⟩ := natOf a1
   obtain ⟨v', p2, s2, e2⟩ := prod_loop l hl b hb d 1 p1 s1 (by omega) (by omega)
   refine ⟨v', p2, s2, evs (fun k => by rw [spec_l1Cur_product.j0]) ?_⟩
   exact evn (by simp) (evc e1 e2)
 obtain ⟨v, p1, s1, e1, h3, h4⟩ := one_ok l hl p s 5 h0 (by omega) (by omega)
 cases v with
 | true =>
  obtain ⟨v', p2, s2, e2⟩ := hj true p1 s1 (by omega) (by omega)
  exact ⟨v', p2, s2, evc e1 (evp rfl e2)⟩
 | false =>
  obtain ⟨v', p2, s2, e2⟩ := hj (!(decide (2 ≤ b ∧ b ≤ 16))) p1 s1 (by omega) (by omega)
  exact ⟨v', p2, s2, evc e1 (evn (by simp) (evc (spec_dgBase_eq b) e2))⟩
theorem drawLW_ok (l : List Int) (hl : Bs l) : ∃ n b : Int, Ev (fun k => spec_DrawLeastWithProduct.f k l) (n, b) := by
 unfold spec_DrawLeastWithProduct.f
 obtain ⟨b, p, s, e, hm, h2, h3⟩ := among_ok l hl 0 0 [10, 10, 10, 2, 3, 5, 7, 16, 12, 10, 10, 16, 1, 17, 0] (by simp) (by simp) (by omega) (by omega)
 have hb : b ≤ 1000000 := by
  simp only [List.mem_cons, List.not_mem_nil, or_false] at hm
  omega
 have eb : spec_l1Cur_base.f l 0 0 = some (b, p, s) := by
  unfold spec_l1Cur_base.f
  rw [e]
  rfl
 obtain ⟨v, p2, s2, e2⟩ := product_ok l hl p s b (by omega) (by omega) hb
 exact ⟨v, b, evc eb (evb e2 (Ev.now _))⟩
theorem drawPR_ok (l : List Int) (hl : Bs l) : ∃ n b : Int, Ev (fun k => spec_DrawProductRun.f k l) (n, b) := by
 obtain ⟨v, p, s, e, _, _⟩ := number_ok l hl 0 0 (by omega) (by omega)
 obtain ⟨b, p2, s2, e2, _, _⟩ := base_ok l hl p s (by omega) (by omega)
 refine ⟨v, b, evb (a := (v, p, s)) e ?_⟩
 simp only [e2, Option.bind_some]
 exact Ev.now _
theorem drawLP_ok (l : List Int) (hl : Bs l) : ∃ n b : Int, spec_DrawLeastPersistent.f l = some (n, b) := by
 obtain ⟨t, p, s, e, h1, h2⟩ := one_ok l hl 0 0 8 (by omega) (by omega) (by omega)
 unfold spec_DrawLeastPersistent.f
 rw [e]
 simp only [Option.bind_some]
 cases t with
 | true =>
  obtain ⟨v, p1, s1, e1, _, h3, h4⟩ := among_ok l hl p s [(-1), 12, 13] (by simp) (by simp) (by omega) (by omega)
  obtain ⟨b, p2, s2, e2, _, _⟩ := base_ok l hl p1 s1 (by omega) (by omega)
  rw [e1]
  simp only [Option.bind_some, if_true, e2]
  exact ⟨_, _, rfl⟩
 | false =>
  obtain ⟨v, p1, s1, e1, _, _, _, h3, h4⟩ := pick_ok l hl p s 5 (by omega) (by omega) (by omega)
  obtain ⟨b, p2, s2, e2, _, _⟩ := base_ok l hl p1 s1 (by omega) (by omega)
  rw [e1]
  simp only [Option.bind_some, Bool.false_eq_true, if_false, e2]
  exact ⟨_, _, rfl⟩
theorem lw_all (p b : Int) : ∃ (r c : Int × Bool) (s : Bool × Bool), Ev (fun k => impl_LeastWithProduct.f k p b) r ∧ Ev (fun k => spec_LeastWithProduct.f k p b) r ∧ Ev (fun k => impl_IsSmooth.f k p b) s ∧ Ev (fun k => spec_IsSmooth.f k p b) s ∧ Ev (fun k => impl_CountWithProduct.f k p b) c ∧ Ev (fun k => spec_CountWithProduct.f k p b) c ∧
  (r.2 = true → s.1 = true ∧ ∃ b' m : Nat, b = b' ∧ 2 ≤ b' ∧ b' ≤ 16 ∧ r.1 = m ∧ m ≤ 1000000000000 ∧ (dmul b' m : Int) = p) ∧ (c.2 = true → (s.1 = true ↔ 0 < c.1)) := by
 by_cases h : (0 ≤ p ∧ p ≤ 1000000000000) ∧ 2 ≤ b ∧ b ≤ 16
 ·obtain ⟨p, rfl⟩ := natOf (a := p) (by omega)
  obtain ⟨b, rfl⟩ := natOf (a := b) (by omega)
  have hb : 2 ≤ b := by omega
  have hb2 : b ≤ 16 := by omega
  have hp2 : p ≤ 1000000000000 := by omega
  obtain ⟨n1, n2⟩ := isn_yes b p hb hb2 hp2
  obtain ⟨c, c1, c2, c3⟩ := count_both b p hb hb2 hp2
  by_cases h0 : p = 0
  ·subst h0
   have i1 : impl_in.f ((0 : Nat) : Int) 1 1000000000000 = some false := by rw [impl_in_eq, decide_eq_false (by omega)]
   obtain ⟨s1, s2⟩ := smooth0_ev b hb2
   have hno : ¬ Smooth b 0 := fun ⟨k, hk⟩ => by have := hk.pos; omega
   refine ⟨(0, false), c, (false, true), evc i1 (evn (by simp) (Ev.now _)), evc n2 (evp rfl ?_), evc n1 (evp rfl (evb s1 (Ev.now _))), evc n2 (evp rfl (evb s2 (Ev.now _))), c1, c2, fun h => by simp at h, fun hc => ?_⟩
   ·refine evs (fun k => by rw [spec_LeastWithProduct.j0]) ?_
    exact evp (by simp) (Ev.now _)
   ·have := c3 hc
    constructor
    ·intro h; simp at h
    ·intro h; exact absurd (this.1 h) hno
  ·obtain ⟨r, r1, r2, r3⟩ := least_both b p hb hb2 (by omega) hp2
   obtain ⟨s, s1, s2, s3⟩ := smooth_ev b p hb2 (by omega) hp2
   refine ⟨r, c, (s, true), r1, r2, evc n1 (evp rfl (evb s2 (Ev.now _))), evc n2 (evp rfl (evb s3 (Ev.now _))), c1, c2, fun hr => ?_, fun hc => ?_⟩
   ·obtain ⟨a1, m, a2, a3, a4⟩ := r3 hr
    exact ⟨s1.2 a1, b, m, rfl, hb, hb2, a2, a3, by rw [a4]⟩
   ·rw [c3 hc]
    exact s1
 ·have n1 : impl_isNumber.f p b = some false := by rw [impl_isNumber_eq, decide_eq_false h]
  have n2 : spec_dgAsked.f p b = some false := by rw [spec_dgAsked_eq, decide_eq_false h]
  have hno : ∀ lo : Int, 0 ≤ lo → impl_in.f p lo 1000000000000 = some false ∨ (impl_in.f p lo 1000000000000 = some true ∧ impl_isBase.f b = some false) := by
   intro lo hlo
   by_cases h1 : lo ≤ p ∧ p ≤ 1000000000000
   ·exact Or.inr ⟨by rw [impl_in_eq, decide_eq_true h1], by rw [impl_isBase_eq, decide_eq_false (by omega)]⟩
   ·exact Or.inl (by rw [impl_in_eq, decide_eq_false h1])
  refine ⟨(0, false), (0, false), (false, false), ?_, evc n2 (evn (by simp) ?_), evc n1 (evn (by simp) (Ev.now _)), evc n2 (evn (by simp) (Ev.now _)), ?_, evc n2 (evn (by simp) ?_), fun h => by simp at h, fun h => by simp at h⟩
  ·rcases hno 1 (by omega) with h1 | ⟨h1, h2⟩
   ·exact evc h1 (evn (by simp) (Ev.now _))
   ·exact evc h1 (evp rfl (evc h2 (evn (by simp) (Ev.now _))))
  ·exact evs (fun k => by rw [spec_LeastWithProduct.j0]) (evp rfl (Ev.now _))
  ·rcases hno 2 (by omega) with h1 | ⟨h1, h2⟩
   ·exact evc h1 (evn (by simp) (Ev.now _))
   ·exact evc h1 (evp rfl (evc h2 (evn (by simp) (Ev.now _))))
  ·exact evs (fun k => by rw [spec_CountWithProduct.j0]) (evp rfl (Ev.now _))
theorem j6_ok (l : List Int) (hl : Bs l) : Ev (fun k => laws_FnProductRuns.j6 k l false) true := by
 obtain ⟨n, b, e⟩ := drawLP_ok l hl
 obtain ⟨r, h1, h2, h3⟩ := lp_both b n
 refine evs (fun k => by rw [laws_FnProductRuns.j6]) ?_
 refine evn (by simp) (evc e (evb h1 (evb h2 (evn (by simp) ?_))))
 rw [show (r.1 != r.1) = false by simp]
 refine evs (fun k => by rw [laws_FnProductRuns.j7]) (evn (by simp) ?_)
 by_cases hr : r.2 = true
 ·obtain ⟨b', m, e1, e2, e3, e4, e5, e6⟩ := h3 hr
  simp only [e1, e4]
  refine evp hr (evb (impl_Pers_ev b' m e2 e3 e5) (evp rfl (evr ?_)))
  simp only [e6]
  simp
 ·exact evn hr (Ev.now _)
theorem j3_ok (l : List Int) (hl : Bs l) : Ev (fun k => laws_FnProductRuns.j3 k l) true := by
 obtain ⟨p, b, e⟩ := drawLW_ok l hl
 obtain ⟨r, c, s, a1, a2, a3, a4, a5, a6, h1, h2⟩ := lw_all p b
 have h6 := j6_ok l hl
 have h5 : Ev (fun k => laws_FnProductRuns.j5 k l s.1 c.1 c.2) true := by
  refine evs (fun k => by rw [laws_FnProductRuns.j5]) ?_
  by_cases hc : c.2 = true
  ·have : (s.1 != decide (c.1 > 0)) = false := by
    have h3 := h2 hc
    by_cases hs : s.1 = true
    ·rw [hs, decide_eq_true (h3.1 hs)]; rfl
    ·rw [Bool.eq_false_iff.2 hs, decide_eq_false (fun h => hs (h3.2 h))]; rfl
   rw [this]
   exact evp hc h6
  ·exact evn hc h6
 have h4 : Ev (fun k => laws_FnProductRuns.j4 k l p b r.1 r.2 s.1 c.1 c.2 false) true := by
  refine evs (fun k => by rw [laws_FnProductRuns.j4]) (evn (by simp) ?_)
  by_cases hr : r.2 = true
  ·obtain ⟨_, b', m, e1, e2, e3, e4, e5, e6⟩ := h1 hr
   refine evp hr ?_
   have hd := impl_DP_ev b' m e2 e3 e5
   rw [← e1, ← e4] at hd
   exact evb hd (evp rfl (evp e6 h5))
  ·exact evn hr h5
 refine evs (fun k => by rw [laws_FnProductRuns.j3]) ?_
 refine evb e (evb a1 (evb a2 (evb a3 (evb a4 (evb a5 (evb a6 (evn (by simp) (evp rfl (evn (by simp) (evn (by simp) (evn (by simp) (evp rfl ?_))))))))))))
 by_cases hr : r.2 = true
 ·have hs := (h1 hr).1
  simp only [hs, Bool.not_true]
  rw [hs] at h4
  exact evp hr h4
 ·exact evn hr h4
theorem prun_head (b n : Nat) : ∃ t, prun b n = n :: t := by
 unfold prun
 cases n with
 | zero => exact ⟨[], rfl⟩
 | succ n =>
  simp only [pruf]
  split
  ·exact ⟨_, rfl⟩
  ·exact ⟨_, rfl⟩
theorem l0_ok (l : List Int) (hl : Bs l) (b n : Nat) (hb : 2 ≤ b) (hb2 : b ≤ 16) (hn : n ≤ 1000000000000) (D : List Nat) (hD : D.length ≤ 1000000000001) (x : Nat) : ∀ pre : List Nat, D = pre ++ prun b x → x ≤ n →
  Ev (fun k => laws_FnProductRuns.l0 k l (n : Int) (b : Int) (ic D) (proot b n : Int) ((pre.length + 1 : Nat) : Int)) true := by
 induction x using Nat.strongRecOn with
 | _ x ih =>
  intro pre hpre hx
  refine evs (fun k => by rw [laws_FnProductRuns.l0]) ?_
  rw [wm pre.length (by rw [hpre, List.length_append] at hD; omega), ws (pre.length + 1) (by rw [hpre, List.length_append] at hD; omega)]
  by_cases hbx : b ≤ x
  ·have hlt := dmul_lt hb x hbx
   obtain ⟨t, ht⟩ := prun_head b (dmul b x)
   have h1 := ih (dmul b x) hlt (pre ++ [x]) (by rw [hpre, prun_big hb hbx]; simp) (by omega)
   rw [show ((pre ++ [x]).length + 1 : Nat) = pre.length + 1 + 1 by simp] at h1
   have hD2 : D = pre ++ x :: dmul b x :: t := by rw [hpre, prun_big hb hbx, ht]
   have hD3 : D = (pre ++ [x]) ++ dmul b x :: t := by rw [hD2]; simp
   have hlen : D.length = pre.length + (t.length + 2) := by rw [hD2]; simp
   have r1 : rd (ic D) (pre.length : Int) = (x : Int) := by rw [hD2]; exact ic_rd _ _ _
   have r2 : rd (ic D) ((pre.length + 1 : Nat) : Int) = (dmul b x : Int) := by
    rw [hD3, show ((pre.length + 1 : Nat) : Int) = ((pre ++ [x]).length : Int) by simp]
    exact ic_rd _ _ _
   rw [r1, r2]
   clear r1 r2
   exact evp (by rw [ic_length]; omega) (evp (by omega) (evp (by rw [ic_length]; omega) (evb (impl_DP_ev b x hb hb2 (by omega)) (evp rfl (evp (by omega) (evp rfl (evn (by omega) h1)))))))
  ·have hD2 : D = pre ++ [x] := by rw [hpre, prun_small (by omega)]
   have hlen : D.length = pre.length + 1 := by rw [hD2]; simp
   obtain ⟨u, u1, u2, u3⟩ := impl_SortedUp_ev b n hb hb2 hn
   refine evn (by rw [ic_length]; omega) (evb u3 (evb (impl_Root_ev b u hb hb2 (by omega)) (evb (impl_DP_ev b n hb hb2 hn) (evp rfl (evp rfl (evp rfl ?_))))))
   by_cases h1 : 1 ≤ dmul b n
   ·refine evp (by omega) ?_
    by_cases h2 : b ≤ n
    ·exact evp (by omega) (evp (by rw [u2 h1 h2]) (j3_ok l hl))
    ·exact evn (by omega) (j3_ok l hl)
   ·exact evn (by omega) (j3_ok l hl)
theorem FnProductRuns : laws_FnProductRuns.Pure := by
 intro l0 l1 _ _ w0 _ _ w1
 have hb : ∀ (l : List Int), (∀ x ∈ l, (Lit.int .u8 x).wf = true) → ∀ x ∈ l, 0 ≤ x ∧ x ≤ 255 := by
  intro l h x hx
  have := h x hx
  simpa [Lit.wf, IntKind.min, IntKind.max, IntKind.signed, IntKind.bits] using this
 have hl0 := hb l0 w0
 have hl1 := hb l1 w1
 refine Ev.rounds (g := fun k => laws_FnProductRuns.f k l0 l1) ?_
 unfold laws_FnProductRuns.f
 obtain ⟨t, ht⟩ : ∃ t, laws_big.f l0 l1 = some t := by
  unfold laws_big.f
  split <;> exact ⟨_, rfl⟩
 rw [ht]
 simp only [Option.bind_some]
 cases t with
 | true => exact evp rfl (Ev.now _)
 | false =>
  refine evn (by simp) ?_
  obtain ⟨n, b, e⟩ := drawPR_ok l0 hl0
  refine evb e ?_
  by_cases h : (0 ≤ n ∧ n ≤ 1000000000000) ∧ 2 ≤ b ∧ b ≤ 16
  ·obtain ⟨n, rfl⟩ := natOf (a := n) (by omega)
   obtain ⟨b, rfl⟩ := natOf (a := b) (by omega)
   have hb : 2 ≤ b := by omega
   have hb2 : b ≤ 16 := by omega
   have hn : n ≤ 1000000000000 := by omega
   have hlen := prun_len hb n
   have hpers : ppers b n + 1 = (prun b n).length := by unfold ppers; omega
   have hq := laws_qSame_ev (ic (prun b n)) (ic (prun b n)) (by rw [ic_length]; omega)
   rw [decide_eq_true rfl] at hq
   refine evb (impl_ProductRun_ev b n hb hb2 hn) (evb (spec_ProductRun_ev b n hb hb2 hn) (evb (impl_Pers_ev b n hb hb2 hn) (evb (spec_Pers_ev b n hb hb2 hn) (evb (impl_Root_ev b n hb hb2 hn) (evb (spec_Root_ev b n hb hb2 hn) ?_)))))
   refine evn (by simp) (evb hq (evp rfl (evn (by simp) (evp rfl (evn (by simp) (evp rfl (evn (by simp) ?_)))))))
   refine evs (fun k => by rw [laws_FnProductRuns.j0]) ?_
   obtain ⟨t, ht⟩ := prun_head b n
   have r0 : rd (ic (prun b n)) 0 = (n : Int) := by rw [ht]; rfl
   have r1 : rd (ic (prun b n)) (ppers b n : Int) = (proot b n : Int) := by
    unfold proot
    rw [List.getLast_eq_getElem, rd_get _ _ (by rw [ic_length]; omega)]
    simp [ic, ppers]
   have hroot := proot_lt hb n
   rw [r0, r1, ws (ppers b n) (by omega), decide_eq_false (show ¬ ((proot b n : Int) ≥ (b : Int)) by omega)]
   clear r0 r1
   refine evn (by simp) (evp rfl (evp (by rw [ic_length]; omega) (evp (by rw [ic_length]; omega) (evp rfl (evp (by omega) (evp (by rw [ic_length]; omega) (evp rfl ?_)))))))
   refine evs (fun k => by rw [laws_FnProductRuns.j1]) (evn (by simp) ?_)
   have := l0_ok l1 hl1 b n hb hb2 hn (prun b n) (by omega) n [] rfl (Nat.le_refl n)
   simpa using this
  ·have no1 : impl_isNumber.f n b = some false := by rw [impl_isNumber_eq, decide_eq_false h]
   have no2 : spec_dgAsked.f n b = some false := by rw [spec_dgAsked_eq, decide_eq_false h]
   have a1 : Ev (fun k => impl_ProductRun.f k n b) ([], false) := evc no1 (evn (by simp) (Ev.now _))
   have a2 : Ev (fun k => spec_ProductRun.f k n b) ([], false) := evc no2 (evn (by simp) (Ev.now _))
   have a3 : Ev (fun k => impl_PersistenceOf.f k n b) (0, false) := evc no1 (evn (by simp) (Ev.now _))
   have a4 : Ev (fun k => spec_PersistenceOf.f k n b) (0, false) := evc no2 (evn (by simp) (Ev.now _))
   have a5 : Ev (fun k => impl_ProductRoot.f k n b) (0, false) := evc no1 (evn (by simp) (Ev.now _))
   have a6 : Ev (fun k => spec_ProductRoot.f k n b) (0, false) := evc no2 (evn (by simp) (Ev.now _))
   have hq := laws_qSame_ev [] [] (by simp)
   rw [decide_eq_true rfl] at hq
   refine evb a1 (evb a2 (evb a3 (evb a4 (evb a5 (evb a6 ?_)))))
   refine evn (by simp) (evb hq (evp rfl (evn (by simp) (evp rfl (evn (by simp) (evp rfl (evn (by simp) ?_)))))))
   refine evs (fun k => by rw [laws_FnProductRuns.j0]) ?_
   exact evn (by simp) (evn (by simp) (j3_ok l1 hl1))

end Go.Proofs.Ytjkhgigmhmghbaa.Pure
