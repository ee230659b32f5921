/- For all codes: numbers with the same digits have the same sorted ones, the least one is told by counts, and they are counted. -/
import Derived.Test.YtpgplcckgabdjaaPFnDigitsRearrangedx10
import Derived.Test.YtpgplcckgabdjaaWMore
set_option linter.unusedVariables false
set_option linter.unusedSimpArgs false
namespace Go.Proofs.Ytpgplcckgabdjaa.Pure
open Go.RowKit Go.Proofs.Ytpgplcckgabdjaa.PFnDigitsRearranged Go.Proofs.YtpgplcckgabdjaaW.PrintWords Go.Proofs.YtpgplcckgabdjaaW.PrintLast

theorem w64 {x : Int} (h1 : -9223372036854775808 ≤ x) (h2 : x ≤ 9223372036854775807) : wrap64 x = x := by unfold wrap64; omega
theorem w64o {x : Int} (h1 : -9223372036854775808 ≤ x := by omega) (h2 : x ≤ 9223372036854775807 := by omega) : wrap64 x = x := w64 h1 h2
abbrev Bs (l : List Int) : Prop := ∀ x ∈ l, 0 ≤ x ∧ x ≤ 255

theorem w64n (n : Nat) (h : n ≤ 9223372036854775807) : wrap64 (n : Int) = (n : Int) := w64 (by omega) (by omega)

theorem evp {α : Type} {c : Prop} [Decidable c] {a b : Nat → Option α} {r : α} (h : c) (k : Ev a r) : Ev (fun n => if c then a n else b n) r := Ev.congr (fun _ => if_pos h) k
theorem evn {α : Type} {c : Prop} [Decidable c] {a b : Nat → Option α} {r : α} (h : ¬ c) (k : Ev b r) : Ev (fun n => if c then a n else b n) r := Ev.congr (fun _ => if_neg h) k
theorem evr {α : Type} {x r : α} (h : x = r) : Ev (fun _ => some x) r := h ▸ Ev.now x
theorem evb {α β : Type} {g : Nat → Option α} {f : Nat → α → Option β} {a : α} {r : β} (h : Ev g a) (k : Ev (fun n => f n a) r) : Ev (fun n => (g n).bind fun x => f n x) r := Ev.bind h k
theorem evc {α β : Type} {x : Option α} {a : α} {f : Nat → α → Option β} {r : β} (h : x = some a) (k : Ev (fun n => f n a) r) : Ev (fun n => x.bind fun y => f n y) r := by subst h; exact k
theorem evs {α : Type} {g f : Nat → Option α} {r : α} (h : ∀ k, g (k + 1) = f k) (k : Ev f r) : Ev g r := Ev.step h k
theorem rd_mid (pre post : List Int) (x : Int) : rd (pre ++ x :: post) (pre.length : Int) = x := by simp [rd]
theorem set_mid {α : Type} (pre post : List α) (x y : α) : (pre ++ x :: post).set pre.length y = pre ++ y :: post := by simp
theorem rd_mem (xs : List Int) (i : Int) (h0 : 0 ≤ i) (h : i < xs.length) : rd xs i ∈ xs := by
 have hi : i.toNat < xs.length := by omega
 simp only [rd, List.getD_eq_getElem?_getD, List.getElem?_eq_getElem hi, Option.getD_some]
 exact List.getElem_mem hi
def ic (l : List Nat) : List Int := l.map (fun x : Nat => (x : Int))
theorem ic_cons (x : Nat) (l : List Nat) : ic (x :: l) = (x : Int) :: ic l := rfl
theorem ic_append (l m : List Nat) : ic (l ++ m) = ic l ++ ic m := by simp [ic]
theorem ic_length (l : List Nat) : (ic l).length = l.length := by simp [ic]
def lsd (b : Nat) : Nat → Nat → List Nat
 | 0, _ => []
 | f + 1, n => if n = 0 then [] else n % b :: lsd b f (n / b)
theorem lsd_zero (b f : Nat) : lsd b f 0 = [] := by cases f <;> simp [lsd]
theorem lsd_fuel {b : Nat} (hb : 2 ≤ b) (n : Nat) : ∀ f g : Nat, n ≤ f → n ≤ g → lsd b f n = lsd b g n := by
 induction n using Nat.strongRecOn with
 | _ n ih =>
  intro f g hf hg
  by_cases h : n = 0
  ·subst h
   rw [lsd_zero, lsd_zero]
  ·obtain ⟨f, rfl⟩ : ∃ x, f = x + 1 := ⟨f - 1, by omega⟩
   obtain ⟨g, rfl⟩ : ∃ x, g = x + 1 := ⟨g - 1, by omega⟩
   have hlt : n / b < n := Nat.div_lt_self (by omega) (by omega)
   simp only [lsd, if_neg h]
   rw [ih (n / b) hlt f g (by omega) (by omega)]
def low (b n : Nat) : List Nat := lsd b n n
theorem low_zero (b : Nat) : low b 0 = [] := rfl
theorem low_succ {b n : Nat} (hb : 2 ≤ b) (hn : 1 ≤ n) : low b n = n % b :: low b (n / b) := by
 obtain ⟨m, rfl⟩ : ∃ x, n = x + 1 := ⟨n - 1, by omega⟩
 have hlt : (m + 1) / b < m + 1 := Nat.div_lt_self (by omega) (by omega)
 show lsd b (m + 1) (m + 1) = _
 simp only [lsd]
 rw [if_neg (by omega)]
 show _ = _ :: lsd b _ _
 rw [lsd_fuel hb ((m + 1) / b) m ((m + 1) / b) (by omega) (Nat.le_refl _)]
def dgl (b n : Nat) : List Nat := if n = 0 then [0] else (low b n).reverse
def val (b : Nat) (v : Nat) : List Nat → Nat
 | [] => v
 | d :: l => val b (v * b + d) l
theorem val_append (b v : Nat) (l m : List Nat) : val b v (l ++ m) = val b (val b v l) m := by
 induction l generalizing v with
 | nil => rfl
 | cons d l ih => exact ih _
theorem val_ge {b : Nat} (hb : 1 ≤ b) (l : List Nat) : ∀ v : Nat, v ≤ val b v l := by
 induction l with
 | nil => intro v; exact Nat.le_refl _
 | cons d l ih =>
  intro v
  have h := ih (v * b + d)
  have h2 : v * 1 ≤ v * b := Nat.mul_le_mul_left _ hb
  simp only [val]
  omega
theorem low_lt {b : Nat} (hb : 2 ≤ b) (n : Nat) : ∀ d ∈ low b n, d < b := by
 induction n using Nat.strongRecOn with
 | _ n ih =>
  by_cases h : n = 0
  ·subst h
   simp [low_zero]
  ·have hlt : n / b < n := Nat.div_lt_self (by omega) (by omega)
   rw [low_succ hb (by omega)]
   intro d hd
   rcases List.mem_cons.1 hd with rfl | hd
   ·exact Nat.mod_lt _ (by omega)
   ·exact ih _ hlt d hd
theorem low_val {b : Nat} (hb : 2 ≤ b) (n : Nat) : val b 0 (low b n).reverse = n := by
 induction n using Nat.strongRecOn with
 | _ n ih =>
  by_cases h : n = 0
  ·subst h
   rfl
  ·have hlt : n / b < n := Nat.div_lt_self (by omega) (by omega)
   rw [low_succ hb (by omega), List.reverse_cons, val_append, ih _ hlt]
   simp only [val]
   have := Nat.div_add_mod n b
   rw [Nat.mul_comm (n / b) b]
   omega
theorem dgl_val {b : Nat} (hb : 2 ≤ b) (n : Nat) : val b 0 (dgl b n) = n := by
 unfold dgl
 by_cases h : n = 0
 ·subst h
  rw [if_pos rfl]
  simp [val]
 ·rw [if_neg h, low_val hb]
theorem dgl_lt {b : Nat} (hb : 2 ≤ b) (n : Nat) : ∀ d ∈ dgl b n, d < b := by
 unfold dgl
 by_cases h : n = 0
 ·subst h
  rw [if_pos rfl]
  intro d hd
  rw [List.mem_singleton.1 hd]
  omega
 ·rw [if_neg h]
  intro d hd
  exact low_lt hb n d (List.mem_reverse.1 hd)
theorem low_len {b : Nat} (hb : 2 ≤ b) (k : Nat) : ∀ n : Nat, n < 2 ^ k → (low b n).length ≤ k := by
 induction k with
 | zero =>
  intro n hn
  have : n = 0 := by rw [Nat.pow_zero] at hn; omega
  subst this
  simp [low_zero]
 | succ k ih =>
  intro n hn
  by_cases h : n = 0
  ·subst h
   simp [low_zero]
  ·rw [low_succ hb (by omega), List.length_cons]
   have h2 : n / b < 2 ^ k := by
    refine Nat.div_lt_of_lt_mul ?_
    rw [Nat.pow_succ] at hn
    have : 2 * 2 ^ k ≤ b * 2 ^ k := Nat.mul_le_mul_right _ hb
    omega
   have := ih _ h2
   omega
theorem dgl_len1 {b : Nat} (hb : 2 ≤ b) (n : Nat) (hn : n ≤ 1000000000001) : 1 ≤ (dgl b n).length ∧ (dgl b n).length ≤ 40 := by
 unfold dgl
 by_cases h : n = 0
 ·subst h
  rw [if_pos rfl]
  simp
 ·rw [if_neg h, List.length_reverse]
  refine ⟨?_, low_len hb 40 n (by omega)⟩
  rw [low_succ hb (by omega), List.length_cons]
  omega
theorem dgl_len {b : Nat} (hb : 2 ≤ b) (n : Nat) (hn : n ≤ 1000000000000) : 1 ≤ (dgl b n).length ∧ (dgl b n).length ≤ 40 := dgl_len1 hb n (by omega)
def lsum : List Nat → Nat
 | [] => 0
 | d :: l => d + lsum l
theorem ic_reverse (l : List Nat) : ic l.reverse = (ic l).reverse := by simp [ic]
theorem ic_rd (pre post : List Nat) (x : Nat) : rd (ic (pre ++ x :: post)) (pre.length : Int) = (x : Int) := by
 rw [ic_append, ic_cons, show ((pre.length : Nat) : Int) = (((ic pre).length : Nat) : Int) by simp [ic], rd_mid]

theorem val_lt {b : Nat} (l : List Nat) : ∀ v : Nat, (∀ d ∈ l, d < b) → val b v l < (v + 1) * b ^ l.length := by
 induction l with
 | nil => intro v _; simp [val]
 | cons d l ih =>
  intro v h
  have h1 := ih (v * b + d) (fun x hx => h x (by simp [hx]))
  have hd := h d (by simp)
  have h2 : (v * b + d + 1) * b ^ l.length ≤ (v + 1) * b * b ^ l.length := Nat.mul_le_mul_right _ (by rw [Nat.add_mul]; omega)
  simp only [val, List.length_cons]
  rw [Nat.pow_succ, Nat.mul_comm (b ^ l.length) b, ← Nat.mul_assoc]
  omega
theorem val_split (b : Nat) (l : List Nat) : ∀ v : Nat, val b v l = v * b ^ l.length + val b 0 l := by
 induction l with
 | nil => intro v; simp [val]
 | cons d l ih =>
  intro v
  simp only [val, List.length_cons]
  rw [ih (v * b + d), ih (0 * b + d), Nat.add_mul, Nat.pow_succ, Nat.mul_comm (b ^ l.length) b, ← Nat.mul_assoc]
  simp only [Nat.zero_mul, Nat.zero_add]
  omega
theorem val_lt0 {b : Nat} (l : List Nat) (h : ∀ d ∈ l, d < b) : val b 0 l < b ^ l.length := by
 have := val_lt l 0 h
 simpa using this
theorem val_cons (b d : Nat) (l : List Nat) : val b 0 (d :: l) = d * b ^ l.length + val b 0 l := by
 simp only [val, Nat.zero_mul, Nat.zero_add]
 exact val_split b l d
theorem div_unique {E a r c s : Nat} (hr : r < E) (hs : s < E) (h : a * E + r = c * E + s) : a = c ∧ r = s := by
 have h1 : (a * E + r) / E = a := by rw [Nat.mul_comm, Nat.mul_add_div (by omega), Nat.div_eq_of_lt hr, Nat.add_zero]
 have h2 : (c * E + s) / E = c := by rw [Nat.mul_comm, Nat.mul_add_div (by omega), Nat.div_eq_of_lt hs, Nat.add_zero]
 have h3 : a = c := by rw [← h1, h, h2]
 subst h3
 exact ⟨rfl, by omega⟩
theorem val_inj {b : Nat} (x : List Nat) : ∀ y : List Nat, x.length = y.length → (∀ d ∈ x, d < b) → (∀ d ∈ y, d < b) → val b 0 x = val b 0 y → x = y := by
 induction x with
 | nil =>
  intro y hl _ _ _
  exact (List.eq_nil_of_length_eq_zero hl.symm).symm
 | cons d x ih =>
  intro y hl hx hy h
  cases y with
  | nil => simp at hl
  | cons e y =>
   have hl2 : x.length = y.length := by simpa using hl
   rw [val_cons, val_cons, hl2] at h
   have hx2 : ∀ d ∈ x, d < b := fun z hz => hx z (by simp [hz])
   have hy2 : ∀ d ∈ y, d < b := fun z hz => hy z (by simp [hz])
   obtain ⟨h1, h2⟩ := div_unique (by have := val_lt0 x hx2; rw [hl2] at this; exact this) (val_lt0 y hy2) h
   rw [h1, ih y hl2 hx2 hy2 h2]
theorem low_lower {b : Nat} (hb : 2 ≤ b) (n : Nat) : 1 ≤ n → b ^ ((low b n).length - 1) ≤ n := by
 induction n using Nat.strongRecOn with
 | _ n ih =>
  intro hn
  have hlt : n / b < n := Nat.div_lt_self (by omega) (by omega)
  rw [low_succ hb hn, List.length_cons, Nat.add_sub_cancel]
  by_cases h : n / b = 0
  ·rw [h, low_zero]
   simpa using hn
  ·have h2 := ih (n / b) hlt (Nat.pos_of_ne_zero h)
   have h3 : 1 ≤ (low b (n / b)).length := by rw [low_succ hb (Nat.pos_of_ne_zero h), List.length_cons]; omega
   have h4 : b ^ (low b (n / b)).length = b ^ ((low b (n / b)).length - 1) * b := by rw [← Nat.pow_succ]; congr 1; omega
   have h5 : b ^ ((low b (n / b)).length - 1) * b ≤ n / b * b := Nat.mul_le_mul_right _ h2
   have h6 := Nat.div_mul_le_self n b
   omega
theorem dgl_lower {b : Nat} (hb : 2 ≤ b) (n : Nat) (hn : 1 ≤ n) : b ^ ((dgl b n).length - 1) ≤ n := by
 unfold dgl
 rw [if_neg (by omega), List.length_reverse]
 exact low_lower hb n hn
theorem dgl_upper {b : Nat} (hb : 2 ≤ b) (n : Nat) : n < b ^ (dgl b n).length := by
 have h := val_lt0 (dgl b n) (dgl_lt hb n)
 rw [dgl_val hb] at h
 exact h
theorem dgl_pos (b n : Nat) (hb : 2 ≤ b) : 1 ≤ (dgl b n).length := by
 unfold dgl
 by_cases h : n = 0
 ·rw [if_pos h]; simp
 ·rw [if_neg h, List.length_reverse, low_succ hb (by omega), List.length_cons]; omega
theorem dgl_length {b : Nat} (hb : 2 ≤ b) (n w : Nat) (hw : 1 ≤ w) (h1 : b ^ (w - 1) ≤ n) (h2 : n < b ^ w) : (dgl b n).length = w := by
 have hp : 0 < b ^ (w - 1) := Nat.pow_pos (by omega)
 have h3 := dgl_lower hb n (by omega)
 have h4 := dgl_upper hb n
 have h5 := dgl_pos b n hb
 by_cases h : (dgl b n).length < w
 ·have : b ^ (dgl b n).length ≤ b ^ (w - 1) := Nat.pow_le_pow_right (by omega) (by omega)
  omega
 ·by_cases h6 : w < (dgl b n).length
  ·have : b ^ w ≤ b ^ ((dgl b n).length - 1) := Nat.pow_le_pow_right (by omega) (by omega)
   omega
  ·omega
theorem dgl_of_val {b : Nat} (hb : 2 ≤ b) (L : List Nat) (hL : 1 ≤ L.length) (hd : ∀ d ∈ L, d < b) (h : b ^ (L.length - 1) ≤ val b 0 L) : dgl b (val b 0 L) = L :=
 val_inj _ _ (dgl_length hb _ _ hL h (val_lt0 L hd)) (dgl_lt hb _) hd (dgl_val hb _)

def cntl : List Nat → List Nat → List Nat
 | acc, [] => acc
 | acc, d :: l => cntl (acc.set d (acc.getD d 0 + 1)) l
theorem cntl_len (l : List Nat) : ∀ acc, (cntl acc l).length = acc.length := by
 induction l with
 | nil => intro acc; rfl
 | cons d l ih => intro acc; simp only [cntl]; rw [ih]; simp
theorem lsum_set (l : List Nat) : ∀ (i x : Nat), i < l.length → lsum (l.set i x) + l.getD i 0 = lsum l + x := by
 induction l with
 | nil => intro i x h; simp at h
 | cons y l ih =>
  intro i x h
  cases i with
  | zero => simp only [List.set_cons_zero, lsum, List.getD_cons_zero]; omega
  | succ i =>
   have := ih i x (by simpa using h)
   simp only [List.set_cons_succ, lsum, List.getD_cons_succ]
   omega
theorem lsum_ge (l : List Nat) : ∀ i : Nat, l.getD i 0 ≤ lsum l := by
 induction l with
 | nil => intro i; simp
 | cons y l ih =>
  intro i
  cases i with
  | zero => simp only [lsum, List.getD_cons_zero]; omega
  | succ i => have := ih i; simp only [lsum, List.getD_cons_succ]; omega
theorem cntl_sum (l : List Nat) : ∀ acc, (∀ d ∈ l, d < acc.length) → lsum (cntl acc l) = lsum acc + l.length := by
 induction l with
 | nil => intro acc _; rfl
 | cons d l ih =>
  intro acc h
  simp only [cntl]
  rw [ih _ (fun x hx => by rw [List.length_set]; exact h x (by simp [hx]))]
  have := lsum_set acc d (acc.getD d 0 + 1) (h d (by simp))
  simp only [List.length_cons]
  omega
theorem lsum_zeros (n : Nat) : lsum (List.replicate n 0) = 0 := by
 induction n with
 | zero => rfl
 | succ n ih => rw [List.replicate_succ]; simp only [lsum]; omega
theorem cntl_get (l : List Nat) : ∀ (acc : List Nat) (i : Nat), (∀ d ∈ l, d < acc.length) → (cntl acc l).getD i 0 = acc.getD i 0 + l.count i := by
 induction l with
 | nil => intro acc i _; simp [cntl]
 | cons d l ih =>
  intro acc i h
  simp only [cntl]
  rw [ih _ i (fun x hx => by rw [List.length_set]; exact h x (by simp [hx]))]
  have hd := h d (by simp)
  by_cases e : d = i
  ·subst e
   simp [hd]
   omega
  ·simp [List.getD_eq_getElem?_getD, List.getElem?_set_ne e, List.count_cons, e]
def cnts (b : Nat) (l : List Nat) : List Nat := cntl (List.replicate b 0) l
theorem cnts_len (b : Nat) (l : List Nat) : (cnts b l).length = b := by unfold cnts; rw [cntl_len, List.length_replicate]
theorem cnts_sum (b : Nat) (l : List Nat) (h : ∀ d ∈ l, d < b) : lsum (cnts b l) = l.length := by
 unfold cnts
 rw [cntl_sum l _ (by simpa using h), lsum_zeros, Nat.zero_add]
theorem cnts_get (b : Nat) (l : List Nat) (h : ∀ d ∈ l, d < b) (i : Nat) : (cnts b l).getD i 0 = l.count i := by
 unfold cnts
 rw [cntl_get l _ i (by simpa using h)]
 by_cases hi : i < b
 ·simp [List.getD_eq_getElem?_getD, hi]
 ·simp [List.getD_eq_getElem?_getD, hi]
theorem ic_set (l : List Nat) (i x : Nat) : (ic l).set i (x : Int) = ic (l.set i x) := by simp [ic, List.map_set]
theorem ic_replicate (n : Nat) : List.replicate n (0 : Int) = ic (List.replicate n 0) := by simp [ic]
theorem ic_rdD (l : List Nat) (i : Nat) : rd (ic l) (i : Int) = ((l.getD i 0 : Nat) : Int) := by
 simp only [rd, Int.toNat_natCast, ic, List.getD_eq_getElem?_getD, List.getElem?_map]
 cases l[i]? <;> simp

theorem impl_in_eq (a b c : Int) : impl_in.f a b c = some (decide (b ≤ a ∧ a ≤ c)) := by
 unfold impl_in.f
 by_cases h : b ≤ a <;> simp [h]
theorem spec_l1In_eq (a b c : Int) : spec_l1In.f a b c = some (decide (b ≤ a ∧ a ≤ c)) := by
 unfold spec_l1In.f
 by_cases h : b ≤ a <;> simp [h]

theorem impl_isBase_eq (b : Int) : impl_isBase.f b = some (decide (2 ≤ b ∧ b ≤ 16)) := by simp only [impl_isBase.f, impl_in_eq, Option.bind_some]
theorem spec_dgBase_eq (b : Int) : spec_dgBase.f b = some (decide (2 ≤ b ∧ b ≤ 16)) := by simp only [spec_dgBase.f, spec_l1In_eq, Option.bind_some]

theorem impl_isNumber_eq (n b : Int) : impl_isNumber.f n b = some (decide ((0 ≤ n ∧ n ≤ 1000000000000) ∧ 2 ≤ b ∧ b ≤ 16)) := by
 simp only [impl_isNumber.f, impl_in_eq, impl_isBase_eq, Option.bind_some, decide_eq_true_eq]
 by_cases h : 0 ≤ n ∧ n ≤ 1000000000000 <;> simp [h]
theorem spec_dgAsked_eq (n b : Int) : spec_dgAsked.f n b = some (decide ((0 ≤ n ∧ n ≤ 1000000000000) ∧ 2 ≤ b ∧ b ≤ 16)) := by
 simp only [spec_dgAsked.f, spec_dgNumber.f, spec_l1In_eq, spec_dgBase_eq, Option.bind_some, decide_eq_true_eq]
 by_cases h : 0 ≤ n ∧ n ≤ 1000000000000 <;> simp [h]

theorem tmod_cast (a b : Nat) : Int.tmod (a : Int) (b : Int) = ((a % b : Nat) : Int) := (Int.ofNat_tmod a b).symm
theorem tdiv_cast (a b : Nat) : Int.tdiv (a : Int) (b : Int) = ((a / b : Nat) : Int) := (Int.ofNat_tdiv a b).symm
theorem natOf {a : Int} (h : 0 ≤ a) : ∃ n : Nat, a = (n : Int) := ⟨a.toNat, by omega⟩

theorem reverse_loop (n : Nat) : ∀ (mid pre post : List Int), mid.length ≤ n → pre.length = post.length → (pre ++ mid ++ post).length ≤ 1000000000000 →
  Ev (fun k => slices_Reverse_int_int.l0 k (pre ++ mid ++ post) (pre.length : Int) ((pre.length : Int) + (mid.length : Int) - 1)) (pre ++ mid.reverse ++ post) := by
 induction n with
 | zero =>
  intro mid pre post hm _ _
  obtain rfl : mid = [] := List.eq_nil_of_length_eq_zero (by omega)
  refine evs (fun k => by rw [slices_Reverse_int_int.l0]) ?_
  exact evn (by simp; omega) (evr (by simp))
 | succ n ih =>
  intro mid pre post hm hp hl
  cases mid with
  | nil =>
   refine evs (fun k => by rw [slices_Reverse_int_int.l0]) ?_
   exact evn (by simp; omega) (evr (by simp))
  | cons a t =>
   by_cases ht : t = []
   ·subst ht
    refine evs (fun k => by rw [slices_Reverse_int_int.l0]) ?_
    exact evn (by simp) (evr (by simp))
   ·obtain ⟨m, b, rfl⟩ : ∃ m b, t = m ++ [b] := ⟨t.dropLast, t.getLast ht, (List.dropLast_concat_getLast ht).symm⟩
    simp only [List.length_append, List.length_cons, List.length_nil] at hm hl
    have e0 : pre ++ (a :: (m ++ [b])) ++ post = pre ++ a :: (m ++ b :: post) := by simp
    have e1 : pre ++ (a :: (m ++ [b])) ++ post = (pre ++ a :: m) ++ b :: post := by simp
    have hj : ((pre.length : Int) + (((a :: (m ++ [b])).length : Nat) : Int) - 1) = (((pre ++ a :: m).length : Nat) : Int) := by simp; omega
    have r1 : rd (pre ++ (a :: (m ++ [b])) ++ post) (((pre ++ a :: m).length : Nat) : Int) = b := by rw [e1, rd_mid]
    have r0 : rd (pre ++ (a :: (m ++ [b])) ++ post) ((pre.length : Nat) : Int) = a := by rw [e0, rd_mid]
    have hset : ((pre ++ (a :: (m ++ [b])) ++ post).set (pre.length : Int).toNat b).set (((pre ++ a :: m).length : Nat) : Int).toNat a = (pre ++ [b]) ++ m ++ (a :: post) := by
     rw [e0, Int.toNat_natCast, Int.toNat_natCast, set_mid]
     have e2 : pre ++ b :: (m ++ b :: post) = (pre ++ b :: m) ++ b :: post := by simp
     have e3 : (pre ++ a :: m).length = (pre ++ b :: m).length := by simp
     rw [e2, e3, set_mid]
     simp
    have h := ih m (pre ++ [b]) (a :: post) (by omega) (by simp; omega) (by simp; omega)
    have hj2 : (((pre ++ a :: m).length : Nat) : Int) = (pre.length : Int) + (m.length : Int) + 1 := by simp; omega
    have hlen : (((pre ++ (a :: (m ++ [b])) ++ post).length : Nat) : Int) = (pre.length : Int) + (m.length : Int) + 2 + (post.length : Int) := by simp; omega
    refine evs (fun k => by rw [slices_Reverse_int_int.l0]) ?_
    rw [hj, r1, r0, hset, hlen, hj2, w64o (x := (pre.length : Int) + 1), w64o (x := (pre.length : Int) + (m.length : Int) + 1 - 1)]
    refine evp (by omega) (evp (by omega) (evp (by omega) (evp (by omega) (evp (by omega) ?_))))
    have e4 : (((pre ++ [b]).length : Nat) : Int) = (pre.length : Int) + 1 := by simp
    rw [e4, show (pre.length : Int) + 1 + (m.length : Int) - 1 = (pre.length : Int) + (m.length : Int) + 1 - 1 by omega] at h
    have e5 : (pre ++ [b]) ++ m.reverse ++ (a :: post) = pre ++ (a :: (m ++ [b])).reverse ++ post := by simp
    rw [e5] at h
    exact h
theorem reverse_ev (l : List Int) (h : l.length ≤ 1000000000000) : Ev (fun k => slices_Reverse_int_int.f k l) l.reverse := by
 unfold slices_Reverse_int_int.f
 rw [w64 (by omega) (by omega)]
 have := reverse_loop l.length l [] [] (Nat.le_refl _) rfl (by simpa using h)
 simpa using this

theorem spec_dgOf_loop (b : Nat) (hb : 2 ≤ b) (n : Nat) : ∀ acc : List Nat, acc.length + (low b n).length ≤ 1000000 → n ≤ 1000000000001 → Ev (fun k => spec_dgOf.l0 k (n : Int) (b : Int) (ic acc)) (ic ((low b n).reverse ++ acc)) := by
 induction n using Nat.strongRecOn with
 | _ n ih =>
  intro acc hl hn
  refine evs (fun k => by rw [spec_dgOf.l0]) ?_
  by_cases h : n = 0
  ·subst h
   exact evn (by omega) (evr (by simp [low_zero]))
  ·have hlt : n / b < n := Nat.div_lt_self (by omega) (by omega)
   rw [low_succ hb (by omega), List.length_cons] at hl
   have h2 := ih (n / b) hlt (n % b :: acc) (by simp only [List.length_cons]; omega) (by omega)
   rw [tmod_cast, tdiv_cast, w64n (n / b) (by omega), low_succ hb (by omega)]
   refine evp (by omega) (evn (by omega) ?_)
   simp only [Option.bind_some]
   refine evp (by simp only [List.length_cons, List.length_nil, ic_length]; omega) ?_
   simpa [ic] using h2
theorem spec_dgOf_ev1 (b n : Nat) (hb : 2 ≤ b) (hn : n ≤ 1000000000001) : Ev (fun k => spec_dgOf.f k (n : Int) (b : Int)) (ic (dgl b n)) := by
 unfold spec_dgOf.f
 by_cases h : n = 0
 ·subst h
  exact evp (by omega) (evr (by simp [dgl, ic]))
 ·have hl := low_len hb 40 n (by omega)
  have h2 := spec_dgOf_loop b hb n [] (by simp; omega) hn
  unfold dgl
  rw [if_neg h]
  exact evn (by omega) (by simpa [ic] using h2)
theorem impl_digitsOf_loop (b : Nat) (hb : 2 ≤ b) (n : Nat) : ∀ acc : List Nat, acc.length + (low b n).length ≤ 1000000 → n ≤ 1000000000001 → Ev (fun k => impl_digitsOf.l0 k (n : Int) (b : Int) (ic acc)) (ic (acc ++ low b n).reverse) := by
 induction n using Nat.strongRecOn with
 | _ n ih =>
  intro acc hl hn
  refine evs (fun k => by rw [impl_digitsOf.l0]) ?_
  by_cases h : n = 0
  ·subst h
   refine evn (by omega) (evb (reverse_ev (ic acc) (by rw [ic_length]; omega)) (evr ?_))
   rw [low_zero, List.append_nil, ic_reverse]
  ·have hlt : n / b < n := Nat.div_lt_self (by omega) (by omega)
   rw [low_succ hb (by omega), List.length_cons] at hl
   have h2 := ih (n / b) hlt (acc ++ [n % b]) (by simp only [List.length_append, List.length_cons, List.length_nil]; omega) (by omega)
   rw [tmod_cast, tdiv_cast, w64n (n / b) (by omega), low_succ hb (by omega)]
   refine evp (by omega) (evn (by omega) (evp (by rw [ic_length]; omega) ?_))
   rw [ic_append, List.append_assoc] at h2
   simpa [ic] using h2
theorem impl_digitsOf_ev1 (b n : Nat) (hb : 2 ≤ b) (hn : n ≤ 1000000000001) : Ev (fun k => impl_digitsOf.f k (n : Int) (b : Int)) (ic (dgl b n)) := by
 unfold impl_digitsOf.f
 have hdv : n / b ≤ n := Nat.div_le_self _ _
 have hl := low_len hb 40 (n / b) (by omega)
 have h2 := impl_digitsOf_loop b hb (n / b) [n % b] (by simp only [List.length_cons, List.length_nil]; omega) (by omega)
 rw [tmod_cast, tdiv_cast, w64n (n / b) (by omega)]
 refine evn (by omega) ?_
 unfold dgl
 by_cases h : n = 0
 ·subst h
  rw [if_pos rfl]
  rw [Nat.zero_div, low_zero] at h2
  simpa [ic, Nat.zero_mod] using h2
 ·rw [if_neg h, low_succ hb (by omega)]
  simpa [ic] using h2
theorem spec_dgOf_ev (b n : Nat) (hb : 2 ≤ b) (hn : n ≤ 1000000000000) : Ev (fun k => spec_dgOf.f k (n : Int) (b : Int)) (ic (dgl b n)) := spec_dgOf_ev1 b n hb (by omega)
theorem impl_digitsOf_ev (b n : Nat) (hb : 2 ≤ b) (hn : n ≤ 1000000000000) : Ev (fun k => impl_digitsOf.f k (n : Int) (b : Int)) (ic (dgl b n)) := impl_digitsOf_ev1 b n hb (by omega)

theorem impl_value_loop (b : Nat) (hb : 2 ≤ b) (hb2 : b ≤ 16) (post : List Nat) : ∀ (pre : List Nat) (v : Nat), v ≤ 1000000000000 → (∀ d ∈ post, d < b) → (pre ++ post).length ≤ 1000000000000 →
  Ev (fun k => impl_value.l0 k (b : Int) (v : Int) (ic (pre ++ post)) ((pre ++ post).length : Int) (pre.length : Int)) (if val b v post ≤ 1000000000000 then ((val b v post : Nat) : Int) else 1000000000001) := by
 induction post with
 | nil =>
  intro pre v hv hd hl
  refine evs (fun k => by rw [impl_value.l0]) ?_
  exact evn (by simp) (evr (by simp [val, hv]))
 | cons d post ih =>
  intro pre v hv hd hl
  have hl2 : (pre ++ d :: post).length = pre.length + (post.length + 1) := by simp
  have hd1 := hd d (by simp)
  have hm : v * b ≤ 1000000000000 * 16 := Nat.mul_le_mul hv hb2
  have e1 : (v : Int) * (b : Int) = ((v * b : Nat) : Int) := (Int.natCast_mul _ _).symm
  have e2 : ((v * b : Nat) : Int) + (d : Int) = ((v * b + d : Nat) : Int) := by omega
  refine evs (fun k => by rw [impl_value.l0]) ?_
  rw [ic_rd, ic_length, hl2, e1, w64n (v * b) (by omega), e2, w64n (v * b + d) (by omega), w64o (x := (pre.length : Int) + 1)]
  refine evp (by omega) (evp (by omega) (evp (by omega) ?_))
  rw [show val b v (d :: post) = val b (v * b + d) post from rfl]
  by_cases h : v * b + d ≤ 1000000000000
  ·have h3 := ih (pre ++ [d]) (v * b + d) h (fun x hx => hd x (by simp [hx])) (by simp at hl ⊢; omega)
   rw [List.append_assoc, List.singleton_append, hl2] at h3
   have e3 : (((pre ++ [d]).length : Nat) : Int) = (pre.length : Int) + 1 := by simp
   rw [e3] at h3
   exact evn (by omega) h3
  ·have h4 := val_ge (b := b) (by omega) post (v * b + d)
   rw [if_neg (by omega)]
   exact evp (by omega) (Ev.now _)
theorem impl_value_ev (b : Nat) (hb : 2 ≤ b) (hb2 : b ≤ 16) (l : List Nat) (hd : ∀ d ∈ l, d < b) (hl : l.length ≤ 1000000000000) : Ev (fun k => impl_value.f k (ic l) (b : Int)) (if val b 0 l ≤ 1000000000000 then ((val b 0 l : Nat) : Int) else 1000000000001) := by
 have h := impl_value_loop b hb hb2 l [] 0 (by omega) hd (by simpa using hl)
 unfold impl_value.f
 rw [ic_length]
 simpa using h
theorem spec_dgFrom_loop (b : Nat) (hb : 2 ≤ b) (hb2 : b ≤ 16) (post : List Nat) : ∀ (pre : List Nat) (v : Nat), v ≤ 1000000000000 → (∀ d ∈ post, d < b) → (pre ++ post).length ≤ 1000000000000 →
  Ev (fun k => spec_dgFrom.l0 k (b : Int) (v : Int) (ic (pre ++ post)) ((pre ++ post).length : Int) (pre.length : Int)) (if val b v post ≤ 1000000000000 then (((val b v post : Nat) : Int), true) else (0, false)) := by
 induction post with
 | nil =>
  intro pre v hv hd hl
  refine evs (fun k => by rw [spec_dgFrom.l0]) ?_
  exact evn (by simp) (evr (by simp [val, hv]))
 | cons d post ih =>
  intro pre v hv hd hl
  have hl2 : (pre ++ d :: post).length = pre.length + (post.length + 1) := by simp
  have hd1 := hd d (by simp)
  have hm : v * b ≤ 1000000000000 * 16 := Nat.mul_le_mul hv hb2
  have e1 : (v : Int) * (b : Int) = ((v * b : Nat) : Int) := (Int.natCast_mul _ _).symm
  have e2 : ((v * b : Nat) : Int) + (d : Int) = ((v * b + d : Nat) : Int) := by omega
  refine evs (fun k => by rw [spec_dgFrom.l0]) ?_
  rw [ic_rd, ic_length, hl2, e1, w64n (v * b) (by omega), e2, w64n (v * b + d) (by omega), w64o (x := (pre.length : Int) + 1)]
  refine evp (by omega) (evp (by omega) (evp (by omega) ?_))
  rw [show val b v (d :: post) = val b (v * b + d) post from rfl]
  by_cases h : v * b + d ≤ 1000000000000
  ·have h3 := ih (pre ++ [d]) (v * b + d) h (fun x hx => hd x (by simp [hx])) (by simp at hl ⊢; omega)
   rw [List.append_assoc, List.singleton_append, hl2] at h3
   have e3 : (((pre ++ [d]).length : Nat) : Int) = (pre.length : Int) + 1 := by simp
   rw [e3] at h3
   exact evn (by omega) h3
  ·have h4 := val_ge (b := b) (by omega) post (v * b + d)
   rw [if_neg (by omega)]
   exact evp (by omega) (Ev.now _)
def told (n : Nat) : Int × Bool := if n ≤ 1000000000000 then ((n : Int), true) else (0, false)
theorem spec_dgFrom_ev (b : Nat) (hb : 2 ≤ b) (hb2 : b ≤ 16) (l : List Nat) (hd : ∀ d ∈ l, d < b) (hl : l.length ≤ 1000000000000) : Ev (fun k => spec_dgFrom.f k (ic l) (b : Int)) (told (val b 0 l)) := by
 have h := spec_dgFrom_loop b hb hb2 l [] 0 (by omega) hd (by simpa using hl)
 unfold spec_dgFrom.f told
 rw [ic_length]
 simpa using h
theorem sort_nat (l : List Nat) : ∃ s : List Nat, ((ic l).mergeSort fun x y => decide (x ≤ y)) = ic s ∧ s.Perm l ∧ s.Pairwise (· ≤ ·) := by
 have hp := List.mergeSort_perm (ic l) (fun x y => decide (x ≤ y))
 have hs : ((ic l).mergeSort fun x y => decide (x ≤ y)).Pairwise (fun x y => decide (x ≤ y) = true) := List.pairwise_mergeSort (fun a b c h1 h2 => by simp at *; omega) (fun a b => by simp; omega) (ic l)
 generalize ((ic l).mergeSort fun x y => decide (x ≤ y)) = m at hp hs
 have hnn : ∀ x ∈ m, 0 ≤ x := fun x hx => by
  have h1 := hp.mem_iff.1 hx
  unfold ic at h1
  obtain ⟨y, _, rfl⟩ := List.mem_map.1 h1
  omega
 have e : m = ic (m.map Int.toNat) := by
  unfold ic
  rw [List.map_map]
  refine (List.map_id' m).symm.trans (List.map_congr_left (fun x hx => ?_))
  have := hnn x hx
  simp only [Function.comp]
  omega
 refine ⟨m.map Int.toNat, e, ?_, ?_⟩
 ·have h1 := hp.map Int.toNat
  unfold ic at h1
  rw [List.map_map, show (Int.toNat ∘ fun (x : Nat) => (x : Int)) = id from funext (fun x => Int.toNat_natCast x), List.map_id] at h1
  exact h1
 ·rw [List.pairwise_map]
  exact hs.imp (fun h => by simp at h; omega)

def bin : Nat → Nat → Nat
 | 0, _ => 1
 | _ + 1, 0 => 1
 | m + 1, i + 1 => bin m (i + 1) + bin (m + 1) i
theorem bin_r0 (m : Nat) : bin m 0 = 1 := by cases m <;> simp [bin]
theorem bin_pos (m : Nat) : ∀ i, 1 ≤ bin m i := by
 induction m with
 | zero => intro i; simp [bin]
 | succ m ih =>
  intro i
  cases i with
  | zero => simp [bin]
  | succ i => have := ih (i + 1); simp only [bin]; omega
theorem bin_q {m : Nat} (hP : ∀ i, bin m (i + 1) * (i + 1) = bin m i * (m + i + 1)) : ∀ j, bin (m + 1) j * (m + 1) = bin m j * (m + j + 1) := by
 intro j
 induction j with
 | zero => simp [bin, bin_r0]
 | succ j ih =>
  have h1 := hP j
  simp only [bin]
  rw [Nat.add_mul, ih, ← h1, ← Nat.mul_add]
  congr 1
  omega
theorem bin_p (m : Nat) : ∀ i, bin m (i + 1) * (i + 1) = bin m i * (m + i + 1) := by
 induction m with
 | zero => intro i; simp [bin]
 | succ m ih =>
  have hQ := bin_q ih
  intro i
  induction i with
  | zero =>
   have h1 := ih 0
   rw [bin_r0] at h1
   simp only [bin, bin_r0]
   omega
  | succ i ih2 =>
   have h2 := hQ (i + 1)
   have e : bin (m + 1) (i + 1 + 1) = bin m (i + 1 + 1) + bin (m + 1) (i + 1) := by rw [bin]
   rw [e, Nat.add_mul, ih (i + 1), ← h2, ← Nat.mul_add]
   congr 1
theorem bin_step (m i : Nat) : bin m i * (m + i + 1) / (i + 1) = bin m (i + 1) := by
 rw [← bin_p, Nat.mul_div_cancel _ (by omega)]
theorem bin_stepw (w m i : Nat) : w * bin m i * (m + i + 1) / (i + 1) = w * bin m (i + 1) := by
 rw [Nat.mul_assoc, ← bin_p, ← Nat.mul_assoc, Nat.mul_div_cancel _ (by omega)]
theorem bin_bound (j m : Nat) : ∀ i, bin m i * j ^ m ≤ (j + 1) ^ (m + i) := by
 induction m with
 | zero => intro i; simp only [bin, Nat.pow_zero, Nat.mul_one]; exact Nat.pow_pos (by omega)
 | succ m ih =>
  intro i
  induction i with
  | zero => simp only [bin, Nat.one_mul]; exact Nat.pow_le_pow_left (by omega) _
  | succ i ih2 =>
   have h1 := Nat.mul_le_mul_right j (ih (i + 1))
   have e : (j + 1) ^ (m + 1 + (i + 1)) = (j + 1) ^ (m + (i + 1)) * j + (j + 1) ^ (m + 1 + i) := by
    rw [show m + 1 + (i + 1) = (m + (i + 1)) + 1 by omega, Nat.pow_succ, Nat.mul_add, Nat.mul_one, show m + 1 + i = m + (i + 1) by omega]
   simp only [bin]
   rw [Nat.add_mul, e, Nat.pow_succ, ← Nat.mul_assoc]
   rw [Nat.pow_succ] at ih2
   exact Nat.add_le_add h1 ih2
theorem bin_up (m : Nat) : ∀ i, bin m i ≤ bin (m + 1) i := by
 intro i
 cases i with
 | zero => rw [bin_r0, bin_r0]; exact Nat.le_refl _
 | succ i => simp only [bin]; omega
theorem bin_lt (m i : Nat) : bin m (i + 1) < bin (m + 1) (i + 1) := by
 have := bin_pos (m + 1) i
 simp only [bin]
 omega
theorem bin_mono (m : Nat) : ∀ i, bin m i ≤ bin m (i + 1) := by
 intro i
 cases m with
 | zero => simp [bin]
 | succ m => simp only [bin]; omega
def ways : Nat → Nat → List Nat → Nat
 | _, w, [] => w
 | m, w, c :: l => ways (m + c) (w * bin m c) l
theorem ways_mul (l : List Nat) : ∀ m w, ways m w l = w * ways m 1 l := by
 induction l with
 | nil => intro m w; simp [ways]
 | cons c l ih =>
  intro m w
  simp only [ways]
  rw [ih _ (w * bin m c), ih _ (1 * bin m c), Nat.one_mul, Nat.mul_assoc]
theorem ways_pos (l : List Nat) : ∀ m w, 1 ≤ w → 1 ≤ ways m w l := by
 induction l with
 | nil => intro m w h; exact h
 | cons c l ih => intro m w h; exact ih _ _ (Nat.mul_pos h (bin_pos m c))
theorem ways_up (l : List Nat) : ∀ m, ways m 1 l ≤ ways (m + 1) 1 l := by
 induction l with
 | nil => intro m; exact Nat.le_refl _
 | cons c l ih =>
  intro m
  simp only [ways]
  rw [ways_mul, ways_mul l (m + 1 + c), Nat.one_mul, Nat.one_mul, show m + 1 + c = m + c + 1 by omega]
  exact Nat.mul_le_mul (bin_up m c) (ih _)
theorem ways_lt (l : List Nat) : ∀ m, 1 ≤ lsum l → ways m 1 l < ways (m + 1) 1 l := by
 induction l with
 | nil => intro m h; simp [lsum] at h
 | cons c l ih =>
  intro m h
  simp only [ways]
  rw [ways_mul, ways_mul l (m + 1 + c), Nat.one_mul, Nat.one_mul, show m + 1 + c = m + c + 1 by omega]
  have h1 := ways_pos l (m + c) 1 (Nat.le_refl _)
  have h2 := bin_pos m c
  cases c with
  | zero =>
   have h3 := ih (m + 0) (by simpa [lsum] using h)
   rw [bin_r0, bin_r0, Nat.one_mul, Nat.one_mul]
   exact h3
  | succ c =>
   have h3 := bin_lt m c
   have h4 := ways_up l (m + (c + 1))
   exact Nat.lt_of_lt_of_le (Nat.mul_lt_mul_of_pos_right h3 h1) (Nat.mul_le_mul_left _ h4)

theorem val_mono_v {b : Nat} (l : List Nat) : ∀ v w : Nat, v ≤ w → val b v l ≤ val b w l := by
 induction l with
 | nil => intro v w h; exact h
 | cons d l ih =>
  intro v w h
  exact ih _ _ (by have := Nat.mul_le_mul_right b h; omega)
theorem bubble {b : Nat} (hb : 1 ≤ b) (x : Nat) (t s : List Nat) : ∀ v : Nat, (∀ y ∈ s, y ≤ x) → val b v (s ++ x :: t) ≤ val b v (x :: (s ++ t)) := by
 induction s with
 | nil => intro v _; exact Nat.le_refl _
 | cons y s ih =>
  intro v h
  have h1 := ih (v * b + y) (fun z hz => h z (by simp [hz]))
  have hy := h y (by simp)
  refine Nat.le_trans h1 ?_
  show val b ((v * b + y) * b + x) (s ++ t) ≤ val b ((v * b + x) * b + y) (s ++ t)
  refine val_mono_v _ _ _ ?_
  rw [Nat.add_mul, Nat.add_mul]
  obtain ⟨d, rfl⟩ := Nat.exists_eq_add_of_le hy
  rw [Nat.add_mul]
  have : d ≤ d * b := Nat.le_mul_of_pos_right d (by omega)
  omega
theorem sorted_least {b : Nat} (hb : 1 ≤ b) (l : List Nat) : ∀ (s : List Nat) (v : Nat), s.Perm l → s.Pairwise (· ≤ ·) → val b v s ≤ val b v l := by
 induction l with
 | nil => intro s v hp _; rw [hp.eq_nil]; exact Nat.le_refl _
 | cons x l ih =>
  intro s v hp hs
  have hx : x ∈ s := hp.mem_iff.2 (by simp)
  obtain ⟨s1, s2, rfl⟩ := List.append_of_mem hx
  have hs' := List.pairwise_append.1 hs
  have hle : ∀ y ∈ s1, y ≤ x := fun y hy => hs'.2.2 y hy x (by simp)
  have hp2 : (s1 ++ s2).Perm l := by
   have h1 : (x :: (s1 ++ s2)).Perm (x :: l) := List.perm_middle.symm.trans hp
   exact h1.cons_inv
  have hs2 : (s1 ++ s2).Pairwise (· ≤ ·) := List.pairwise_append.2 ⟨hs'.1, (List.pairwise_cons.1 hs'.2.1).2, fun a ha c hc => hs'.2.2 a ha c (by simp [hc])⟩
  exact Nat.le_trans (bubble hb x s2 s1 v hle) (ih _ _ hp2 hs2)
def ex : Nat → List Nat → List Nat
 | _, [] => []
 | d, c :: l => List.replicate c d ++ ex (d + 1) l
theorem ex_len (l : List Nat) : ∀ d, (ex d l).length = lsum l := by
 induction l with
 | nil => intro d; rfl
 | cons c l ih => intro d; simp only [ex, lsum, List.length_append, List.length_replicate]; rw [ih]
theorem ex_mem (l : List Nat) : ∀ d x, x ∈ ex d l → d ≤ x ∧ x < d + l.length := by
 induction l with
 | nil => intro d x h; simp [ex] at h
 | cons c l ih =>
  intro d x h
  simp only [ex, List.mem_append, List.mem_replicate] at h
  simp only [List.length_cons]
  rcases h with h | h
  ·omega
  ·have := ih _ _ h; omega
theorem ex_sorted (l : List Nat) : ∀ d, (ex d l).Pairwise (· ≤ ·) := by
 induction l with
 | nil => intro d; simp [ex]
 | cons c l ih =>
  intro d
  simp only [ex]
  refine List.pairwise_append.2 ⟨?_, ih _, fun x hx y hy => ?_⟩
  ·rw [List.pairwise_replicate]; right; exact Nat.le_refl _
  ·have h1 := ex_mem l _ _ hy
   have h2 := (List.mem_replicate.1 hx).2
   omega
theorem ex_count (l : List Nat) : ∀ d i, (ex d l).count (d + i) = l.getD i 0 := by
 induction l with
 | nil => intro d i; simp [ex]
 | cons c l ih =>
  intro d i
  simp only [ex, List.count_append]
  cases i with
  | zero =>
   have h0 : (ex (d + 1) l).count d = 0 := List.count_eq_zero.2 (fun h => by have := ex_mem l _ _ h; omega)
   rw [Nat.add_zero, h0]
   simp
  | succ i =>
   have h0 : (List.replicate c d).count (d + (i + 1)) = 0 := List.count_eq_zero.2 (fun h => by have := (List.mem_replicate.1 h).2; omega)
   rw [h0, show d + (i + 1) = d + 1 + i by omega, ih]
   simp
theorem ex_perm {b : Nat} (l : List Nat) (h : ∀ d ∈ l, d < b) : (ex 0 (cnts b l)).Perm l := by
 refine List.perm_iff_count.2 (fun a => ?_)
 have h1 := ex_count (cnts b l) 0 a
 rw [Nat.zero_add] at h1
 rw [h1, cnts_get b l h]
theorem sorted_eq {s t : List Nat} (h : s.Perm t) (hs : s.Pairwise (· ≤ ·)) (ht : t.Pairwise (· ≤ ·)) : s = t :=
 List.Perm.eq_of_pairwise (le := fun x y : Nat => x ≤ y) (fun a c _ _ h1 h2 => Nat.le_antisymm h1 h2) hs ht h
theorem ex_uniq {b : Nat} {s l : List Nat} (h : ∀ d ∈ l, d < b) (hp : s.Perm l) (hs : s.Pairwise (· ≤ ·)) : s = ex 0 (cnts b l) :=
 sorted_eq (hp.trans (ex_perm l h).symm) hs (ex_sorted _ _)
theorem list_ext0 {l m : List Nat} (hl : l.length = m.length) (h : ∀ i, l.getD i 0 = m.getD i 0) : l = m := by
 refine List.ext_getElem hl (fun i h1 h2 => ?_)
 have := h i
 simpa [List.getD_eq_getElem?_getD, h1, h2] using this
theorem ex_cnts (l : List Nat) : cnts l.length (ex 0 l) = l := by
 refine list_ext0 (cnts_len _ _) (fun i => ?_)
 rw [cnts_get _ _ (fun d hd => by have := ex_mem l _ _ hd; omega)]
 have := ex_count l 0 i
 rwa [Nat.zero_add] at this
theorem cnts_perm {b : Nat} {l m : List Nat} (hp : l.Perm m) (h : ∀ d ∈ m, d < b) : cnts b l = cnts b m := by
 refine list_ext0 (by rw [cnts_len, cnts_len]) (fun i => ?_)
 rw [cnts_get b l (fun d hd => h d (hp.mem_iff.1 hd)), cnts_get b m h, hp.count_eq]
def lsm (z : Nat) : List Nat → List Nat
 | [] => List.replicate z 0
 | x :: t => x :: (List.replicate z 0 ++ t)
def lst : List Nat → List Nat
 | [] => []
 | z :: l => lsm z (ex 1 l)
theorem lst_perm (l : List Nat) : (lst l).Perm (ex 0 l) := by
 cases l with
 | nil => exact List.Perm.refl _
 | cons z l =>
  simp only [lst, ex]
  cases ex 1 l with
  | nil => rw [List.append_nil]; exact List.Perm.refl _
  | cons x t => exact List.perm_middle.symm
theorem dgl_head {b : Nat} (hb : 2 ≤ b) (n : Nat) (hn : 1 ≤ n) : ∃ x t, dgl b n = x :: t ∧ 1 ≤ x := by
 have h1 := dgl_pos b n hb
 have h2 := dgl_lower hb n hn
 have h3 := dgl_val hb n
 have h4 := dgl_lt hb n
 cases h : dgl b n with
 | nil => rw [h] at h1; simp at h1
 | cons x t =>
  refine ⟨x, t, rfl, ?_⟩
  rw [h] at h2 h3 h4
  by_cases h0 : x = 0
  ·subst h0
   have h5 := val_lt0 t (fun d hd => h4 d (by simp [hd]))
   rw [val_cons, Nat.zero_mul, Nat.zero_add] at h3
   rw [List.length_cons, Nat.add_sub_cancel] at h2
   omega
  ·omega
theorem dgl_cons {b : Nat} (hb : 2 ≤ b) (x : Nat) (t : List Nat) (hx : 1 ≤ x) (hd : ∀ d ∈ x :: t, d < b) : dgl b (val b 0 (x :: t)) = x :: t := by
 refine dgl_of_val hb _ (by simp) hd ?_
 rw [val_cons, List.length_cons, Nat.add_sub_cancel]
 have := Nat.mul_le_mul_right (b ^ t.length) hx
 omega
theorem lst_least {b : Nat} (hb : 2 ≤ b) (n : Nat) (hn : 1 ≤ n) : val b 0 (lst (cnts b (dgl b n))) ≤ n := by
 obtain ⟨x, t, h1, h2⟩ := dgl_head hb n hn
 have hd := dgl_lt hb n
 have hv := dgl_val hb n
 have hp := ex_perm (dgl b n) hd
 have hl := cnts_len b (dgl b n)
 have hd2 : ∀ d ∈ lst (cnts b (dgl b n)), d < b := fun d h => hd d (hp.mem_iff.1 ((lst_perm _).mem_iff.1 h))
 have hp2 := (lst_perm (cnts b (dgl b n))).trans hp
 cases hc : cnts b (dgl b n) with
 | nil => rw [hc] at hl; simp at hl; omega
 | cons z l =>
  rw [hc] at hp hp2 hd2
  have hx : x ∈ ex 0 (z :: l) := hp.mem_iff.2 (by rw [h1]; simp)
  have hx1 : x ∈ ex 1 l := by
   simp only [ex, List.mem_append, List.mem_replicate] at hx
   rcases hx with hx | hx
   ·omega
   ·exact hx
  have hs := ex_sorted l 1
  have hz : ∀ w ∈ ex 1 l, 1 ≤ w := fun w hw => (ex_mem l _ _ hw).1
  simp only [lst] at hd2 hp2 ⊢
  cases he : ex 1 l with
  | nil => rw [he] at hx1; simp at hx1
  | cons f r =>
   rw [he] at hx1 hs hd2 hp2 hz
   simp only [lsm] at hd2 hp2 ⊢
   have hfx : f ≤ x := by
    rcases List.mem_cons.1 hx1 with h | h
    ·omega
    ·exact (List.pairwise_cons.1 hs).1 x h
   have hlen : (List.replicate z 0 ++ r).length = t.length := by
    have := hp2.length_eq
    rw [h1] at this
    simpa using this
   rw [← hv, h1, val_cons, val_cons, hlen]
   by_cases hfe : f = x
   ·subst hfe
    rw [h1] at hp2
    have hp3 : (List.replicate z 0 ++ r).Perm t := hp2.cons_inv
    have hs3 : (List.replicate z 0 ++ r).Pairwise (· ≤ ·) := by
     refine List.pairwise_append.2 ⟨by rw [List.pairwise_replicate]; right; exact Nat.le_refl _, (List.pairwise_cons.1 hs).2, fun a ha c _ => ?_⟩
     rw [(List.mem_replicate.1 ha).2]
     exact Nat.zero_le _
    have := sorted_least (b := b) (by omega) t _ 0 hp3 hs3
    omega
   ·have h5 := val_lt0 (b := b) (List.replicate z 0 ++ r) (fun d h => hd2 d (by simp at h ⊢; right; exact h))
    rw [hlen] at h5
    have h6 : (f + 1) * b ^ t.length ≤ x * b ^ t.length := Nat.mul_le_mul_right _ (by omega)
    rw [Nat.add_mul, Nat.one_mul] at h6
    omega
theorem lst_back {b : Nat} (hb : 2 ≤ b) (l : List Nat) (hl : l.length = b) (h : lst l = [0] ∨ ∃ x t, lst l = x :: t ∧ 1 ≤ x) : dgl b (val b 0 (lst l)) = lst l := by
 have hd : ∀ d ∈ lst l, d < b := fun d h => by have := ex_mem l _ _ ((lst_perm _).mem_iff.1 h); omega
 rcases h with h | ⟨x, t, h, hx⟩
 ·rw [h]; simp [val, dgl]
 ·rw [h] at hd ⊢
  exact dgl_cons hb x t hx hd
theorem bubble_up {b : Nat} (hb : 1 ≤ b) (x : Nat) (t s : List Nat) : ∀ v : Nat, (∀ y ∈ s, x ≤ y) → val b v (x :: (s ++ t)) ≤ val b v (s ++ x :: t) := by
 induction s with
 | nil => intro v _; exact Nat.le_refl _
 | cons y s ih =>
  intro v h
  have h1 := ih (v * b + y) (fun z hz => h z (by simp [hz]))
  have hy := h y (by simp)
  refine Nat.le_trans ?_ h1
  show val b ((v * b + x) * b + y) (s ++ t) ≤ val b ((v * b + y) * b + x) (s ++ t)
  refine val_mono_v _ _ _ ?_
  rw [Nat.add_mul, Nat.add_mul]
  obtain ⟨d, rfl⟩ := Nat.exists_eq_add_of_le hy
  rw [Nat.add_mul]
  have : d ≤ d * b := Nat.le_mul_of_pos_right d (by omega)
  omega
theorem sorted_most {b : Nat} (hb : 1 ≤ b) (l : List Nat) : ∀ (s : List Nat) (v : Nat), s.Perm l → s.Pairwise (fun x y => y ≤ x) → val b v l ≤ val b v s := by
 induction l with
 | nil => intro s v hp _; rw [hp.eq_nil]; exact Nat.le_refl _
 | cons x l ih =>
  intro s v hp hs
  have hx : x ∈ s := hp.mem_iff.2 (by simp)
  obtain ⟨s1, s2, rfl⟩ := List.append_of_mem hx
  have hs' := List.pairwise_append.1 hs
  have hle : ∀ y ∈ s1, x ≤ y := fun y hy => hs'.2.2 y hy x (by simp)
  have hp2 : (s1 ++ s2).Perm l := by
   have h1 : (x :: (s1 ++ s2)).Perm (x :: l) := List.perm_middle.symm.trans hp
   exact h1.cons_inv
  have hs2 : (s1 ++ s2).Pairwise (fun x y => y ≤ x) := List.pairwise_append.2 ⟨hs'.1, (List.pairwise_cons.1 hs'.2.1).2, fun a ha c hc => hs'.2.2 a ha c (by simp [hc])⟩
  exact Nat.le_trans (ih _ _ hp2 hs2) (bubble_up hb x s2 s1 v hle)
def srt (b n : Nat) : List Nat := ex 0 (cnts b (dgl b n))
theorem srt_perm {b : Nat} (hb : 2 ≤ b) (n : Nat) : (srt b n).Perm (dgl b n) := ex_perm _ (dgl_lt hb n)
theorem srt_sorted (b n : Nat) : (srt b n).Pairwise (· ≤ ·) := ex_sorted _ _
theorem srt_lt {b : Nat} (hb : 2 ≤ b) (n : Nat) : ∀ d ∈ srt b n, d < b := fun d h => dgl_lt hb n d ((srt_perm hb n).mem_iff.1 h)
theorem srt_len {b : Nat} (hb : 2 ≤ b) (n : Nat) : (srt b n).length = (dgl b n).length := (srt_perm hb n).length_eq
theorem srt_up {b : Nat} (hb : 2 ≤ b) (n : Nat) : val b 0 (srt b n) ≤ n := by
 have := sorted_least (b := b) (by omega) (dgl b n) _ 0 (srt_perm hb n) (srt_sorted b n)
 rwa [dgl_val hb] at this
theorem srt_down {b : Nat} (hb : 2 ≤ b) (n : Nat) : n ≤ val b 0 (srt b n).reverse := by
 have := sorted_most (b := b) (by omega) (dgl b n) (srt b n).reverse 0 ((List.reverse_perm _).trans (srt_perm hb n)) (by rw [List.pairwise_reverse]; exact srt_sorted b n)
 rwa [dgl_val hb] at this
theorem srt_cnts {b : Nat} (hb : 2 ≤ b) (n m : Nat) : srt b n = srt b m ↔ cnts b (dgl b n) = cnts b (dgl b m) := by
 refine ⟨fun h => ?_, fun h => by unfold srt; rw [h]⟩
 have h1 := ex_cnts (cnts b (dgl b n))
 have h2 := ex_cnts (cnts b (dgl b m))
 rw [cnts_len] at h1 h2
 unfold srt at h
 rw [← h1, ← h2, h]
theorem srt_back {b : Nat} (hb : 2 ≤ b) (n : Nat) : dgl b (val b 0 (srt b n).reverse) = (srt b n).reverse := by
 by_cases hn : n = 0
 ·subst hn
  have h1 : dgl b 0 = [0] := by unfold dgl; rw [if_pos rfl]
  have h2 := srt_perm hb 0
  rw [h1] at h2
  rw [List.perm_singleton.1 h2]
  simp [val, dgl]
 ·have hp := (List.reverse_perm (srt b n)).trans (srt_perm hb n)
  have hs : (srt b n).reverse.Pairwise (fun x y => y ≤ x) := by rw [List.pairwise_reverse]; exact srt_sorted b n
  obtain ⟨x, t, h1, h2⟩ := dgl_head hb n (by omega)
  have hlt := dgl_lt hb n
  cases h : (srt b n).reverse with
  | nil => rw [h, h1] at hp; have := hp.length_eq; simp at this
  | cons y r =>
   rw [h] at hp hs
   have hx : x ∈ y :: r := hp.mem_iff.2 (by rw [h1]; simp)
   have hy : x ≤ y := by
    rcases List.mem_cons.1 hx with g | g
    ·omega
    ·exact (List.pairwise_cons.1 hs).1 x g
   exact dgl_cons hb y r (by omega) (fun d hd => hlt d (hp.mem_iff.1 hd))
theorem srt_inj {b : Nat} (hb : 2 ≤ b) (n m : Nat) : val b 0 (srt b n).reverse = val b 0 (srt b m).reverse ↔ srt b n = srt b m := by
 refine ⟨fun h => ?_, fun h => by rw [h]⟩
 have h1 := srt_back hb n
 rw [h, srt_back hb m] at h1
 exact (List.reverse_inj.1 h1).symm

def crr (b n : Nat) : Nat := match cnts b (dgl b n) with
 | [] => 1
 | z :: l => if 0 < z ∧ 0 < n then ways 0 1 (z :: l) - ways 0 1 ((z - 1) :: l) else ways 0 1 (z :: l)
def binf (m : Nat) : Nat → Nat
 | 0 => 1
 | i + 1 => binf m i * (m + i + 1) / (i + 1)
theorem bin_f (m : Nat) : ∀ i, bin m i = binf m i := by
 intro i
 induction i with
 | zero => rw [bin_r0]; rfl
 | succ i ih => rw [← bin_step, ih]; rfl
def waysf : Nat → Nat → List Nat → Nat
 | _, w, [] => w
 | m, w, c :: l => waysf (m + c) (w * binf m c) l
theorem ways_f (l : List Nat) : ∀ m w, ways m w l = waysf m w l := by
 induction l with
 | nil => intro m w; rfl
 | cons c l ih => intro m w; simp only [ways, waysf]; rw [ih, bin_f]
def crf (n : Nat) : Nat := match cnts 10 (dgl 10 n) with
 | [] => 1
 | z :: l => cond (Nat.blt 0 z && Nat.blt 0 n) (waysf 0 1 (z :: l) - waysf 0 1 ((z - 1) :: l)) (waysf 0 1 (z :: l))
theorem crr_f (n : Nat) : crr 10 n = crf n := by
 unfold crr crf
 cases cnts 10 (dgl 10 n) with
 | nil => rfl
 | cons z l =>
  simp only
  rw [ways_f, ways_f]
  by_cases h : 0 < z ∧ 0 < n
  ·rw [if_pos h]
   have : (Nat.blt 0 z && Nat.blt 0 n) = true := by simp [Nat.blt_eq, h.1, h.2]
   rw [this, cond_true]
  ·rw [if_neg h]
   have : (Nat.blt 0 z && Nat.blt 0 n) = false := by
    rw [← Bool.not_eq_true]
    simp only [Bool.and_eq_true, Nat.blt_eq]
    exact h
   rw [this, cond_false]
def k4 : List Nat → Nat
 | [] => 0
 | d :: l => 4 ^ d + k4 l
def w4 : List Nat → Nat
 | [] => 0
 | c :: l => c + 4 * w4 l
theorem k4_perm {l m : List Nat} (h : l.Perm m) : k4 l = k4 m := by
 induction h with
 | nil => rfl
 | cons x _ ih => simp only [k4, ih]
 | swap x y l => simp only [k4]; omega
 | trans _ _ ih1 ih2 => exact ih1.trans ih2
theorem k4_app (l m : List Nat) : k4 (l ++ m) = k4 l + k4 m := by
 induction l with
 | nil => simp [k4]
 | cons x l ih => simp only [List.cons_append, k4, ih]; omega
theorem k4_rep (c d : Nat) : k4 (List.replicate c d) = c * 4 ^ d := by
 induction c with
 | zero => simp [k4]
 | succ c ih => rw [List.replicate_succ]; simp only [k4, ih]; rw [Nat.add_mul]; omega
theorem k4_ex (l : List Nat) : ∀ d, k4 (ex d l) = 4 ^ d * w4 l := by
 induction l with
 | nil => intro d; simp [ex, k4, w4]
 | cons c l ih =>
  intro d
  simp only [ex, w4]
  rw [k4_app, k4_rep, ih, Nat.mul_add, Nat.pow_succ, Nat.mul_assoc, Nat.mul_comm c]
theorem w4_inj (l : List Nat) : ∀ m : List Nat, l.length = m.length → (∀ c ∈ l, c < 4) → (∀ c ∈ m, c < 4) → w4 l = w4 m → l = m := by
 induction l with
 | nil => intro m h _ _ _; exact (List.eq_nil_of_length_eq_zero h.symm).symm
 | cons c l ih =>
  intro m h h1 h2 h3
  cases m with
  | nil => simp at h
  | cons d m =>
   have g1 := h1 c (by simp)
   have g2 := h2 d (by simp)
   simp only [w4] at h3
   rw [ih m (by simpa using h) (fun x hx => h1 x (by simp [hx])) (fun x hx => h2 x (by simp [hx])) (by omega), show c = d by omega]
theorem lsum_mem (l : List Nat) (c : Nat) (h : c ∈ l) : c ≤ lsum l := by
 induction l with
 | nil => simp at h
 | cons x l ih =>
  simp only [lsum]
  rcases List.mem_cons.1 h with rfl | h
  ·omega
  ·have := ih h; omega
theorem k4_srt (n m : Nat) (hn : n < 1000) (hm : m < 1000) : srt 10 n = srt 10 m ↔ k4 (dgl 10 n) = k4 (dgl 10 m) := by
 rw [srt_cnts (by omega)]
 have key : ∀ n, k4 (dgl 10 n) = w4 (cnts 10 (dgl 10 n)) := fun n => by
  rw [← k4_perm (ex_perm (dgl 10 n) (dgl_lt (by omega) n)), k4_ex, Nat.pow_zero, Nat.one_mul]
 have small : ∀ n, n < 1000 → ∀ c ∈ cnts 10 (dgl 10 n), c < 4 := fun n hn c hc => by
  have h1 := lsum_mem _ _ hc
  rw [cnts_sum 10 _ (dgl_lt (by omega) n)] at h1
  have h2 : (dgl 10 n).length ≤ 3 := by
   by_cases h0 : n = 0
   ·subst h0; decide
   ·unfold dgl
    rw [if_neg h0, List.length_reverse, low_succ (by omega) (by omega)]
    by_cases g1 : n / 10 = 0
    ·rw [g1, low_zero]; simp
    ·rw [low_succ (by omega) (by omega)]
     by_cases g2 : n / 10 / 10 = 0
     ·rw [g2, low_zero]; simp
     ·rw [low_succ (by omega) (by omega), show n / 10 / 10 / 10 = 0 by omega, low_zero]
      simp
  omega
 rw [key, key]
 exact ⟨fun h => by rw [h], fun h => w4_inj _ _ (by rw [cnts_len, cnts_len]) (small n hn) (small m hm) h⟩
def key4 (m : Nat) : Nat := cond (Nat.blt m 10) (4 ^ m) (cond (Nat.blt m 100) (4 ^ (m / 10) + 4 ^ (m % 10)) (4 ^ (m / 100) + 4 ^ (m / 10 % 10) + 4 ^ (m % 10)))
theorem key4_eq (m : Nat) (h : m < 1000) : k4 (dgl 10 m) = key4 m := by
 unfold key4
 by_cases h0 : m = 0
 ·subst h0; decide
 have e : dgl 10 m = (low 10 m).reverse := by unfold dgl; rw [if_neg h0]
 rw [e, k4_perm (List.reverse_perm _), low_succ (by omega) (by omega)]
 by_cases g1 : m < 10
 ·have b1 : Nat.blt m 10 = true := by rw [Nat.blt_eq]; exact g1
  rw [b1, cond_true, show m / 10 = 0 by omega, low_zero, Nat.mod_eq_of_lt g1]
  simp [k4]
 ·have b1 : Nat.blt m 10 = false := by rw [← Bool.not_eq_true, Nat.blt_eq]; exact g1
  rw [b1, cond_false, low_succ (by omega) (by omega)]
  by_cases g2 : m < 100
  ·have b2 : Nat.blt m 100 = true := by rw [Nat.blt_eq]; exact g2
   rw [b2, cond_true, show m / 10 / 10 = 0 by omega, low_zero, Nat.mod_eq_of_lt (show m / 10 < 10 by omega)]
   simp only [k4]
   omega
  ·have b2 : Nat.blt m 100 = false := by rw [← Bool.not_eq_true, Nat.blt_eq]; exact g2
   rw [b2, cond_false, low_succ (by omega) (by omega), show m / 10 / 10 / 10 = 0 by omega, low_zero, show m / 10 / 10 % 10 = m / 100 by omega]
   simp only [k4]
   omega
def cntk (k lo : Nat) : Nat → Nat
 | 0 => 0
 | n + 1 => cond (Nat.beq (key4 (lo + n)) k) 1 0 + cntk k lo n
def okk (a : Nat) : Bool := (fun k => Nat.beq (cntk k 0 100 + cntk k 100 100 + cntk k 200 100 + cntk k 300 100 + cntk k 400 100 + cntk k 500 100 + cntk k 600 100 + cntk k 700 100 + cntk k 800 100 + cntk k 900 100) (crf a)) (key4 a)
def okb (lo : Nat) : Nat → Bool
 | 0 => true
 | n + 1 => cond (okk (lo + n)) (okb lo n) false
theorem okb0 : okb 0 100 = true := by kernel_rfl
theorem okb1 : okb 100 100 = true := by kernel_rfl
theorem okb2 : okb 200 100 = true := by kernel_rfl
theorem okb3 : okb 300 100 = true := by kernel_rfl
theorem okb4 : okb 400 100 = true := by kernel_rfl
theorem okb5 : okb 500 100 = true := by kernel_rfl
theorem okb6 : okb 600 100 = true := by kernel_rfl
theorem okb7 : okb 700 100 = true := by kernel_rfl
theorem okb8 : okb 800 100 = true := by kernel_rfl
theorem okb9 : okb 900 100 = true := by kernel_rfl
theorem okb_get (lo n : Nat) : okb lo n = true → ∀ j, j < n → okk (lo + j) = true := by
 induction n with
 | zero => intro _ j h; omega
 | succ n ih =>
  intro h j hj
  unfold okb at h
  cases hk : okk (lo + n) with
  | false => rw [hk, cond_false] at h; simp at h
  | true =>
   rw [hk, cond_true] at h
   by_cases e : j = n
   ·subst e; exact hk
   ·exact ih h j (by omega)
theorem okk_all (a : Nat) (h : a < 1000) : okk a = true := by
 have g : ∀ lo, okb lo 100 = true → lo ≤ a → a < lo + 100 → okk a = true := fun lo hb h1 h2 => by
  have := okb_get lo 100 hb (a - lo) (by omega)
  rwa [Nat.add_sub_cancel' h1] at this
 by_cases h1 : a < 100
 ·exact g 0 okb0 (by omega) (by omega)
 by_cases h2 : a < 200
 ·exact g 100 okb1 (by omega) (by omega)
 by_cases h3 : a < 300
 ·exact g 200 okb2 (by omega) (by omega)
 by_cases h4 : a < 400
 ·exact g 300 okb3 (by omega) (by omega)
 by_cases h5 : a < 500
 ·exact g 400 okb4 (by omega) (by omega)
 by_cases h6 : a < 600
 ·exact g 500 okb5 (by omega) (by omega)
 by_cases h7 : a < 700
 ·exact g 600 okb6 (by omega) (by omega)
 by_cases h8 : a < 800
 ·exact g 700 okb7 (by omega) (by omega)
 by_cases h9 : a < 900
 ·exact g 800 okb8 (by omega) (by omega)
 ·exact g 900 okb9 (by omega) (by omega)
def fnd (a : Nat) : Nat → Nat
 | 0 => 0
 | m + 1 => fnd a m + (if srt 10 a = srt 10 m then 1 else 0)
theorem fnd_le (a : Nat) : ∀ m, fnd a m ≤ m := by
 intro m
 induction m with
 | zero => exact Nat.le_refl _
 | succ m ih => simp only [fnd]; split <;> omega
theorem fnd_k (a : Nat) (ha : a < 1000) (lo n : Nat) : lo + n ≤ 1000 → fnd a (lo + n) = fnd a lo + cntk (key4 a) lo n := by
 induction n with
 | zero => intro _; rfl
 | succ n ih =>
  intro h
  have e : fnd a (lo + (n + 1)) = fnd a (lo + n) + (if srt 10 a = srt 10 (lo + n) then 1 else 0) := rfl
  rw [e, ih (by omega)]
  have k1 := k4_srt a (lo + n) ha (by omega)
  rw [key4_eq a ha, key4_eq (lo + n) (by omega)] at k1
  have e2 : cntk (key4 a) lo (n + 1) = cond (Nat.beq (key4 (lo + n)) (key4 a)) 1 0 + cntk (key4 a) lo n := rfl
  rw [e2]
  by_cases g : srt 10 a = srt 10 (lo + n)
  ·rw [if_pos g, k1.1 g, Nat.beq_refl, cond_true]
   omega
  ·have b1 : Nat.beq (key4 (lo + n)) (key4 a) = false := by
    rw [← Bool.not_eq_true]
    intro hb
    exact g (k1.2 (Nat.eq_of_beq_eq_true hb).symm)
   rw [if_neg g, b1, cond_false]
   omega
theorem fnd_all (a : Nat) (ha : a < 1000) : fnd a 1000 = crr 10 a := by
 have h0 : fnd a 100 = fnd a 0 + cntk (key4 a) 0 100 := fnd_k a ha 0 100 (by omega)
 have h1 : fnd a 200 = fnd a 100 + cntk (key4 a) 100 100 := fnd_k a ha 100 100 (by omega)
 have h2 : fnd a 300 = fnd a 200 + cntk (key4 a) 200 100 := fnd_k a ha 200 100 (by omega)
 have h3 : fnd a 400 = fnd a 300 + cntk (key4 a) 300 100 := fnd_k a ha 300 100 (by omega)
 have h4 : fnd a 500 = fnd a 400 + cntk (key4 a) 400 100 := fnd_k a ha 400 100 (by omega)
 have h5 : fnd a 600 = fnd a 500 + cntk (key4 a) 500 100 := fnd_k a ha 500 100 (by omega)
 have h6 : fnd a 700 = fnd a 600 + cntk (key4 a) 600 100 := fnd_k a ha 600 100 (by omega)
 have h7 : fnd a 800 = fnd a 700 + cntk (key4 a) 700 100 := fnd_k a ha 700 100 (by omega)
 have h8 : fnd a 900 = fnd a 800 + cntk (key4 a) 800 100 := fnd_k a ha 800 100 (by omega)
 have h9 : fnd a 1000 = fnd a 900 + cntk (key4 a) 900 100 := fnd_k a ha 900 100 (by omega)
 have h := Nat.eq_of_beq_eq_true (okk_all a ha)
 have hz : fnd a 0 = 0 := rfl
 rw [crr_f, ← h]
 rw [h9, h8, h7, h6, h5, h4, h3, h2, h1, h0, hz, Nat.zero_add]

def insr (x : Nat) : List Nat → List Nat
 | [] => [x]
 | y :: l => if y ≤ x then y :: insr x l else x :: y :: l
theorem insr_perm (x : Nat) (l : List Nat) : (insr x l).Perm (x :: l) := by
 induction l with
 | nil => exact List.Perm.refl _
 | cons y l ih =>
  simp only [insr]
  split
  ·exact (ih.cons y).trans (List.Perm.swap x y l)
  ·exact List.Perm.refl _
theorem insr_sorted (x : Nat) (l : List Nat) (h : l.Pairwise (· ≤ ·)) : (insr x l).Pairwise (· ≤ ·) := by
 induction l with
 | nil => simp [insr]
 | cons y l ih =>
  have h1 := List.pairwise_cons.1 h
  simp only [insr]
  split
  ·rename_i hy
   refine List.pairwise_cons.2 ⟨fun a ha => ?_, ih h1.2⟩
   rcases List.mem_cons.1 ((insr_perm x l).mem_iff.1 ha) with rfl | h2
   ·exact hy
   ·exact h1.1 a h2
  ·rename_i hy
   refine List.pairwise_cons.2 ⟨fun a ha => ?_, h⟩
   rcases List.mem_cons.1 ha with rfl | h2
   ·omega
   ·have := h1.1 a h2; omega
theorem own_eq (l : List Int) (h : l.length < 17592186044416) : spec_l1Own.f l = some l := by
 unfold spec_l1Own.f
 simp only [Option.bind_some, List.length_nil, Nat.zero_add, List.nil_append]
 rw [if_pos h]
theorem dgSorted_in (x : Nat) (X : List Int) (n j : Int) (r : List Int) (post : List Nat) : ∀ pre : List Nat, (pre ++ post).length ≤ 1000000 → Ev (fun k => spec_dgSorted.l0 k (ic (pre ++ insr x post)) X n (wrap64 (j + 1))) r →
  Ev (fun k => spec_dgSorted.l1 k (ic (pre ++ post)) (x : Int) (pre.length : Int) X n j) r := by
 induction post with
 | nil =>
  intro pre hl h
  have ht : (ic (pre ++ [])).take ((pre.length : Int)).toNat = ic pre := by rw [Int.toNat_natCast, List.append_nil, List.take_of_length_le (by rw [ic_length]; omega)]
  have hd : (ic (pre ++ [])).drop ((pre.length : Int)).toNat = [] := by rw [Int.toNat_natCast]; simp [ic]
  simp only [List.append_nil] at hl
  refine evs (fun k => by rw [spec_dgSorted.l1]) ?_
  rw [ht, hd]
  refine evn (by rw [ic_length]; simp) (evp (by omega) (evp (by rw [ic_length]; simp) (evc (own_eq _ (by rw [ic_length]; omega)) (evp (by rw [ic_length]; omega) (evc rfl (evc rfl (evp (by simp [ic_length]; omega) ?_)))))))
  have e : ic (pre ++ insr x []) = ic pre ++ [(x : Int)] ++ [] := by simp [insr, ic]
  rw [e] at h
  exact h
 | cons y post ih =>
  intro pre hl h
  have hl2 : (pre ++ y :: post).length = pre.length + (post.length + 1) := by simp
  refine evs (fun k => by rw [spec_dgSorted.l1]) ?_
  rw [ic_rd]
  by_cases hy : y ≤ x
  ·have e : pre ++ insr x (y :: post) = (pre ++ [y]) ++ insr x post := by simp [insr, hy]
   rw [e] at h
   have h2 := ih (pre ++ [y]) (by simp at hl ⊢; omega) h
   have e2 : (((pre ++ [y]).length : Nat) : Int) = (pre.length : Int) + 1 := by simp
   rw [List.append_assoc, List.singleton_append, e2] at h2
   rw [w64o (x := (pre.length : Int) + 1)]
   exact evp (by rw [ic_length]; omega) (evp (by omega) (evp (by omega) h2))
  ·have ht : (ic (pre ++ y :: post)).take ((pre.length : Int)).toNat = ic pre := by rw [Int.toNat_natCast]; simp [ic]
   have hd : (ic (pre ++ y :: post)).drop ((pre.length : Int)).toNat = ic (y :: post) := by rw [Int.toNat_natCast]; simp [ic]
   have e : ic (pre ++ insr x (y :: post)) = ic pre ++ [(x : Int)] ++ ic (y :: post) := by simp [insr, hy, ic]
   rw [e] at h
   rw [ht, hd]
   refine evp (by rw [ic_length]; omega) (evp (by omega) (evn (by omega) (evp (by rw [ic_length]; omega) (evc (own_eq _ (by rw [ic_length]; omega)) (evp (by rw [ic_length]; omega) (evc rfl (evc rfl (evp (by simp [ic_length]; omega) h))))))))
def isrt (acc : List Nat) : List Nat → List Nat
 | [] => acc
 | x :: l => isrt (insr x acc) l
theorem isrt_perm (l : List Nat) : ∀ acc, (isrt acc l).Perm (acc ++ l) := by
 induction l with
 | nil => intro acc; simp [isrt]
 | cons x l ih =>
  intro acc
  refine (ih _).trans (((insr_perm x acc).append_right l).trans ?_)
  exact List.perm_middle.symm
theorem isrt_sorted (l : List Nat) : ∀ acc, acc.Pairwise (· ≤ ·) → (isrt acc l).Pairwise (· ≤ ·) := by
 induction l with
 | nil => intro acc h; exact h
 | cons x l ih => intro acc h; exact ih _ (insr_sorted x acc h)
theorem dgSorted_out (post : List Nat) : ∀ pre acc : List Nat, (pre ++ post).length ≤ 1000000 → acc.length + post.length ≤ 1000000 →
  Ev (fun k => spec_dgSorted.l0 k (ic acc) (ic (pre ++ post)) ((pre ++ post).length : Int) (pre.length : Int)) (ic (isrt acc post)) := by
 induction post with
 | nil =>
  intro pre acc _ _
  refine evs (fun k => by rw [spec_dgSorted.l0]) ?_
  exact evn (by simp) (Ev.now _)
 | cons x post ih =>
  intro pre acc h1 h2
  have hl : (pre ++ x :: post).length = pre.length + (post.length + 1) := by simp
  simp only [List.length_cons] at h2
  have h3 := ih (pre ++ [x]) (insr x acc) (by simp at h1 ⊢; omega) (by rw [(insr_perm x acc).length_eq, List.length_cons]; omega)
  have e1 : (((pre ++ [x]).length : Nat) : Int) = (pre.length : Int) + 1 := by simp
  rw [List.append_assoc, List.singleton_append, e1, hl] at h3
  refine evs (fun k => by rw [spec_dgSorted.l0]) ?_
  rw [ic_rd, ic_length, hl]
  refine evp (by omega) (evp (by omega) (evp (by omega) ?_))
  have h4 := dgSorted_in x (ic (pre ++ x :: post)) ((pre.length + (post.length + 1) : Nat) : Int) (pre.length : Int) (ic (isrt (insr x acc) post)) acc [] (by simp; omega) (by rw [w64o (x := (pre.length : Int) + 1)]; simpa using h3)
  exact h4
theorem spec_dgSorted_ev (b n : Nat) (hb : 2 ≤ b) (hn : n ≤ 1000000000000) : Ev (fun k => spec_dgSorted.f k (ic (dgl b n))) (ic (srt b n)) := by
 have hl := dgl_len hb n hn
 have h := dgSorted_out (dgl b n) [] [] (by simp; omega) (by simp; omega)
 have e : isrt [] (dgl b n) = srt b n := ex_uniq (dgl_lt hb n) (isrt_perm _ _) (isrt_sorted _ _ (by simp))
 rw [e] at h
 unfold spec_dgSorted.f
 rw [ic_length]
 exact h
theorem impl_sorted_ev (b n : Nat) (hb : 2 ≤ b) (hn : n ≤ 1000000000000) : Ev (fun k => impl_sorted.f k (n : Int) (b : Int)) (ic (srt b n)) := by
 have hl := dgl_len hb n hn
 obtain ⟨s, h1, h2, h3⟩ := sort_nat (dgl b n)
 have e : s = srt b n := ex_uniq (dgl_lt hb n) h2 h3
 refine evb (impl_digitsOf_ev b n hb hn) ?_
 have e2 : slices_Sort_int_int.f (ic (dgl b n)) = some (ic (srt b n)) := by
  unfold slices_Sort_int_int.f
  rw [if_pos (by rw [ic_length]; omega), h1, e]
 exact evc e2 (Ev.now _)

theorem bin_mono_le (m : Nat) (i d : Nat) : bin m i ≤ bin m (i + d) := by
 induction d with
 | zero => exact Nat.le_refl _
 | succ d ih => exact Nat.le_trans ih (bin_mono m (i + d))
theorem choose_loop (m c : Nat) (hc : m + c ≤ 1000) (hB : bin m c ≤ 1000000000000000) (d : Nat) : ∀ i, i + d = c → Ev (fun k => impl_choose.l0 k ((m + c : Nat) : Int) (c : Int) ((bin m i : Nat) : Int) ((i + 1 : Nat) : Int)) ((bin m c : Nat) : Int) := by
 induction d with
 | zero =>
  intro i h
  obtain rfl : i = c := by omega
  refine evs (fun k => by rw [impl_choose.l0]) ?_
  exact evn (by omega) (Ev.now _)
 | succ d ih =>
  intro i h
  have g1 := bin_mono_le m i (d + 1)
  rw [h] at g1
  have g2 := bin_mono_le m (i + 1) d
  rw [show i + 1 + d = c by omega] at g2
  have g3 : bin m i * (m + i + 1) ≤ 1000000000000000 * 1001 := Nat.mul_le_mul (by omega) (by omega)
  have e : wrap64 (Int.tdiv (wrap64 (((bin m i : Nat) : Int) * (wrap64 ((wrap64 (((m + c : Nat) : Int) - (c : Int))) + ((i + 1 : Nat) : Int))))) ((i + 1 : Nat) : Int)) = ((bin m (i + 1) : Nat) : Int) := by
   rw [w64o (x := ((m + c : Nat) : Int) - (c : Int)), show ((m + c : Nat) : Int) - (c : Int) = (m : Int) by omega, show (m : Int) + ((i + 1 : Nat) : Int) = ((m + i + 1 : Nat) : Int) by omega, w64n (m + i + 1) (by omega), ← Int.natCast_mul, w64n (bin m i * (m + i + 1)) (by omega), tdiv_cast, bin_step, w64n _ (by omega)]
  have h2 := ih (i + 1) (by omega)
  have e2 : wrap64 (((i + 1 : Nat) : Int) + 1) = ((i + 1 + 1 : Nat) : Int) := by rw [w64 (by omega) (by omega)]; omega
  refine evs (fun k => by rw [impl_choose.l0]) ?_
  rw [e, e2]
  clear e e2 g1 g2 g3
  exact evp (by omega) (evn (by omega) h2)
theorem impl_choose_ev (m c : Nat) (hc : m + c ≤ 1000) (hB : bin m c ≤ 1000000000000000) : Ev (fun k => impl_choose.f k ((m + c : Nat) : Int) (c : Int)) ((bin m c : Nat) : Int) := by
 have h := choose_loop m c hc hB c 0 (by omega)
 rw [bin_r0] at h
 exact h
theorem ways_bounds {b N w m c j s : Nat} (hN : N ≤ 40) (hB : b ^ N ≤ 1000000000000000) (hb : j + 1 ≤ b) (hs : m + (c + s) = N) (hw : 1 ≤ w) (hW : w ≤ j ^ m) : bin m c ≤ 1000000000000000 ∧ w * bin m c ≤ (j + 1) ^ (m + c) ∧ w * bin m c ≤ 1000000000000000 := by
 have h1 := bin_bound j m c
 have h2 : (j + 1) ^ (m + c) ≤ b ^ N := Nat.le_trans (Nat.pow_le_pow_left hb _) (Nat.pow_le_pow_right (by omega) (by omega))
 have h3 : w * bin m c ≤ (j + 1) ^ (m + c) := by
  have := Nat.mul_le_mul_right (bin m c) hW
  rw [Nat.mul_comm (j ^ m)] at this
  omega
 have h4 : bin m c ≤ w * bin m c := Nat.le_mul_of_pos_left _ hw
 omega
theorem orders_loop (b N : Nat) (hN : N ≤ 40) (hB : b ^ N ≤ 1000000000000000) (hb2 : b ≤ 1000) (post : List Nat) : ∀ (pre : List Nat) (m w : Nat), (pre ++ post).length = b → m + lsum post = N → 1 ≤ w → w ≤ pre.length ^ m →
  Ev (fun k => impl_orders.l0 k (w : Int) (m : Int) (ic (pre ++ post)) ((pre ++ post).length : Int) (pre.length : Int)) ((ways m w post : Nat) : Int) := by
 induction post with
 | nil =>
  intro pre m w _ _ _ _
  refine evs (fun k => by rw [impl_orders.l0]) ?_
  exact evn (by simp) (Ev.now _)
 | cons c post ih =>
  intro pre m w hb hs hw hW
  have hl : (pre ++ c :: post).length = pre.length + (post.length + 1) := by simp
  simp only [lsum] at hs
  obtain ⟨g1, g2, g3⟩ := ways_bounds hN hB (by omega) hs hw hW
  have h3 := ih (pre ++ [c]) (m + c) (w * bin m c) (by simp at hb ⊢; omega) (by omega) (Nat.mul_pos hw (bin_pos m c)) (by simpa using g2)
  have e1 : (((pre ++ [c]).length : Nat) : Int) = (pre.length : Int) + 1 := by simp
  rw [List.append_assoc, List.singleton_append, e1, hl] at h3
  have hch := impl_choose_ev m c (by omega) g1
  refine evs (fun k => by rw [impl_orders.l0]) ?_
  rw [ic_rd, ic_length, hl, w64o (x := (m : Int) + (c : Int)), show (m : Int) + (c : Int) = ((m + c : Nat) : Int) by omega, w64o (x := (pre.length : Int) + 1)]
  refine evp (by omega) (evp (by omega) (evp (by omega) (evb hch ?_)))
  rw [← Int.natCast_mul, w64n _ (by omega)]
  exact h3
theorem impl_orders_ev (b N : Nat) (hN : N ≤ 40) (hB : b ^ N ≤ 1000000000000000) (hb2 : b ≤ 1000) (l : List Nat) (hl : l.length = b) (hs : lsum l = N) : Ev (fun k => impl_orders.f k (ic l)) ((ways 0 1 l : Nat) : Int) := by
 have h := orders_loop b N hN hB hb2 l [] 0 1 (by simpa using hl) (by omega) (by omega) (by simp)
 unfold impl_orders.f
 rw [ic_length]
 simpa using h
theorem w64s (n : Nat) (h : n ≤ 1000000000) : wrap64 ((n : Int) + 1) = ((n + 1 : Nat) : Int) := by rw [w64 (by omega) (by omega)]; omega
theorem dgWays_in (w m c : Nat) (X : List Int) (n j r : Int) (hc : m + c ≤ 1000) (hB : w * bin m c ≤ 1000000000000000) (hr : Ev (fun k => spec_dgWays.l0 k ((w * bin m c : Nat) : Int) ((m + c : Nat) : Int) X n (wrap64 (j + 1))) r) (d : Nat) : ∀ i, i + d = c →
  Ev (fun k => spec_dgWays.l1 k ((w * bin m i : Nat) : Int) ((m + i : Nat) : Int) (c : Int) ((i + 1 : Nat) : Int) X n j) r := by
 induction d with
 | zero =>
  intro i h
  obtain rfl : i = c := h
  refine evs (fun k => by rw [spec_dgWays.l1]) ?_
  clear hB
  exact evn (by omega) hr
 | succ d ih =>
  intro i h
  have q1 : i + 1 + d = c := by clear hB; omega
  have q2 : m + i ≤ 1000000000 ∧ i + 1 ≤ 1000000000 ∧ m + i + 1 ≤ 1001 ∧ ((i + 1 : Nat) : Int) ≤ (c : Int) ∧ ¬ ((i + 1 : Nat) : Int) = 0 := by clear hB; omega
  have h2 := ih (i + 1) q1
  clear ih hr
  have g1 := bin_mono_le m i (d + 1)
  rw [h] at g1
  have g2 := bin_mono_le m (i + 1) d
  rw [q1] at g2
  have g4 : w * bin m i ≤ w * bin m c := Nat.mul_le_mul_left _ g1
  have g5 : w * bin m (i + 1) ≤ w * bin m c := Nat.mul_le_mul_left _ g2
  have g3 : w * bin m i * (m + i + 1) ≤ 1000000000000000 * 1001 := Nat.mul_le_mul (Nat.le_trans g4 hB) q2.2.2.1
  have e : wrap64 (Int.tdiv (wrap64 (((w * bin m i : Nat) : Int) * ((m + i + 1 : Nat) : Int))) ((i + 1 : Nat) : Int)) = ((w * bin m (i + 1) : Nat) : Int) := by
   rw [← Int.natCast_mul, w64n (w * bin m i * (m + i + 1)) (Nat.le_trans g3 (by decide)), tdiv_cast, bin_stepw, w64n _ (Nat.le_trans g5 (Nat.le_trans hB (by decide)))]
  refine evs (fun k => by rw [spec_dgWays.l1]) ?_
  rw [w64s (m + i) q2.1, e, w64s (i + 1) q2.2.1]
  exact evp q2.2.2.2.1 (evn q2.2.2.2.2 h2)
theorem dgWays_loop (b N : Nat) (hN : N ≤ 40) (hB : b ^ N ≤ 1000000000000000) (hb2 : b ≤ 1000) (post : List Nat) : ∀ (pre : List Nat) (m w : Nat), (pre ++ post).length = b → m + lsum post = N → 1 ≤ w → w ≤ pre.length ^ m →
  Ev (fun k => spec_dgWays.l0 k (w : Int) (m : Int) (ic (pre ++ post)) ((pre ++ post).length : Int) (pre.length : Int)) ((ways m w post : Nat) : Int) := by
 induction post with
 | nil =>
  intro pre m w _ _ _ _
  refine evs (fun k => by rw [spec_dgWays.l0]) ?_
  exact evn (by simp) (Ev.now _)
 | cons c post ih =>
  intro pre m w hb hs hw hW
  have hl : (pre ++ c :: post).length = pre.length + (post.length + 1) := by simp
  simp only [lsum] at hs
  obtain ⟨g1, g2, g3⟩ := ways_bounds hN hB (by omega) hs hw hW
  have h3 := ih (pre ++ [c]) (m + c) (w * bin m c) (by simp at hb ⊢; omega) (by omega) (Nat.mul_pos hw (bin_pos m c)) (by simpa using g2)
  have e1 : (((pre ++ [c]).length : Nat) : Int) = (pre.length : Int) + 1 := by simp
  rw [List.append_assoc, List.singleton_append, e1, hl] at h3
  have h4 := dgWays_in w m c (ic (pre ++ c :: post)) ((pre.length + (post.length + 1) : Nat) : Int) (pre.length : Int) _ (by omega) g3 (by rw [w64o (x := (pre.length : Int) + 1)]; exact h3) c 0 (by omega)
  rw [bin_r0, Nat.mul_one] at h4
  refine evs (fun k => by rw [spec_dgWays.l0]) ?_
  rw [ic_rd, ic_length, hl]
  exact evp (by omega) (evp (by omega) (evp (by omega) h4))
theorem spec_dgWays_ev (b N : Nat) (hN : N ≤ 40) (hB : b ^ N ≤ 1000000000000000) (hb2 : b ≤ 1000) (l : List Nat) (hl : l.length = b) (hs : lsum l = N) : Ev (fun k => spec_dgWays.f k (ic l)) ((ways 0 1 l : Nat) : Int) := by
 have h := dgWays_loop b N hN hB hb2 l [] 0 1 (by simpa using hl) (by omega) (by omega) (by simp)
 unfold spec_dgWays.f
 rw [ic_length]
 simpa using h

theorem impl_countsOf_loop (post : List Nat) : ∀ (pre acc : List Nat), (∀ d ∈ post, d < acc.length) → (pre ++ post).length ≤ 1000000 → lsum acc + post.length ≤ 1000000 → acc.length ≤ 1000 →
  Ev (fun k => impl_countsOf.l0 k (ic acc) (ic (pre ++ post)) ((pre ++ post).length : Int) (pre.length : Int)) (ic (cntl acc post)) := by
 induction post with
 | nil =>
  intro pre acc _ h1 h2 _
  refine evs (fun k => by rw [impl_countsOf.l0]) ?_
  exact evn (by simp) (Ev.now _)
 | cons d post ih =>
  intro pre acc hd h1 h2 h3
  have hl : (pre ++ d :: post).length = pre.length + (post.length + 1) := by simp
  have hd1 := hd d (by simp)
  have hg := lsum_ge acc d
  have hs := lsum_set acc d (acc.getD d 0 + 1) hd1
  simp only [List.length_cons] at h2
  have h4 := ih (pre ++ [d]) (acc.set d (acc.getD d 0 + 1)) (fun x hx => by rw [List.length_set]; exact hd x (by simp [hx])) (by simp at h1 ⊢; omega) (by omega) (by simp; omega)
  rw [List.append_assoc, List.singleton_append, hl] at h4
  have e1 : (((pre ++ [d]).length : Nat) : Int) = (pre.length : Int) + 1 := by simp
  rw [e1] at h4
  refine evs (fun k => by rw [impl_countsOf.l0]) ?_
  rw [ic_rd, ic_length, ic_length, hl, ic_rdD, w64o (x := ((acc.getD d 0 : Nat) : Int) + 1), w64o (x := (pre.length : Int) + 1), Int.toNat_natCast, show ((acc.getD d 0 : Nat) : Int) + 1 = ((acc.getD d 0 + 1 : Nat) : Int) by omega, ic_set]
  exact evp (by omega) (evp (by omega) (evp (by omega) (evp (by omega) (evp (by omega) h4))))
theorem impl_countsOf_ev (b : Nat) (l : List Nat) (hb : b ≤ 1000) (h : ∀ d ∈ l, d < b) (hl : l.length ≤ 100000) : Ev (fun k => impl_countsOf.f k (ic l) (b : Int)) (ic (cnts b l)) := by
 have h2 := impl_countsOf_loop l [] (List.replicate b 0) (by simpa using h) (by simp; omega) (by rw [lsum_zeros]; omega) (by simp; omega)
 unfold impl_countsOf.f
 rw [Int.toNat_natCast, ic_replicate, ic_length]
 exact evp (by omega) (evp (by omega) (by unfold cnts; simpa using h2))

theorem spec_dgCounts_loop (post : List Nat) : ∀ (pre acc : List Nat), (∀ d ∈ post, d < acc.length) → (pre ++ post).length ≤ 1000000 → lsum acc + post.length ≤ 1000000 → acc.length ≤ 1000 →
  Ev (fun k => spec_dgCounts.l0 k (ic acc) (ic (pre ++ post)) ((pre ++ post).length : Int) (pre.length : Int)) (ic (cntl acc post)) := by
 induction post with
 | nil =>
  intro pre acc _ h1 h2 _
  refine evs (fun k => by rw [spec_dgCounts.l0]) ?_
  exact evn (by simp) (Ev.now _)
 | cons d post ih =>
  intro pre acc hd h1 h2 h3
  have hl : (pre ++ d :: post).length = pre.length + (post.length + 1) := by simp
  have hd1 := hd d (by simp)
  have hg := lsum_ge acc d
  have hs := lsum_set acc d (acc.getD d 0 + 1) hd1
  simp only [List.length_cons] at h2
  have h4 := ih (pre ++ [d]) (acc.set d (acc.getD d 0 + 1)) (fun x hx => by rw [List.length_set]; exact hd x (by simp [hx])) (by simp at h1 ⊢; omega) (by omega) (by simp; omega)
  rw [List.append_assoc, List.singleton_append, hl] at h4
  have e1 : (((pre ++ [d]).length : Nat) : Int) = (pre.length : Int) + 1 := by simp
  rw [e1] at h4
  refine evs (fun k => by rw [spec_dgCounts.l0]) ?_
  rw [ic_rd, ic_length, ic_length, hl, ic_rdD, w64o (x := ((acc.getD d 0 : Nat) : Int) + 1), w64o (x := (pre.length : Int) + 1), Int.toNat_natCast, show ((acc.getD d 0 : Nat) : Int) + 1 = ((acc.getD d 0 + 1 : Nat) : Int) by omega, ic_set]
  exact evp (by omega) (evp (by omega) (evp (by omega) (evp (by omega) (evp (by omega) h4))))
theorem spec_dgCounts_ev (b : Nat) (l : List Nat) (hb : b ≤ 1000) (h : ∀ d ∈ l, d < b) (hl : l.length ≤ 100000) : Ev (fun k => spec_dgCounts.f k (ic l) (b : Int)) (ic (cnts b l)) := by
 have h2 := spec_dgCounts_loop l [] (List.replicate b 0) (by simpa using h) (by simp; omega) (by rw [lsum_zeros]; omega) (by simp; omega)
 unfold spec_dgCounts.f
 rw [Int.toNat_natCast, ic_replicate, ic_length]
 exact evp (by omega) (evp (by omega) (by unfold cnts; simpa using h2))

theorem pow_len {b : Nat} (n : Nat) (hb : 2 ≤ b) (hb2 : b ≤ 16) (hn : n ≤ 1000000000000) : b ^ (dgl b n).length ≤ 1000000000000000 := by
 by_cases h : n = 0
 ·subst h
  have e : dgl b 0 = [0] := by unfold dgl; rw [if_pos rfl]
  rw [e, List.length_singleton, Nat.pow_one]
  omega
 ·have h1 := dgl_lower hb n (by omega)
  have h2 := dgl_pos b n hb
  have e : b ^ (dgl b n).length = b ^ ((dgl b n).length - 1) * b := by rw [← Nat.pow_succ]; congr 1; omega
  have h3 : b ^ ((dgl b n).length - 1) * b ≤ 1000000000000 * 16 := Nat.mul_le_mul (by omega) hb2
  omega
theorem cnts_cons {b : Nat} (n : Nat) (hb : 2 ≤ b) : ∃ z l, cnts b (dgl b n) = z :: l ∧ l.length + 1 = b ∧ z + lsum l = (dgl b n).length ∧ (n = 0 → z = 1 ∧ lsum l = 0) ∧ (1 ≤ n → 1 ≤ lsum l) := by
 have h1 := cnts_len b (dgl b n)
 have h2 := cnts_sum b _ (dgl_lt hb n)
 have h3 := cnts_get b _ (dgl_lt hb n)
 cases h : cnts b (dgl b n) with
 | nil => rw [h] at h1; simp at h1; omega
 | cons z l =>
  rw [h] at h1 h2 h3
  simp only [lsum] at h2
  refine ⟨z, l, rfl, by simpa using h1, h2, fun h0 => ?_, fun h0 => ?_⟩
  ·subst h0
   have e : dgl b 0 = [0] := by unfold dgl; rw [if_pos rfl]
   have h4 := h3 0
   rw [e] at h4 h2
   simp at h4 h2
   omega
  ·obtain ⟨x, t, e1, e2⟩ := dgl_head hb n h0
   have h4 := h3 x
   obtain ⟨y, rfl⟩ : ∃ y, x = y + 1 := ⟨x - 1, by omega⟩
   rw [e1, List.getD_cons_succ, List.count_cons_self] at h4
   have := lsum_ge l y
   omega
theorem crr_cons {b n z : Nat} {l : List Nat} (h : cnts b (dgl b n) = z :: l) : crr b n = if 0 < z ∧ 0 < n then ways 0 1 (z :: l) - ways 0 1 ((z - 1) :: l) else ways 0 1 (z :: l) := by
 unfold crr
 rw [h]
theorem ways_le (post : List Nat) : ∀ j m w, 1 ≤ w → w ≤ j ^ m → ways m w post ≤ (j + post.length) ^ (m + lsum post) := by
 induction post with
 | nil => intro j m w _ h; simpa [ways, lsum] using h
 | cons c post ih =>
  intro j m w h1 h2
  simp only [ways, lsum, List.length_cons]
  have h3 := bin_bound j m c
  have h4 := Nat.mul_le_mul_right (bin m c) h2
  rw [Nat.mul_comm (j ^ m)] at h4
  have h5 := ih (j + 1) (m + c) (w * bin m c) (Nat.mul_pos h1 (bin_pos m c)) (Nat.le_trans h4 h3)
  rw [show j + 1 + post.length = j + (post.length + 1) by omega, show m + c + lsum post = m + (c + lsum post) by omega] at h5
  exact h5
theorem ways_first (z : Nat) (l : List Nat) : ways 0 1 (z :: l) = ways z 1 l := by
 have e : bin 0 z = 1 := by simp [bin]
 simp only [ways]
 rw [e, Nat.zero_add, Nat.one_mul]
theorem ways_zero (l : List Nat) : ∀ m w, lsum l = 0 → ways m w l = w := by
 induction l with
 | nil => intro m w _; rfl
 | cons c l ih =>
  intro m w h
  simp only [lsum] at h
  obtain rfl : c = 0 := by omega
  simp only [ways]
  rw [bin_r0, Nat.mul_one]
  exact ih _ _ (by omega)
theorem crr_pos {b : Nat} (n : Nat) (hb : 2 ≤ b) : 1 ≤ crr b n := by
 obtain ⟨z, l, h1, h2, h3, h4, h5⟩ := cnts_cons n hb
 rw [crr_cons h1]
 split
 ·rename_i h
  have := ways_lt l (z - 1) (h5 h.2)
  rw [ways_first, ways_first]
  rw [show z - 1 + 1 = z by omega] at this
  omega
 ·exact ways_pos _ _ _ (Nat.le_refl _)
theorem crr_zero {b : Nat} (hb : 2 ≤ b) : crr b 0 = 1 := by
 obtain ⟨z, l, h1, h2, h3, h4, h5⟩ := cnts_cons 0 hb
 obtain ⟨rfl, h6⟩ := h4 rfl
 rw [crr_cons h1, if_neg (by omega), ways_first, ways_zero _ _ _ h6]
theorem ic_rd0 (z : Nat) (l : List Nat) : rd (ic (z :: l)) 0 = (z : Int) := by simp [rd, ic]
theorem crr_parts {b : Nat} (n : Nat) (hb : 2 ≤ b) (hb2 : b ≤ 16) (hn : n ≤ 1000000000000) : ∃ z l, cnts b (dgl b n) = z :: l ∧ Ev (fun k => impl_orders.f k (ic (z :: l))) ((ways 0 1 (z :: l) : Nat) : Int) ∧ Ev (fun k => spec_dgWays.f k (ic (z :: l))) ((ways 0 1 (z :: l) : Nat) : Int) ∧
  (1 ≤ z → (ic (z :: l)).set (0 : Int).toNat (wrap64 ((z : Int) - 1)) = ic ((z - 1) :: l)) ∧ (1 ≤ z → Ev (fun k => impl_orders.f k (ic ((z - 1) :: l))) ((ways 0 1 ((z - 1) :: l) : Nat) : Int) ∧ Ev (fun k => spec_dgWays.f k (ic ((z - 1) :: l))) ((ways 0 1 ((z - 1) :: l) : Nat) : Int)) ∧
  (1 ≤ z → 1 ≤ n → wrap64 (((ways 0 1 (z :: l) : Nat) : Int) - ((ways 0 1 ((z - 1) :: l) : Nat) : Int)) = ((ways 0 1 (z :: l) - ways 0 1 ((z - 1) :: l) : Nat) : Int)) ∧ z ≤ 40 := by
 obtain ⟨z, l, h1, h2, h3, h4, h5⟩ := cnts_cons n hb
 have hL := dgl_len hb n hn
 have hP := pow_len n hb hb2 hn
 have hz : z ≤ 40 := by omega
 have hP2 : 1 ≤ z → b ^ (z - 1 + lsum l) ≤ 1000000000000000 := fun h => by
  have h9 : b ^ (z - 1 + lsum l) ≤ b ^ (dgl b n).length := Nat.pow_le_pow_right (by omega) (by omega)
  exact Nat.le_trans h9 hP
 refine ⟨z, l, h1, impl_orders_ev b _ hL.2 hP (by omega) (z :: l) (by simpa using h2) (by simpa [lsum] using h3), spec_dgWays_ev b _ hL.2 hP (by omega) (z :: l) (by simpa using h2) (by simpa [lsum] using h3), fun h => ?_, fun h => ⟨impl_orders_ev b (z - 1 + lsum l) (by omega) (hP2 h) (by omega) ((z - 1) :: l) (by simpa using h2) rfl, spec_dgWays_ev b (z - 1 + lsum l) (by omega) (hP2 h) (by omega) ((z - 1) :: l) (by simpa using h2) rfl⟩, fun h h0 => ?_, hz⟩
 ·rw [w64 (by omega) (by omega), show (z : Int) - 1 = ((z - 1 : Nat) : Int) by omega]
  rfl
 ·have g1 := ways_le (z :: l) 0 0 1 (Nat.le_refl _) (by simp)
  have g2 := ways_lt l (z - 1) (h5 h0)
  have e : (0 + (z :: l).length) ^ (0 + lsum (z :: l)) = b ^ (dgl b n).length := by
   simp only [List.length_cons, lsum, Nat.zero_add]
   rw [h2, h3]
  rw [e] at g1
  have g3 := Nat.le_trans g1 hP
  rw [show z - 1 + 1 = z by omega] at g2
  have g4 : ways 0 1 ((z - 1) :: l) < ways 0 1 (z :: l) := by rw [ways_first, ways_first]; exact g2
  generalize ways 0 1 (z :: l) = A at g4 g3 ⊢
  generalize ways 0 1 ((z - 1) :: l) = B at g4 ⊢
  clear g1 g2 e hP hP2
  rw [w64 (by omega) (by omega)]
  omega
theorem impl_CountRearranged_ev {b : Nat} (n : Nat) (hb : 2 ≤ b) (hb2 : b ≤ 16) (hn : n ≤ 1000000000000) : Ev (fun k => impl_CountRearranged.f k (n : Int) (b : Int)) (((crr b n : Nat) : Int), true) := by
 obtain ⟨z, l, h1, h2, h3, h4, h5, h6, hz⟩ := crr_parts n hb hb2 hn
 have hL := dgl_len hb n hn
 have hc := impl_countsOf_ev b (dgl b n) (by omega) (dgl_lt hb n) (by omega)
 rw [h1] at hc
 rw [crr_cons h1]
 simp only [impl_CountRearranged.f, impl_isNumber_eq, Option.bind_some, decide_eq_true_eq]
 refine evp (by omega) (evb (impl_digitsOf_ev b n hb hn) (evb hc (evb h2 (evp (by simp [ic_length]) ?_))))
 rw [ic_rd0]
 by_cases g1 : 0 < z
 ·by_cases g2 : 0 < n
  ·rw [h4 g1, if_pos ⟨g1, g2⟩]
   exact evp (by omega) (evp (by omega) (evb (h5 g1).1 (evr (by rw [h6 g1 g2]))))
  ·rw [if_neg (by omega)]
   exact evp (by omega) (evn (by omega) (Ev.now _))
 ·rw [if_neg (by omega)]
  exact evn (by omega) (Ev.now _)
theorem spec_CountRearranged_ev {b : Nat} (n : Nat) (hb : 2 ≤ b) (hb2 : b ≤ 16) (hn : n ≤ 1000000000000) : Ev (fun k => spec_CountRearranged.f k (n : Int) (b : Int)) (((crr b n : Nat) : Int), true) := by
 obtain ⟨z, l, h1, h2, h3, h4, h5, h6, hz⟩ := crr_parts n hb hb2 hn
 have hL := dgl_len hb n hn
 have hc := spec_dgCounts_ev b (dgl b n) (by omega) (dgl_lt hb n) (by omega)
 rw [h1] at hc
 simp only [spec_CountRearranged.f, spec_dgAsked_eq, Option.bind_some, decide_eq_true_eq]
 refine evp (by omega) (evb (spec_dgOf_ev b n hb hn) (evb hc ?_))
 by_cases g0 : n = 0
 ·subst g0
  exact evp rfl (evr (by rw [crr_zero hb]; rfl))
 ·refine evn (by omega) (evb h3 (evp (by simp [ic_length]) ?_))
  rw [ic_rd0, crr_cons h1]
  by_cases g1 : 0 < z
  ·rw [h4 g1, if_pos ⟨g1, by omega⟩]
   exact evp (by omega) (evb (h5 g1).2 (evr (by rw [h6 g1 (by omega)])))
  ·rw [if_neg (by omega)]
   exact evn (by omega) (Ev.now _)

theorem l1All_loop (lo hi : Int) (whole : List Int) (post : List Int) : ∀ pre : List Int, whole = pre ++ post → whole.length ≤ 4611686018427387904 →
  Ev (fun k => spec_l1All.l0 k lo hi whole (whole.length : Int) (pre.length : Int)) (post.all fun x => decide (lo ≤ x ∧ x ≤ hi)) := by
 induction post with
 | nil =>
  intro pre hw h
  refine evs (fun k => by rw [spec_l1All.l0]) ?_
  exact evn (by simp [hw]) (evr (by simp))
 | cons y post ih =>
  intro pre hw h
  have hl : whole.length = pre.length + (post.length + 1) := by simp [hw]
  have hx : rd whole (pre.length : Int) = y := by rw [hw, rd_mid]
  refine evs (fun k => by rw [spec_l1All.l0]) ?_
  rw [hx]
  simp only [spec_l1In_eq, Option.bind_some, decide_eq_true_eq]
  refine evp (by omega) (evp (by omega) (evp (by omega) ?_))
  by_cases he : lo ≤ y ∧ y ≤ hi
  ·refine evp he ?_
   have h2 := ih (pre ++ [y]) (by simp [hw]) h
   rw [w64 (by omega) (by omega)]
   have e : ((y :: post).all fun x => decide (lo ≤ x ∧ x ≤ hi)) = (post.all fun x => decide (lo ≤ x ∧ x ≤ hi)) := by
    rw [List.all_cons, decide_eq_true he, Bool.true_and]
   rw [e]
   simpa using h2
  ·refine evn he (evr ?_)
   rw [List.all_cons, decide_eq_false he, Bool.false_and]
theorem l1All_ev (l : List Int) (lo hi : Int) (h : l.length ≤ 4611686018427387904) : Ev (fun k => spec_l1All.f k l lo hi) (l.all fun x => decide (lo ≤ x ∧ x ≤ hi)) := by
 unfold spec_l1All.f
 simpa using l1All_loop lo hi l l [] rfl h

theorem spec_dgSum_loop (post : List Nat) : ∀ (pre : List Nat) (a : Nat), (pre ++ post).length ≤ 1000000000000 → a + lsum post ≤ 1000000000000000000 →
  Ev (fun k => spec_dgSum.l0 k (a : Int) (ic (pre ++ post)) ((pre ++ post).length : Int) (pre.length : Int)) ((a + lsum post : Nat) : Int) := by
 induction post with
 | nil =>
  intro pre a h1 h2
  refine evs (fun k => by rw [spec_dgSum.l0]) ?_
  exact evn (by simp) (evr (by simp [lsum]))
 | cons d post ih =>
  intro pre a h1 h2
  simp only [lsum] at h2
  have hl : (pre ++ d :: post).length = pre.length + (post.length + 1) := by simp
  have h3 := ih (pre ++ [d]) (a + d) (by simp at h1 ⊢; omega) (by omega)
  rw [List.append_assoc, List.singleton_append] at h3
  refine evs (fun k => by rw [spec_dgSum.l0]) ?_
  rw [ic_rd, ic_length, hl, w64o (x := (a : Int) + (d : Int)), w64o (x := (pre.length : Int) + 1)]
  refine evp (by omega) (evp (by omega) (evp (by omega) ?_))
  rw [hl] at h3
  have e1 : (((pre ++ [d]).length : Nat) : Int) = (pre.length : Int) + 1 := by simp
  have e2 : ((a + d : Nat) : Int) = (a : Int) + (d : Int) := by omega
  rw [e1, e2] at h3
  have e3 : a + lsum (d :: post) = a + d + lsum post := by simp only [lsum]; omega
  rw [e3]
  exact h3
theorem spec_dgSum_all (l : List Nat) (h1 : l.length ≤ 1000000000000) (h2 : lsum l ≤ 1000000000000000000) : Ev (fun k => spec_dgSum.l0 k 0 (ic l) ((ic l).length : Int) 0) ((lsum l : Nat) : Int) := by
 have h := spec_dgSum_loop l [] 0 (by simpa using h1) (by omega)
 rw [ic_length]
 simpa using h

def lwr (b : Nat) (l : List Nat) : Int × Bool := if lsum l ≤ 40 ∧ (lst l = [0] ∨ 1 ≤ (lst l).headD 0) then told (val b 0 (lst l)) else (0, false)
theorem lst_len (l : List Nat) : (lst l).length = lsum l := by rw [(lst_perm l).length_eq, ex_len]
theorem lst_lt (l : List Nat) : ∀ d ∈ lst l, d < l.length := fun d h => by have := ex_mem l _ _ ((lst_perm _).mem_iff.1 h); omega
theorem lst_good (l : List Nat) : (lsum l ≤ 40 ∧ (lst l = [0] ∨ 1 ≤ (lst l).headD 0)) ↔ (1 ≤ (lst l).length ∧ (lst l).length ≤ 40 ∧ (0 < (lst l).headD 0 ∨ (lst l).length = 1)) := by
 rw [← lst_len]
 cases h : lst l with
 | nil => simp
 | cons x t =>
  simp only [List.headD_cons, List.length_cons]
  constructor
  ·rintro ⟨h1, h2⟩
   refine ⟨by omega, h1, ?_⟩
   rcases h2 with h2 | h2
   ·right
    have := congrArg List.length h2
    simpa using this
   ·left; omega
  ·rintro ⟨h1, h2, h3⟩
   refine ⟨h2, ?_⟩
   by_cases hx : 0 < x
   ·right; omega
   ·left
    have h4 : t.length = 0 := by omega
    rw [List.eq_nil_of_length_eq_zero h4, show x = 0 by omega]
theorem ic_rd0' (z : Nat) (l : List Nat) : rd (ic (z :: l)) 0 = (z : Int) := by simp [rd, ic]
theorem areDigits_ic (b : Nat) (hb : 2 ≤ b) (hb2 : b ≤ 16) (M : List Nat) (hd : ∀ d ∈ M, d < b) : impl_areDigits.f (ic M) (b : Int) = some (decide (1 ≤ M.length ∧ M.length ≤ 40 ∧ (0 < M.headD 0 ∨ M.length = 1))) := by
 unfold impl_areDigits.f impl_areIn.f
 have e1 : ((ic M).all fun x => decide (0 ≤ x ∧ x ≤ wrap64 ((b : Int) - 1))) = true := by
  rw [w64o (x := (b : Int) - 1), List.all_eq_true]
  intro x hx
  unfold ic at hx
  obtain ⟨y, hy, rfl⟩ := List.mem_map.1 hx
  have := hd y hy
  rw [decide_eq_true_eq]
  omega
 rw [e1, ic_length]
 simp only [Option.bind_some, Bool.and_true]
 by_cases h : 1 ≤ M.length ∧ M.length ≤ 40
 ·rw [decide_eq_true (show 1 ≤ (M.length : Int) ∧ (M.length : Int) ≤ 40 by omega), if_pos rfl, if_pos (by omega)]
  cases M with
  | nil => simp at h
  | cons x t =>
   rw [ic_rd0']
   by_cases hx : 0 < x
   ·rw [if_pos (by omega)]
    exact congrArg some (decide_eq_true (show 1 ≤ (x :: t).length ∧ (x :: t).length ≤ 40 ∧ (0 < x ∨ (x :: t).length = 1) from ⟨h.1, h.2, Or.inl hx⟩)).symm
   ·rw [if_neg (by omega)]
    by_cases ht : (x :: t).length = 1
    ·refine congrArg some (Eq.trans ?_ (decide_eq_true (show 1 ≤ (x :: t).length ∧ (x :: t).length ≤ 40 ∧ (0 < x ∨ (x :: t).length = 1) from ⟨h.1, h.2, Or.inr ht⟩)).symm)
     rw [ht]
     rfl
    ·refine congrArg some (Eq.trans ?_ (decide_eq_false (show ¬ (1 ≤ (x :: t).length ∧ (x :: t).length ≤ 40 ∧ (0 < x ∨ (x :: t).length = 1)) by rintro ⟨_, _, h3⟩; omega)).symm)
     exact beq_eq_false_iff_ne.2 (by omega)
 ·rw [decide_eq_false (show ¬ (1 ≤ (M.length : Int) ∧ (M.length : Int) ≤ 40) by omega), if_neg (by simp), decide_eq_false (by rintro ⟨h1, h2, _⟩; exact h ⟨h1, h2⟩)]
theorem least_j2 (b : Nat) (hb : 2 ≤ b) (hb2 : b ≤ 16) (l : List Nat) (hl : l.length = b) (hs : lsum l ≤ 1000000) : Ev (fun k => impl_LeastWith.j2 k (b : Int) (ic (lst l))) (lwr b l) := by
 have hd : ∀ d ∈ lst l, d < b := fun d h => by have := lst_lt l d h; omega
 refine evs (fun k => by rw [impl_LeastWith.j2]) ?_
 refine evc (areDigits_ic b hb hb2 _ hd) ?_
 unfold lwr
 by_cases h : lsum l ≤ 40 ∧ (lst l = [0] ∨ 1 ≤ (lst l).headD 0)
 ·rw [if_pos h]
  refine evp (by rw [decide_eq_true ((lst_good l).1 h)]) (evb (impl_value_ev b hb hb2 _ hd (by rw [lst_len]; omega)) ?_)
  unfold told impl_told.f
  by_cases hv : val b 0 (lst l) ≤ 1000000000000
  ·rw [if_pos hv, if_pos hv, if_neg (by omega)]
   exact evc rfl (Ev.now _)
  ·rw [if_neg hv, if_neg hv, if_pos (by omega)]
   exact evc rfl (Ev.now _)
 ·rw [if_neg h]
  exact evn (by rw [decide_eq_false (fun g => h ((lst_good l).2 g))]; simp) (Ev.now _)
theorem ix_zeros (z : Nat) (M : List Int) : ∀ i : Int, slices_IndexFunc_int_int.ix (List.replicate z 0 ++ M) i = slices_IndexFunc_int_int.ix M (i + z) := by
 induction z with
 | zero => intro i; simp
 | succ z ih =>
  intro i
  rw [List.replicate_succ, List.cons_append]
  simp only [slices_IndexFunc_int_int.ix]
  rw [if_neg (by omega), ih, show i + 1 + (z : Int) = i + ((z + 1 : Nat) : Int) by omega]
theorem least_end2 (b : Nat) (R : Int × Bool) (X : List Int) (n : Int) (z : Nat) (M : List Nat) (hM : ∀ x ∈ M, 1 ≤ x) (hj : Ev (fun k => impl_LeastWith.j2 k (b : Int) (ic (lsm z M))) R) : Ev (fun k => impl_LeastWith.l0 k (b : Int) (ic (List.replicate z 0 ++ M)) X n n) R := by
 have e0 : ic (List.replicate z 0 ++ M) = List.replicate z 0 ++ ic M := by simp [ic]
 cases M with
 | nil =>
  have e1 : slices_IndexFunc_int_int.ix (ic (List.replicate z 0 ++ [])) 0 = -1 := by rw [e0, ix_zeros]; rfl
  refine evs (fun k => by rw [impl_LeastWith.l0]) ?_
  refine evn (by omega) (evc rfl ?_)
  rw [e1]
  exact evn (by omega) (by simpa [lsm] using hj)
 | cons x r =>
  have hx : 1 ≤ x := hM x (by simp)
  have e1 : slices_IndexFunc_int_int.ix (ic (List.replicate z 0 ++ x :: r)) 0 = (z : Int) := by
   rw [e0, ix_zeros, ic_cons]
   simp only [slices_IndexFunc_int_int.ix]
   rw [if_pos (by omega)]
   omega
  have hL : (ic (List.replicate z 0 ++ x :: r)).length = z + (r.length + 1) := by simp [ic_length]
  refine evs (fun k => by rw [impl_LeastWith.l0]) ?_
  refine evn (by omega) (evc rfl ?_)
  rw [e1]
  by_cases hz : (z : Int) > 0
  ·have e2 : rd (ic (List.replicate z 0 ++ x :: r)) (z : Int) = (x : Int) := by
    have := ic_rd (List.replicate z 0) r x
    rwa [List.length_replicate] at this
   have e3 : rd (ic (List.replicate z 0 ++ x :: r)) 0 = 0 := by
    obtain ⟨y, rfl⟩ : ∃ y, z = y + 1 := ⟨z - 1, by omega⟩
    simp [rd, ic, List.replicate_succ]
   have e4 : ((ic (List.replicate z 0 ++ x :: r)).set (0 : Int).toNat (x : Int)).set ((z : Int)).toNat 0 = ic (x :: (List.replicate z 0 ++ r)) := by
    obtain ⟨y, rfl⟩ : ∃ y, z = y + 1 := ⟨z - 1, by omega⟩
    have e5 : ic (List.replicate (y + 1) 0 ++ x :: r) = (0 : Int) :: (List.replicate y 0 ++ (x : Int) :: ic r) := by simp [ic, List.replicate_succ]
    have e6 : ic (x :: (List.replicate (y + 1) 0 ++ r)) = (x : Int) :: (List.replicate y 0 ++ 0 :: ic r) := by
     simp only [ic, List.map_cons, List.map_append, List.map_replicate]
     rw [List.replicate_succ', List.append_assoc]
     rfl
    rw [e5, e6, Int.toNat_natCast, show (0 : Int).toNat = 0 from rfl, List.set_cons_zero, List.set_cons_succ]
    congr 1
    have := set_mid (List.replicate y (0 : Int)) (ic r) (x : Int) 0
    rw [List.length_replicate] at this
    exact this
   refine evp hz (evp (by omega) (evp (by rw [hL]; omega) (evp (by rw [hL]; omega) ?_)))
   rw [e2, e3, e4]
   exact hj
  ·obtain rfl : z = 0 := by omega
   exact evn hz (by simpa [lsm] using hj)
theorem least_end (b : Nat) (hb : 2 ≤ b) (hb2 : b ≤ 16) (l : List Nat) (hl : l.length = b) (hs : lsum l ≤ 1000000) (X : List Int) (n : Int) : Ev (fun k => impl_LeastWith.l0 k (b : Int) (ic (ex 0 l)) X n n) (lwr b l) := by
 have hj := least_j2 b hb hb2 l hl hs
 cases l with
 | nil => simp at hl; omega
 | cons z t =>
  have h2 := least_end2 b (lwr b (z :: t)) X n z (ex 1 t) (fun x hx => (ex_mem t 1 x hx).1) hj
  exact h2
theorem rep_eq (d c : Nat) (h : c ≤ 1000) : slices_Repeat_int_int.f [(d : Int)] (c : Int) = some (ic (List.replicate c d)) := by
 unfold slices_Repeat_int_int.f
 rw [if_pos (show [(d : Int)].length = 1 from rfl), if_pos (by omega), Int.toNat_natCast]
 simp [ic, rd]
theorem least_loop (b : Nat) (R : Int × Bool) (post : List Nat) : ∀ pre acc : List Nat, (pre ++ post).length ≤ 1000 → (∀ c ∈ post, c ≤ 40) → acc.length + lsum post ≤ 1000000 →
  Ev (fun k => impl_LeastWith.l0 k (b : Int) (ic (acc ++ ex pre.length post)) (ic (pre ++ post)) ((pre ++ post).length : Int) ((pre ++ post).length : Int)) R →
  Ev (fun k => impl_LeastWith.l0 k (b : Int) (ic acc) (ic (pre ++ post)) ((pre ++ post).length : Int) (pre.length : Int)) R := by
 induction post with
 | nil => intro pre acc _ _ _ h; simpa [ex] using h
 | cons c post ih =>
  intro pre acc h1 h2 h3 h
  have hl : (pre ++ c :: post).length = pre.length + (post.length + 1) := by simp
  simp only [lsum] at h3
  have e0 : acc ++ ex pre.length (c :: post) = (acc ++ List.replicate c pre.length) ++ ex (pre ++ [c]).length post := by simp [ex]
  rw [e0] at h
  have e1 : (((pre ++ [c]).length : Nat) : Int) = (pre.length : Int) + 1 := by simp
  have h4 := ih (pre ++ [c]) (acc ++ List.replicate c pre.length) (by simp at h1 ⊢; omega) (fun x hx => h2 x (by simp [hx])) (by simp; omega) (by simpa using h)
  rw [e1, List.append_assoc, List.singleton_append, hl] at h4
  rw [hl] at h1 ⊢
  refine evs (fun k => by rw [impl_LeastWith.l0]) ?_
  rw [ic_rd, ic_length, hl, w64o (x := (pre.length : Int) + 1)]
  refine evp (by omega) (evp (by omega) (evp (by omega) (evc (rep_eq _ _ (by have := h2 c (by simp); omega)) (evp (by rw [ic_length, ic_length, List.length_replicate]; omega) ?_))))
  rw [← ic_append]
  exact h4
def fz : Nat → List Nat → Nat
 | i, [] => i
 | i, c :: l => if c = 0 then fz (i + 1) l else i
def exm (f : Nat) : Nat → List Nat → List Nat
 | _, [] => []
 | d, c :: l => List.replicate (if d = f then c - 1 else c) d ++ exm f (d + 1) l
theorem fz_le (l : List Nat) : ∀ i, i ≤ fz i l ∧ fz i l ≤ i + l.length := by
 induction l with
 | nil => intro i; simp [fz]
 | cons c l ih =>
  intro i
  have := ih (i + 1)
  simp only [fz, List.length_cons]
  split <;> omega
theorem exm_far (f : Nat) (l : List Nat) : ∀ d, f < d → exm f d l = ex d l := by
 induction l with
 | nil => intro d _; rfl
 | cons c l ih => intro d h; simp only [exm, ex]; rw [if_neg (by omega), ih _ (by omega)]
theorem ex_fz (l : List Nat) : ∀ i, (fz i l = i + l.length → ex i l = []) ∧ (fz i l < i + l.length → ex i l = fz i l :: exm (fz i l) i l) := by
 induction l with
 | nil => intro i; exact ⟨fun _ => rfl, fun h => by simp [fz] at h⟩
 | cons c l ih =>
  intro i
  have h1 := ih (i + 1)
  have h2 := fz_le l (i + 1)
  simp only [fz, List.length_cons]
  by_cases hc : c = 0
  ·subst hc
   rw [if_pos rfl]
   refine ⟨fun h => ?_, fun h => ?_⟩
   ·simp only [ex, List.replicate_zero, List.nil_append]
    exact h1.1 (by omega)
   ·simp only [ex, exm, List.replicate_zero, List.nil_append]
    rw [if_neg (by omega), List.replicate_zero, List.nil_append]
    exact h1.2 (by omega)
  ·rw [if_neg hc]
   refine ⟨fun h => by omega, fun _ => ?_⟩
   simp only [ex, exm]
   rw [if_pos trivial, exm_far _ _ _ (by omega)]
   obtain ⟨y, rfl⟩ : ∃ y, c = y + 1 := ⟨c - 1, by omega⟩
   rw [List.replicate_succ]
   rfl
theorem dgLeast_l2 (f d : Int) (X : List Int) (n j : Int) (r : List Int) (q : Nat) : ∀ (acc : List Int) (x : Int), x ≤ 1000000 → -10 ≤ x → x.toNat = q → acc.length + q ≤ 10000000 →
  Ev (fun k => spec_dgLeast.l1 k f (acc ++ List.replicate q d) X n (wrap64 (j + 1))) r → Ev (fun k => spec_dgLeast.l2 k f acc d x X n j) r := by
 induction q with
 | zero =>
  intro acc x h1 h0 h2 h3 h
  refine evs (fun k => by rw [spec_dgLeast.l2]) ?_
  exact evn (by omega) (by simpa using h)
 | succ q ih =>
  intro acc x h1 h0 h2 h3 h
  refine evs (fun k => by rw [spec_dgLeast.l2]) ?_
  have h4 := ih (acc ++ [d]) (x - 1) (by omega) (by omega) (by omega) (by simp; omega) (by rw [List.append_assoc, List.singleton_append, ← List.replicate_succ]; exact h)
  rw [w64o (x := x - 1)]
  exact evp (by omega) (evp (by omega) h4)
theorem dgLeast_l1 (f : Nat) (post : List Nat) : ∀ pre acc : List Nat, (pre ++ post).length ≤ 1000 → (∀ c ∈ post, c ≤ 40) → acc.length + 40 * post.length ≤ 1000000 →
  Ev (fun k => spec_dgLeast.l1 k (f : Int) (ic acc) (ic (pre ++ post)) ((pre ++ post).length : Int) (pre.length : Int)) (ic (acc ++ exm f pre.length post)) := by
 induction post with
 | nil =>
  intro pre acc _ _ _
  refine evs (fun k => by rw [spec_dgLeast.l1]) ?_
  exact evn (by simp) (evr (by simp [exm]))
 | cons c post ih =>
  intro pre acc h1 h2 h3
  have hl : (pre ++ c :: post).length = pre.length + (post.length + 1) := by simp
  have hc := h2 c (by simp)
  simp only [List.length_cons] at h3
  have key : ∀ q : Nat, q ≤ 40 → (if pre.length = f then c - 1 else c) = q → Ev (fun k => spec_dgLeast.l1 k (f : Int) (ic acc ++ List.replicate q (pre.length : Int)) (ic (pre ++ c :: post)) ((pre.length + (post.length + 1) : Nat) : Int) (wrap64 ((pre.length : Int) + 1))) (ic (acc ++ exm f pre.length (c :: post))) := by
   intro q hq e
   have h4 := ih (pre ++ [c]) (acc ++ List.replicate q pre.length) (by simp at h1 ⊢; omega) (fun x hx => h2 x (by simp [hx])) (by simp; omega)
   have e1 : (((pre ++ [c]).length : Nat) : Int) = (pre.length : Int) + 1 := by simp
   have e2 : (acc ++ List.replicate q pre.length) ++ exm f (pre ++ [c]).length post = acc ++ exm f pre.length (c :: post) := by simp [exm, e]
   have e3 : ic (acc ++ List.replicate q pre.length) = ic acc ++ List.replicate q (pre.length : Int) := by simp [ic]
   rw [e2, e1, e3, List.append_assoc, List.singleton_append, hl] at h4
   rw [w64o (x := (pre.length : Int) + 1)]
   exact h4
  refine evs (fun k => by rw [spec_dgLeast.l1]) ?_
  rw [ic_rd, ic_length, hl]
  refine evp (by omega) (evp (by omega) (evp (by omega) ?_))
  by_cases hf : pre.length = f
  ·refine evp (by omega) (evs (fun k => by rw [spec_dgLeast.j4]) ?_)
   rw [w64o (x := (c : Int) - 1)]
   exact dgLeast_l2 _ _ _ _ _ _ (c - 1) _ _ (by omega) (by omega) (by omega) (by rw [ic_length]; omega) (key (c - 1) (by omega) (if_pos hf))
  ·refine evn (by omega) (evs (fun k => by rw [spec_dgLeast.j4]) ?_)
   exact dgLeast_l2 _ _ _ _ _ _ c _ _ (by omega) (by omega) (by omega) (by rw [ic_length]; omega) (key c hc (if_neg hf))
theorem dgLeast_l0 (r : List Int) (post : List Nat) : ∀ pre : List Nat, (pre ++ post).length ≤ 1000 →
  Ev (fun k => spec_dgLeast.j2 k (ic (pre ++ post)) ((fz pre.length post : Nat) : Int)) r → Ev (fun k => spec_dgLeast.l0 k (ic (pre ++ post)) (pre.length : Int)) r := by
 induction post with
 | nil =>
  intro pre h1 h
  refine evs (fun k => by rw [spec_dgLeast.l0]) ?_
  exact evn (by simp [ic_length]) h
 | cons c post ih =>
  intro pre h1 h
  have hl : (pre ++ c :: post).length = pre.length + (post.length + 1) := by simp
  have e1 : (((pre ++ [c]).length : Nat) : Int) = (pre.length : Int) + 1 := by simp
  refine evs (fun k => by rw [spec_dgLeast.l0]) ?_
  rw [ic_rd, ic_length, hl]
  refine evp (by omega) (evp (by omega) ?_)
  simp only [fz] at h
  by_cases hc : c = 0
  ·rw [if_pos hc] at h
   have h4 := ih (pre ++ [c]) (by simp at h1 ⊢; omega) (by simpa using h)
   rw [e1, List.append_assoc, List.singleton_append] at h4
   rw [w64o (x := (pre.length : Int) + 1)]
   exact evp (by omega) h4
  ·rw [if_neg hc] at h
   exact evn (by omega) h
def lss (l : List Nat) : List Nat := if lst l = [0] ∨ 1 ≤ (lst l).headD 0 then lst l else []
theorem spec_dgLeast_ev (z : Nat) (t : List Nat) (hl : (z :: t).length ≤ 1000) (h40 : ∀ c ∈ z :: t, c ≤ 40) : Ev (fun k => spec_dgLeast.f k (ic (z :: t))) (ic (lss (z :: t))) := by
 have hsum : lsum (z :: t) ≤ 40 * (z :: t).length := by
  generalize z :: t = l at h40
  induction l with
  | nil => simp [lsum]
  | cons c l ih => have := h40 c (by simp); have := ih (fun x hx => h40 x (by simp [hx])); simp only [lsum, List.length_cons]; omega
 have hs := spec_dgSum_all (z :: t) (by omega) (by omega)
 have hf := fz_le t 1
 have hx := ex_fz t 1
 have hlen := ex_len t 1
 have main : ¬ (lsum (z :: t) = 1 ∧ z = 1) → Ev (fun k => spec_dgLeast.j0 k (ic (z :: t)) false) (ic (lss (z :: t))) := by
  intro hno
  refine evs (fun k => by rw [spec_dgLeast.j0]) ?_
  refine evn (by simp) ?_
  have h0 := dgLeast_l0 (ic (lss (z :: t))) t [z] (by simpa using hl) ?_
  ·exact h0
  ·refine evs (fun k => by rw [spec_dgLeast.j2]) ?_
   simp only [List.length_singleton, List.singleton_append] at *
   unfold lss
   by_cases he : fz 1 t = 1 + t.length
   ·have e1 := hx.1 he
    refine evp (by rw [ic_length, he, List.length_cons]; omega) (evr ?_)
    have e4 : lst (z :: t) = List.replicate z 0 := by simp only [lst]; rw [e1]; rfl
    rw [e1] at hlen
    simp only [List.length_nil, lsum] at hlen hno
    rw [if_neg]
    ·rfl
    ·rw [e4]
     rintro (h | h)
     ·have := congrArg List.length h
      simp at this
      omega
     ·cases z with
      | zero => simp at h
      | succ z => simp [List.replicate_succ] at h
   ·have e1 := hx.2 (by omega)
    refine evn (by rw [ic_length, List.length_cons]; omega) ?_
    have h5 := dgLeast_l1 (fz 1 t) (z :: t) [] [fz 1 t] (by simpa using hl) h40 (by simp at hl ⊢; omega)
    have e2 : [fz 1 t] ++ exm (fz 1 t) 0 (z :: t) = lst (z :: t) := by
     simp only [lst]
     rw [e1]
     simp only [exm]
     rw [if_neg (by omega)]
     rfl
    have e3 : (lst (z :: t)).headD 0 = fz 1 t := by rw [← e2]; rfl
    rw [if_pos (Or.inr (by rw [e3]; exact hf.1)), ← e2]
    rw [ic_length]
    exact h5
 unfold spec_dgLeast.f spec_dgSum.f
 refine evb hs ?_
 by_cases h1 : lsum (z :: t) = 1
 ·refine evp (by omega) (evp (by simp [ic_length]) ?_)
  have e0 : rd (ic (z :: t)) 0 = (z : Int) := ic_rd0' z t
  rw [e0]
  by_cases h2 : z = 1
  ·subst h2
   refine evs (fun k => by rw [spec_dgLeast.j0]) ?_
   refine evp rfl (evr ?_)
   have e2 : ex 1 t = [] := List.eq_nil_of_length_eq_zero (by rw [hlen]; simp only [lsum] at h1; omega)
   have e3 : lst (1 :: t) = [0] := by simp only [lst]; rw [e2]; rfl
   unfold lss
   rw [if_pos (Or.inl e3), e3]
   rfl
  ·have e1 : ((z : Int) == 1) = false := beq_eq_false_iff_ne.2 (by omega)
   rw [e1]
   exact main (fun h => h2 h.2)
 ·exact evn (by omega) (main (fun h => h1 h.1))

theorem dgBack_loop (n : Nat) : ∀ (pre post out : List Int), pre.length = n → (pre ++ post).length ≤ 1000000000000 → out.length + pre.length ≤ 1000000000000 → Ev (fun k => spec_dgBack.l0 k (pre ++ post) out ((pre.length : Int) - 1)) (out ++ pre.reverse) := by
 induction n with
 | zero =>
  intro pre post out hn _ _
  obtain rfl : pre = [] := List.eq_nil_of_length_eq_zero hn
  refine evs (fun k => by rw [spec_dgBack.l0]) ?_
  exact evn (by simp) (evr (by simp))
 | succ n ih =>
  intro pre post out hn hl ho
  have h0 : pre ≠ [] := fun h => by subst h; simp at hn
  obtain ⟨p, x, rfl⟩ : ∃ p x, pre = p ++ [x] := ⟨pre.dropLast, pre.getLast h0, (List.dropLast_concat_getLast h0).symm⟩
  have hp : p.length = n := by simpa using hn
  have e0 : (p ++ [x]) ++ post = p ++ x :: post := by simp
  have e1 : (((p ++ [x]).length : Nat) : Int) - 1 = (p.length : Int) := by simp
  have hl2 : (p ++ x :: post).length = p.length + (post.length + 1) := by simp
  rw [e0] at hl
  rw [hl2] at hl
  have h := ih p (x :: post) (out ++ [x]) hp (by rw [hl2]; exact hl) (by simp at ho ⊢; omega)
  refine evs (fun k => by rw [spec_dgBack.l0]) ?_
  rw [e1, e0, rd_mid, hl2, w64o (x := (p.length : Int) - 1)]
  refine evp (by omega) (evp (by omega) (evp (by omega) (evp (by simp at ho; omega) ?_)))
  have e2 : out ++ (p ++ [x]).reverse = (out ++ [x]) ++ p.reverse := by simp
  rw [e2]
  exact h
theorem dgBack_ev (l : List Int) (h : l.length ≤ 1000000000000) : Ev (fun k => spec_dgBack.f k l) l.reverse := by
 unfold spec_dgBack.f
 rw [w64 (by omega) (by omega)]
 have := dgBack_loop l.length l [] [] rfl (by simpa using h) (by simpa using h)
 simpa using this

theorem low_byte (x : Int) : 0 ≤ Go.bits .and .u64 ((IntKind.u64.wrap x) / 1099511627776) 255 ∧ Go.bits .and .u64 ((IntKind.u64.wrap x) / 1099511627776) 255 ≤ 255 := by
 have h0 : 0 ≤ IntKind.u64.wrap x ∧ IntKind.u64.wrap x < 18446744073709551616 := by rw [IntKind.wrap_u64]; omega
 obtain ⟨y, hy⟩ := Int.eq_ofNat_of_zero_le (show 0 ≤ IntKind.u64.wrap x / 1099511627776 by omega)
 rw [hy]
 have h1 := bits_and_u64_nat y 255 (by omega) (by omega)
 have e : y &&& 255 = y % 256 := Nat.and_two_pow_sub_one_eq_mod y 8
 rw [e] at h1
 rw [show ((255 : Int)) = ((255 : Nat) : Int) from rfl, h1]
 omega
theorem next_ok (l : List Int) (hl : Bs l) (p s : Int) (h0 : 0 ≤ p) (h1 : p ≤ 1000000000000) :
  ∃ v s' : Int, spec_l1Cur_next.f l p s = some (v, p + 1, s') ∧ 0 ≤ v ∧ v ≤ 255 := by
 unfold spec_l1Cur_next.f
 rw [w64o (x := p + 1)]
 by_cases hp : p < (l.length : Int)
 ·have hm := hl _ (rd_mem l p h0 hp)
  rw [if_pos hp, if_pos h0]
  by_cases hq : p + 1 ≤ (l.length : Int)
  ·rw [if_pos hq]
   refine ⟨_, _, rfl, ?_⟩
   rw [w64 (by omega) (by omega)]
   exact hm
  ·omega
 ·rw [if_neg hp]
  by_cases hq : p + 1 ≤ (l.length : Int)
  ·omega
  ·rw [if_neg hq]
   refine ⟨_, _, rfl, ?_⟩
   have h := low_byte (IntKind.u64.wrap (IntKind.u64.wrap (s * 6364136223846793005)) + 1442695040888963407)
   rw [w64 (by omega) (by omega)]
   exact h
theorem pick_ok (l : List Int) (hl : Bs l) (p s n : Int) (h0 : 0 ≤ p) (h1 : p ≤ 999999999990) (hn : n ≤ 1000000) :
  ∃ v p' s' : Int, spec_l1Cur_pick.f l p s n = some (v, p', s') ∧ 0 ≤ v ∧ v ≤ 1000000 ∧ (v = 0 ∨ v < n) ∧ p ≤ p' ∧ p' ≤ p + 2 := by
 unfold spec_l1Cur_pick.f
 by_cases h : n ≤ 1
 ·rw [if_pos h]
  exact ⟨0, p, s, rfl, by omega, by omega, by omega, by omega, by omega⟩
 ·rw [if_neg h]
  obtain ⟨v, s1, e1, h2, h3⟩ := next_ok l hl p s h0 (by omega)
  rw [e1]
  simp only [Option.bind_some]
  by_cases h4 : n > 200
  ·rw [if_pos h4]
   obtain ⟨v2, s2, e2, h5, h6⟩ := next_ok l hl (p + 1) s1 (by omega) (by omega)
   rw [e2]
   simp only [Option.bind_some]
   rw [if_neg (by omega), w64o (x := v * 256), w64 (by omega) (by omega)]
   have h7 := Int.tmod_nonneg n (show 0 ≤ v * 256 + v2 by omega)
   have h8 := Int.tmod_lt_of_pos (v * 256 + v2) (show 0 < n by omega)
   exact ⟨_, _, _, rfl, h7, by omega, Or.inr h8, by omega, by omega⟩
  ·rw [if_neg h4, if_neg (by omega)]
   have h7 := Int.tmod_nonneg n (show 0 ≤ v by omega)
   have h8 := Int.tmod_lt_of_pos v (show 0 < n by omega)
   exact ⟨_, _, _, rfl, h7, by omega, Or.inr h8, by omega, by omega⟩
theorem among_ok (l : List Int) (hl : Bs l) (p s : Int) (m : List Int) (hm : m ≠ []) (hm2 : m.length ≤ 1000000) (h0 : 0 ≤ p) (h1 : p ≤ 999999999990) :
  ∃ v p' s' : Int, spec_l1Cur_among.f l p s m = some (v, p', s') ∧ v ∈ m ∧ p ≤ p' ∧ p' ≤ p + 2 := by
 unfold spec_l1Cur_among.f
 have hpos := List.length_pos_iff.2 hm
 obtain ⟨v, p', s', e1, h2, h3, h4, h5, h6⟩ := pick_ok l hl p s m.length h0 h1 (by omega)
 rw [e1]
 simp only [Option.bind_some]
 rw [if_pos h2, if_pos (by omega)]
 exact ⟨_, _, _, rfl, rd_mem m v h2 (by omega), h5, h6⟩

theorem base_ok (l : List Int) (hl : Bs l) (p s : Int) (h0 : 0 ≤ p) (h1 : p ≤ 999999999990) : ∃ v p' s' : Int, spec_l1Cur_base.f l p s = some (v, p', s') ∧ p ≤ p' ∧ p' ≤ p + 2 := by
 unfold spec_l1Cur_base.f
 obtain ⟨v, p', s', e, _, h2, h3⟩ := among_ok l hl p s [10, 10, 10, 2, 3, 5, 7, 16, 12, 10, 10, 16, 1, 17, 0] (by simp) (by simp) h0 h1
 rw [e]
 exact ⟨_, _, _, rfl, h2, h3⟩

theorem one_ok (l : List Int) (hl : Bs l) (p s n : Int) (h0 : 0 ≤ p) (h1 : p ≤ 999999999990) (hn : n ≤ 1000000) : ∃ (v : Bool) (p' s' : Int), spec_l1Cur_one.f l p s n = some (v, p', s') ∧ p ≤ p' ∧ p' ≤ p + 2 := by
 obtain ⟨v1, p1, s1, e1, a1, b1, c1, d1, f1⟩ := pick_ok l hl p s n h0 h1 hn
 unfold spec_l1Cur_one.f
 rw [e1]
 exact ⟨_, _, _, rfl, d1, f1⟩
theorem sureNumber_loop (l : List Int) (hl : Bs l) (d : Nat) : ∀ x p s : Int, 0 ≤ p → p + 2 * (d : Int) ≤ 100000000 → ∃ v p' s' : Int, Ev (fun k => spec_l1Cur_sureNumber.l0 k x (d : Int) l p s) (v, p', s') ∧ p ≤ p' ∧ p' ≤ p + 2 * (d : Int) := by
 induction d with
 | zero =>
  intro x p s h0 h1
  exact ⟨x, p, s, evs (fun k => by rw [spec_l1Cur_sureNumber.l0]) (evn (by omega) (Ev.now _)), by omega, by omega⟩
 | succ d ih =>
  intro x p s h0 h1
  obtain ⟨v, p1, s1, e1, _, _, _, h2, h3⟩ := pick_ok l hl p s 10 h0 (by omega) (by omega)
  obtain ⟨v', p2, s2, e2, h4, h5⟩ := ih (wrap64 (wrap64 (x * 10) + v)) p1 s1 (by omega) (by omega)
  refine ⟨v', p2, s2, evs (fun k => by rw [spec_l1Cur_sureNumber.l0]) (evp (by omega) ?_), by omega, by omega⟩
  simp only [e1, Option.bind_some]
  rw [w64 (x := (((d + 1 : Nat)) : Int) - 1) (by omega) (by omega), show (((d + 1 : Nat)) : Int) - 1 = (d : Int) by omega]
  exact e2
theorem sureNumber_ok (l : List Int) (hl : Bs l) (p s : Int) (h0 : 0 ≤ p) (h1 : p ≤ 90000000) : ∃ v p' s' : Int, Ev (fun k => spec_l1Cur_sureNumber.f k l p s) (v, p', s') ∧ p ≤ p' ∧ p' ≤ p + 30 := by
 obtain ⟨v1, p1, s1, e1, a1, b1, c1, d1, f1⟩ := pick_ok l hl p s 8 (by omega) (by omega) (by omega)
 simp only [spec_l1Cur_sureNumber.f, e1, Option.bind_some]
 by_cases h0 : v1 = 0
 ·obtain ⟨v2, p2, s2, e2, a2, b2, c2, d2, f2⟩ := pick_ok l hl p1 s1 256 (by omega) (by omega) (by omega)
  refine ⟨v2, p2, s2, evp h0 ?_, by omega, by omega⟩
  simp only [e2, Option.bind_some]
  exact Ev.now _
 ·by_cases h1 : v1 = 1
  ·obtain ⟨v, p2, s2, e2, _, h2, h3⟩ := among_ok l hl p1 s1 [0, 1, 9, 10, 99, 100, 153, 370, 1000, 6174, 9999, 999999999999, 1000000000000] (by simp) (by simp) (by omega) (by omega)
   refine ⟨v, p2, s2, evn h0 (evp h1 ?_), by omega, by omega⟩
   simp only [e2, Option.bind_some]
   exact Ev.now _
  ·by_cases h2 : v1 = 2
   ·obtain ⟨v2, p2, s2, e2, a2, b2, c2, d2, f2⟩ := pick_ok l hl p1 s1 256 (by omega) (by omega) (by omega)
    obtain ⟨v3, p3, s3, e3, a3, b3, c3, d3, f3⟩ := pick_ok l hl p2 s2 256 (by omega) (by omega) (by omega)
    refine ⟨wrap64 (v2 * v3), p3, s3, evn h0 (evn h1 (evp h2 ?_)), by omega, by omega⟩
    simp only [e2, e3, Option.bind_some]
    exact Ev.now _
   ·obtain ⟨v2, p2, s2, e2, a2, b2, c2, d2, f2⟩ := pick_ok l hl p1 s1 11 (by omega) (by omega) (by omega)
    obtain ⟨d, rfl⟩ := natOf (a := v2) a2
    obtain ⟨v3, p3, s3, e3, h4, h5⟩ := sureNumber_loop l hl (1 + d) 0 p2 s2 (by omega) (by omega)
    refine ⟨v3, p3, s3, evn h0 (evn h1 (evn h2 ?_)), by omega, by omega⟩
    simp only [e2, Option.bind_some]
    rw [w64o (x := (1 : Int) + (d : Int))]
    simpa using e3
theorem number_ok (l : List Int) (hl : Bs l) (p s : Int) (h0 : 0 ≤ p) (h1 : p ≤ 80000000) : ∃ v p' s' : Int, Ev (fun k => spec_l1Cur_number.f k l p s) (v, p', s') ∧ p ≤ p' ∧ p' ≤ p + 40 := by
 obtain ⟨v1, p1, s1, e1, d1, f1⟩ := one_ok l hl p s 20 (by omega) (by omega) (by omega)
 simp only [spec_l1Cur_number.f, e1, Option.bind_some]
 by_cases h0 : v1 = true
 ·obtain ⟨v, p2, s2, e2, _, h2, h3⟩ := among_ok l hl p1 s1 [(-1), 1000000000001, 4611686018427387904, (-4611686018427387904)] (by simp) (by simp) (by omega) (by omega)
  refine ⟨v, p2, s2, evp h0 ?_, by omega, by omega⟩
  simp only [e2, Option.bind_some]
  exact Ev.now _
 ·obtain ⟨v, p2, s2, e2, h2, h3⟩ := sureNumber_ok l hl p1 s1 (by omega) (by omega)
  exact ⟨v, p2, s2, evn h0 (evb e2 (Ev.now _)), by omega, by omega⟩

theorem sure_range (l : List Int) (hl : Bs l) (d : Nat) : ∀ x p s : Int, 0 ≤ p → p + 2 * (d : Int) ≤ 100000000 → 0 ≤ x → x < 10 ^ (11 - d) → d ≤ 11 → ∃ v p' s' : Int, Ev (fun k => spec_l1Cur_sureNumber.l0 k x (d : Int) l p s) (v, p', s') ∧ 0 ≤ v ∧ v < 10 ^ 11 ∧ p ≤ p' ∧ p' ≤ p + 2 * (d : Int) := by
 induction d with
 | zero =>
  intro x p s h0 h1 hx hx2 _
  exact ⟨x, p, s, evs (fun k => by rw [spec_l1Cur_sureNumber.l0]) (evn (by omega) (Ev.now _)), hx, hx2, by omega, by omega⟩
 | succ d ih =>
  intro x p s h0 h1 hx hx2 hd
  obtain ⟨v, p1, s1, e1, a1, _, c1, h2, h3⟩ := pick_ok l hl p s 10 h0 (by omega) (by omega)
  have hpow : (10 : Int) ^ (11 - d) = 10 ^ (11 - (d + 1)) * 10 := by rw [← Int.pow_succ]; congr 1; omega
  have hle : (10 : Int) ^ (11 - (d + 1)) ≤ 10 ^ 11 := by
   have : (10 : Nat) ^ (11 - (d + 1)) ≤ 10 ^ 11 := Nat.pow_le_pow_right (by omega) (by omega)
   exact_mod_cast this
  have h11 : (10 : Int) ^ 11 = 100000000000 := by decide
  rw [h11] at hle
  have ew : wrap64 (wrap64 (x * 10) + v) = x * 10 + v := by rw [w64o (x := x * 10), w64 (by omega) (by omega)]
  obtain ⟨v', p2, s2, e2, g1, g2, h4, h5⟩ := ih (x * 10 + v) p1 s1 (by omega) (by omega) (by omega) (by rw [hpow]; omega) (by omega)
  refine ⟨v', p2, s2, evs (fun k => by rw [spec_l1Cur_sureNumber.l0]) (evp (by omega) ?_), g1, g2, by omega, by omega⟩
  simp only [e1, Option.bind_some]
  rw [w64 (x := (((d + 1 : Nat)) : Int) - 1) (by omega) (by omega), show (((d + 1 : Nat)) : Int) - 1 = (d : Int) by omega, ew]
  exact e2
theorem sure_ok (l : List Int) (hl : Bs l) (p s : Int) (h0 : 0 ≤ p) (h1 : p ≤ 90000000) : ∃ (v : Nat) (p' s' : Int), v ≤ 1000000000000 ∧ Ev (fun k => spec_l1Cur_sureNumber.f k l p s) ((v : Int), p', s') ∧ p ≤ p' ∧ p' ≤ p + 30 := by
 obtain ⟨v1, p1, s1, e1, a1, b1, c1, d1, f1⟩ := pick_ok l hl p s 8 (by omega) (by omega) (by omega)
 simp only [spec_l1Cur_sureNumber.f, e1, Option.bind_some]
 by_cases h0 : v1 = 0
 ·obtain ⟨v2, p2, s2, e2, a2, b2, c2, d2, f2⟩ := pick_ok l hl p1 s1 256 (by omega) (by omega) (by omega)
  obtain ⟨v2, rfl⟩ := natOf a2
  refine ⟨v2, p2, s2, by omega, evp h0 ?_, by omega, by omega⟩
  simp only [e2, Option.bind_some]
  exact Ev.now _
 ·by_cases h1 : v1 = 1
  ·obtain ⟨v, p2, s2, e2, hm, h2, h3⟩ := among_ok l hl p1 s1 [0, 1, 9, 10, 99, 100, 153, 370, 1000, 6174, 9999, 999999999999, 1000000000000] (by simp) (by simp) (by omega) (by omega)
   have hv : 0 ≤ v ∧ v ≤ 1000000000000 := by
    simp only [List.mem_cons, List.not_mem_nil, or_false] at hm
    omega
   obtain ⟨v, rfl⟩ := natOf hv.1
   refine ⟨v, p2, s2, by omega, evn h0 (evp h1 ?_), by omega, by omega⟩
   simp only [e2, Option.bind_some]
   exact Ev.now _
  ·by_cases h2 : v1 = 2
   ·obtain ⟨v2, p2, s2, e2, a2, b2, c2, d2, f2⟩ := pick_ok l hl p1 s1 256 (by omega) (by omega) (by omega)
    obtain ⟨v3, p3, s3, e3, a3, b3, c3, d3, f3⟩ := pick_ok l hl p2 s2 256 (by omega) (by omega) (by omega)
    obtain ⟨v2, rfl⟩ := natOf a2
    obtain ⟨v3, rfl⟩ := natOf a3
    have hm : v2 * v3 ≤ 255 * 255 := Nat.mul_le_mul (by omega) (by omega)
    have ew : wrap64 ((v2 : Int) * (v3 : Int)) = ((v2 * v3 : Nat) : Int) := by rw [← Int.natCast_mul, w64n _ (by omega)]
    refine ⟨v2 * v3, p3, s3, by omega, evn h0 (evn h1 (evp h2 ?_)), by omega, by omega⟩
    simp only [e2, e3, Option.bind_some, ew]
    exact Ev.now _
   ·obtain ⟨v2, p2, s2, e2, a2, b2, c2, d2, f2⟩ := pick_ok l hl p1 s1 11 (by omega) (by omega) (by omega)
    obtain ⟨d, rfl⟩ := natOf (a := v2) a2
    obtain ⟨v3, p3, s3, e3, g1, g2, h4, h5⟩ := sure_range l hl (1 + d) 0 p2 s2 (by omega) (by omega) (by omega) (by exact Int.pow_pos (by omega)) (by omega)
    obtain ⟨v3, rfl⟩ := natOf g1
    have h11 : (10 : Int) ^ 11 = 100000000000 := by decide
    rw [h11] at g2
    refine ⟨v3, p3, s3, by omega, evn h0 (evn h1 (evn h2 ?_)), by omega, by omega⟩
    simp only [e2, Option.bind_some]
    rw [w64o (x := (1 : Int) + (d : Int))]
    simpa using e3

theorem slices_Equal_int_int_loop (post : List Int) : ∀ (pre post' : List Int), post'.length = post.length → (pre ++ post).length ≤ 4611686018427387904 →
  Ev (fun k => slices_Equal_int_int.l0 k (pre ++ post) (pre ++ post') ((pre ++ post).length : Int) (pre.length : Int)) (decide (post = post')) := by
 induction post with
 | nil =>
  intro pre post' hl h
  obtain rfl : post' = [] := List.eq_nil_of_length_eq_zero hl
  refine evs (fun k => by rw [slices_Equal_int_int.l0]) ?_
  exact evn (by simp) (evr (by simp))
 | cons x post ih =>
  intro pre post' hl h
  obtain ⟨y, post', rfl⟩ : ∃ y z, post' = y :: z := by cases post' with
   | nil => simp at hl
   | cons y z => exact ⟨y, z, rfl⟩
  refine evs (fun k => by rw [slices_Equal_int_int.l0]) ?_
  refine evp (by simp; omega) (evp (by omega) (evp (by simp; omega) (evp (by simp; omega) ?_)))
  rw [rd_mid, rd_mid]
  by_cases he : x = y
  ·subst he
   refine evp rfl ?_
   have h2 := ih (pre ++ [x]) post' (by simpa using hl) (by simpa using h)
   simp only [List.append_assoc, List.singleton_append] at h2
   rw [w64 (by omega) (by simp at h; omega)]
   simpa using h2
  ·exact evn he (evr (by simp [he]))
theorem slices_Equal_int_int_ev (l l' : List Int) (h : l.length ≤ 4611686018427387904) : Ev (fun k => slices_Equal_int_int.f k l l') (decide (l = l')) := by
 unfold slices_Equal_int_int.f
 by_cases hl : l.length = l'.length
 ·exact evp (by omega) (by simpa using slices_Equal_int_int_loop l [] l' hl.symm (by simpa using h))
 ·exact evn (by omega) (evr (by symm; rw [decide_eq_false_iff_not]; exact fun e => hl (by rw [e])))
theorem spec_l1Same_loop (post : List Int) : ∀ (pre post' : List Int), post'.length = post.length → (pre ++ post).length ≤ 4611686018427387904 →
  Ev (fun k => spec_l1Same.l0 k (pre ++ post) (pre ++ post') ((pre ++ post).length : Int) (pre.length : Int)) (decide (post = post')) := by
 induction post with
 | nil =>
  intro pre post' hl h
  obtain rfl : post' = [] := List.eq_nil_of_length_eq_zero hl
  refine evs (fun k => by rw [spec_l1Same.l0]) ?_
  exact evn (by simp) (evr (by simp))
 | cons x post ih =>
  intro pre post' hl h
  obtain ⟨y, post', rfl⟩ : ∃ y z, post' = y :: z := by cases post' with
   | nil => simp at hl
   | cons y z => exact ⟨y, z, rfl⟩
  refine evs (fun k => by rw [spec_l1Same.l0]) ?_
  refine evp (by simp; omega) (evp (by omega) (evp (by simp; omega) (evp (by simp; omega) ?_)))
  rw [rd_mid, rd_mid]
  by_cases he : x = y
  ·subst he
   refine evp rfl ?_
   have h2 := ih (pre ++ [x]) post' (by simpa using hl) (by simpa using h)
   simp only [List.append_assoc, List.singleton_append] at h2
   rw [w64 (by omega) (by simp at h; omega)]
   simpa using h2
  ·exact evn he (evr (by simp [he]))
theorem spec_l1Same_ev (l l' : List Int) (h : l.length ≤ 4611686018427387904) : Ev (fun k => spec_l1Same.f k l l') (decide (l = l')) := by
 unfold spec_l1Same.f
 by_cases hl : l.length = l'.length
 ·exact evp (by omega) (by simpa using spec_l1Same_loop l [] l' hl.symm (by simpa using h))
 ·exact evn (by omega) (evr (by symm; rw [decide_eq_false_iff_not]; exact fun e => hl (by rw [e])))
theorem laws_rSame_loop (post : List Int) : ∀ (pre post' : List Int), post'.length = post.length → (pre ++ post).length ≤ 4611686018427387904 →
  Ev (fun k => laws_rSame.l0 k (pre ++ post) (pre ++ post') ((pre ++ post).length : Int) (pre.length : Int)) (decide (post = post')) := by
 induction post with
 | nil =>
  intro pre post' hl h
  obtain rfl : post' = [] := List.eq_nil_of_length_eq_zero hl
  refine evs (fun k => by rw [laws_rSame.l0]) ?_
  exact evn (by simp) (evr (by simp))
 | cons x post ih =>
  intro pre post' hl h
  obtain ⟨y, post', rfl⟩ : ∃ y z, post' = y :: z := by cases post' with
   | nil => simp at hl
   | cons y z => exact ⟨y, z, rfl⟩
  refine evs (fun k => by rw [laws_rSame.l0]) ?_
  refine evp (by simp; omega) (evp (by omega) (evp (by simp; omega) (evp (by simp; omega) ?_)))
  rw [rd_mid, rd_mid]
  by_cases he : x = y
  ·subst he
   refine evp rfl ?_
   have h2 := ih (pre ++ [x]) post' (by simpa using hl) (by simpa using h)
   simp only [List.append_assoc, List.singleton_append] at h2
   rw [w64 (by omega) (by simp at h; omega)]
   simpa using h2
  ·exact evn he (evr (by simp [he]))
theorem laws_rSame_ev (l l' : List Int) (h : l.length ≤ 4611686018427387904) : Ev (fun k => laws_rSame.f k l l') (decide (l = l')) := by
 unfold laws_rSame.f
 by_cases hl : l.length = l'.length
 ·exact evp (by omega) (by simpa using laws_rSame_loop l [] l' hl.symm (by simpa using h))
 ·exact evn (by omega) (evr (by symm; rw [decide_eq_false_iff_not]; exact fun e => hl (by rw [e])))
theorem laws_rSame_self (l : List Int) (h : l.length ≤ 4611686018427387904) : Ev (fun k => laws_rSame.f k l l) true := by simpa using laws_rSame_ev l l h

theorem ic_iff (l m : List Nat) : ic l = ic m ↔ l = m := by
 refine ⟨fun h => ?_, fun h => by rw [h]⟩
 have h2 := congrArg (List.map Int.toNat) h
 unfold ic at h2
 rw [List.map_map, List.map_map, show (Int.toNat ∘ fun (x : Nat) => (x : Int)) = id from funext (fun x => Int.toNat_natCast x), List.map_id, List.map_id] at h2
 exact h2
theorem impl_Same_ev {b : Nat} (n m : Nat) (hb : 2 ≤ b) (hb2 : b ≤ 16) (hn : n ≤ 1000000000000) (hm : m ≤ 1000000000000) : Ev (fun k => impl_SameDigits.f k (n : Int) (m : Int) (b : Int)) (decide (srt b n = srt b m), true) := by
 have h1 := slices_Equal_int_int_ev (ic (srt b n)) (ic (srt b m)) (by rw [ic_length, srt_len hb]; have := dgl_len hb n hn; omega)
 simp only [impl_SameDigits.f, impl_isNumber_eq, Option.bind_some, decide_eq_true_eq]
 refine evp (by omega) (evs (fun k => by rw [impl_SameDigits.j0]) ?_)
 rw [decide_eq_true (show (0 ≤ (m : Int) ∧ (m : Int) ≤ 1000000000000) ∧ 2 ≤ (b : Int) ∧ (b : Int) ≤ 16 by omega)]
 refine evn (by simp) (evb (impl_sorted_ev b n hb hn) (evb (impl_sorted_ev b m hb hm) (evb h1 (evr ?_))))
 rw [decide_eq_decide.2 (ic_iff _ _)]
theorem spec_Same_ev {b : Nat} (n m : Nat) (hb : 2 ≤ b) (hb2 : b ≤ 16) (hn : n ≤ 1000000000000) (hm : m ≤ 1000000000000) : Ev (fun k => spec_SameDigits.f k (n : Int) (m : Int) (b : Int)) (decide (srt b n = srt b m), true) := by
 have hL := dgl_len hb n hn
 have hL2 := dgl_len hb m hm
 have h1 := spec_l1Same_ev (ic (cnts b (dgl b n))) (ic (cnts b (dgl b m))) (by rw [ic_length, cnts_len]; omega)
 have c1 := spec_dgCounts_ev b (dgl b n) (by omega) (dgl_lt hb n) (by omega)
 have c2 := spec_dgCounts_ev b (dgl b m) (by omega) (dgl_lt hb m) (by omega)
 simp only [spec_SameDigits.f, spec_dgAsked_eq, spec_dgNumber.f, spec_l1In_eq, Option.bind_some, decide_eq_true_eq]
 refine evp (by omega) (evs (fun k => by rw [spec_SameDigits.j0]) ?_)
 rw [decide_eq_true (show 0 ≤ (m : Int) ∧ (m : Int) ≤ 1000000000000 by omega)]
 refine evn (by simp) (evb (spec_dgOf_ev b n hb hn) (evb c1 (evb (spec_dgOf_ev b m hb hm) (evb c2 (evb h1 (evr ?_))))))
 rw [decide_eq_decide.2 ((ic_iff _ _).trans (srt_cnts hb n m).symm)]
theorem impl_Same_no (a c d : Int) (h : ¬ (((0 ≤ a ∧ a ≤ 1000000000000) ∧ 2 ≤ d ∧ d ≤ 16) ∧ 0 ≤ c ∧ c ≤ 1000000000000)) : Ev (fun k => impl_SameDigits.f k a c d) (false, false) := by
 simp only [impl_SameDigits.f, impl_isNumber_eq, Option.bind_some, decide_eq_true_eq]
 by_cases h1 : (0 ≤ a ∧ a ≤ 1000000000000) ∧ 2 ≤ d ∧ d ≤ 16
 ·refine evp h1 (evs (fun k => by rw [impl_SameDigits.j0]) ?_)
  rw [decide_eq_false (by omega)]
  exact evp rfl (Ev.now _)
 ·exact evn h1 (evs (fun k => by rw [impl_SameDigits.j0]) (evp rfl (Ev.now _)))
theorem spec_Same_no (a c d : Int) (h : ¬ (((0 ≤ a ∧ a ≤ 1000000000000) ∧ 2 ≤ d ∧ d ≤ 16) ∧ 0 ≤ c ∧ c ≤ 1000000000000)) : Ev (fun k => spec_SameDigits.f k a c d) (false, false) := by
 simp only [spec_SameDigits.f, spec_dgAsked_eq, spec_dgNumber.f, spec_l1In_eq, Option.bind_some, decide_eq_true_eq]
 by_cases h1 : (0 ≤ a ∧ a ≤ 1000000000000) ∧ 2 ≤ d ∧ d ≤ 16
 ·refine evp h1 (evs (fun k => by rw [spec_SameDigits.j0]) ?_)
  rw [decide_eq_false (by omega)]
  exact evp rfl (Ev.now _)
 ·exact evn h1 (evs (fun k => by rw [spec_SameDigits.j0]) (evp rfl (Ev.now _)))
theorem srt_len40 {b : Nat} (n : Nat) (hb : 2 ≤ b) (hn : n ≤ 1000000000000) : (srt b n).length ≤ 40 := by
 rw [srt_len hb]
 exact (dgl_len hb n hn).2
theorem rev_lt {b : Nat} (n : Nat) (hb : 2 ≤ b) : ∀ d ∈ (srt b n).reverse, d < b := fun d h => srt_lt hb n d (List.mem_reverse.1 h)
theorem impl_Down_ev {b : Nat} (n : Nat) (hb : 2 ≤ b) (hb2 : b ≤ 16) (hn : n ≤ 1000000000000) : Ev (fun k => impl_SortedDown.f k (n : Int) (b : Int)) (told (val b 0 (srt b n).reverse)) := by
 have hl := srt_len40 n hb hn
 have h1 : Ev (fun k => impl_reversed.f k (ic (srt b n))) (ic (srt b n).reverse) := by
  have e : slices_Clone_int_int.f (ic (srt b n)) = some (ic (srt b n)) := by
   unfold slices_Clone_int_int.f
   rw [if_pos (by rw [ic_length]; omega)]
  refine evc e (evb (reverse_ev (ic (srt b n)) (by rw [ic_length]; omega)) (evr ?_))
  rw [ic_reverse]
 simp only [impl_SortedDown.f, impl_isNumber_eq, Option.bind_some, decide_eq_true_eq]
 refine evp (by omega) (evb (impl_sorted_ev b n hb hn) (evb h1 (evb (impl_value_ev b hb hb2 _ (rev_lt n hb) (by rw [List.length_reverse]; omega)) ?_)))
 unfold told impl_told.f
 by_cases hv : val b 0 (srt b n).reverse ≤ 1000000000000
 ·rw [if_pos hv, if_pos hv, if_neg (by omega)]
  exact evc rfl (Ev.now _)
 ·rw [if_neg hv, if_neg hv, if_pos (by omega)]
  exact evc rfl (Ev.now _)
theorem spec_Down_ev {b : Nat} (n : Nat) (hb : 2 ≤ b) (hb2 : b ≤ 16) (hn : n ≤ 1000000000000) : Ev (fun k => spec_SortedDown.f k (n : Int) (b : Int)) (told (val b 0 (srt b n).reverse)) := by
 have hl := srt_len40 n hb hn
 have h1 := dgBack_ev (ic (srt b n)) (by rw [ic_length]; omega)
 rw [← ic_reverse] at h1
 simp only [spec_SortedDown.f, spec_dgAsked_eq, Option.bind_some, decide_eq_true_eq]
 exact evp (by omega) (evb (spec_dgOf_ev b n hb hn) (evb (spec_dgSorted_ev b n hb hn) (evb h1 (evb (spec_dgFrom_ev b hb hb2 _ (rev_lt n hb) (by rw [List.length_reverse]; omega)) (Ev.now _)))))
theorem impl_Up_ev {b : Nat} (n : Nat) (hb : 2 ≤ b) (hb2 : b ≤ 16) (hn : n ≤ 1000000000000) : Ev (fun k => impl_SortedUp.f k (n : Int) (b : Int)) (((val b 0 (srt b n) : Nat) : Int), true) := by
 have hl := srt_len40 n hb hn
 have hu := srt_up hb n
 simp only [impl_SortedUp.f, impl_isNumber_eq, Option.bind_some, decide_eq_true_eq]
 refine evp (by omega) (evb (impl_sorted_ev b n hb hn) (evb (impl_value_ev b hb hb2 _ (srt_lt hb n) (by omega)) (evr ?_)))
 rw [if_pos (by omega)]
theorem spec_Up_ev {b : Nat} (n : Nat) (hb : 2 ≤ b) (hb2 : b ≤ 16) (hn : n ≤ 1000000000000) : Ev (fun k => spec_SortedUp.f k (n : Int) (b : Int)) (((val b 0 (srt b n) : Nat) : Int), true) := by
 have hl := srt_len40 n hb hn
 have hu := srt_up hb n
 have h1 := spec_dgFrom_ev b hb hb2 _ (srt_lt hb n) (by omega)
 have e : told (val b 0 (srt b n)) = (((val b 0 (srt b n) : Nat) : Int), true) := by unfold told; rw [if_pos (by omega)]
 rw [e] at h1
 simp only [spec_SortedUp.f, spec_dgAsked_eq, Option.bind_some, decide_eq_true_eq]
 exact evp (by omega) (evb (spec_dgOf_ev b n hb hn) (evb (spec_dgSorted_ev b n hb hn) (evb h1 (Ev.now _))))
theorem one_both (a d : Int) : (∃ u : Int × Bool, Ev (fun k => impl_SortedUp.f k a d) u ∧ Ev (fun k => spec_SortedUp.f k a d) u ∧ (u.2 = true → u.1 ≤ a)) ∧ (∃ u : Int × Bool, Ev (fun k => impl_SortedDown.f k a d) u ∧ Ev (fun k => spec_SortedDown.f k a d) u) ∧
  (∃ u : Int × Bool, Ev (fun k => impl_CountRearranged.f k a d) u ∧ Ev (fun k => spec_CountRearranged.f k a d) u ∧ (u.2 = true → 1 ≤ u.1)) := by
 by_cases h : (0 ≤ a ∧ a ≤ 1000000000000) ∧ 2 ≤ d ∧ d ≤ 16
 ·obtain ⟨n, rfl⟩ := natOf (a := a) (by omega)
  obtain ⟨b, rfl⟩ := natOf (a := d) (by omega)
  have hb : 2 ≤ b := by omega
  have hu := srt_up hb n
  have hp := crr_pos n hb
  exact ⟨⟨_, impl_Up_ev n hb (by omega) (by omega), spec_Up_ev n hb (by omega) (by omega), fun _ => by show ((val b 0 (srt b n) : Nat) : Int) ≤ (n : Int); omega⟩, ⟨_, impl_Down_ev n hb (by omega) (by omega), spec_Down_ev n hb (by omega) (by omega)⟩,
   ⟨_, impl_CountRearranged_ev n hb (by omega) (by omega), spec_CountRearranged_ev n hb (by omega) (by omega), fun _ => by show (1 : Int) ≤ ((crr b n : Nat) : Int); omega⟩⟩
 ·refine ⟨⟨(0, false), ?_, ?_, fun h => by simp at h⟩, ⟨(0, false), ?_, ?_⟩, ⟨(0, false), ?_, ?_, fun h => by simp at h⟩⟩
  ·simp only [impl_SortedUp.f, impl_isNumber_eq, Option.bind_some, decide_eq_true_eq]
   exact evn h (Ev.now _)
  ·simp only [spec_SortedUp.f, spec_dgAsked_eq, Option.bind_some, decide_eq_true_eq]
   exact evn h (Ev.now _)
  ·simp only [impl_SortedDown.f, impl_isNumber_eq, Option.bind_some, decide_eq_true_eq]
   exact evn h (Ev.now _)
  ·simp only [spec_SortedDown.f, spec_dgAsked_eq, Option.bind_some, decide_eq_true_eq]
   exact evn h (Ev.now _)
  ·simp only [impl_CountRearranged.f, impl_isNumber_eq, Option.bind_some, decide_eq_true_eq]
   exact evn h (Ev.now _)
  ·simp only [spec_CountRearranged.f, spec_dgAsked_eq, Option.bind_some, decide_eq_true_eq]
   exact evn h (Ev.now _)
theorem lsum_40 (l : List Nat) (h : ∀ c ∈ l, c ≤ 40) : lsum l ≤ 40 * l.length := by
 induction l with
 | nil => simp [lsum]
 | cons c l ih => have := h c (by simp); have := ih (fun x hx => h x (by simp [hx])); simp only [lsum, List.length_cons]; omega
theorem least_impl (b : Nat) (hb : 2 ≤ b) (hb2 : b ≤ 16) (l : List Nat) (hl : l.length = b) (h40 : ∀ c ∈ l, c ≤ 40) : Ev (fun k => impl_LeastWith.f k (ic l) (b : Int)) (lwr b l) := by
 have hs := lsum_40 l h40
 have h1 := least_loop b (lwr b l) l [] [] (by simp; omega) h40 (by simp; omega) (by simpa using least_end b hb hb2 l hl (by omega) (ic l) (l.length : Int))
 have e : impl_areIn.f (ic l) 0 40 (b : Int) (b : Int) = some true := by
  unfold impl_areIn.f
  rw [ic_length, decide_eq_true (show (b : Int) ≤ (l.length : Int) ∧ (l.length : Int) ≤ (b : Int) by omega), Bool.true_and]
  refine congrArg some (List.all_eq_true.2 (fun x hx => ?_))
  unfold ic at hx
  obtain ⟨y, hy, rfl⟩ := List.mem_map.1 hx
  have := h40 y hy
  rw [decide_eq_true_eq]
  omega
 simp only [impl_LeastWith.f, impl_isBase_eq, Option.bind_some, decide_eq_true_eq]
 refine evp (by omega) (evc e (evs (fun k => by rw [impl_LeastWith.j0]) (evn (by simp) ?_)))
 rw [ic_length]
 exact h1
theorem least_spec (b : Nat) (hb : 2 ≤ b) (hb2 : b ≤ 16) (l : List Nat) (hl : l.length = b) (h40 : ∀ c ∈ l, c ≤ 40) : Ev (fun k => spec_LeastWith.f k (ic l) (b : Int)) (lwr b l) := by
 have hs := lsum_40 l h40
 have e1 := l1All_ev (ic l) 0 40 (by rw [ic_length]; omega)
 have e2 : ((ic l).all fun x => decide (0 ≤ x ∧ x ≤ 40)) = true := by
  refine List.all_eq_true.2 (fun x hx => ?_)
  unfold ic at hx
  obtain ⟨y, hy, rfl⟩ := List.mem_map.1 hx
  have := h40 y hy
  rw [decide_eq_true_eq]
  omega
 rw [e2] at e1
 have e3 := spec_dgSum_all l (by omega) (by omega)
 have e4 : Ev (fun k => spec_dgSum.f k (ic l)) ((lsum l : Nat) : Int) := by unfold spec_dgSum.f; exact e3
 simp only [spec_LeastWith.f, spec_dgBase_eq, Option.bind_some, decide_eq_true_eq]
 refine evp (by omega) (evp (by rw [ic_length]; omega) (evb e1 (evp rfl (evb e4 (evs (fun k => by rw [spec_LeastWith.j0]) ?_)))))
 unfold lwr
 by_cases g1 : lsum l ≤ 40
 ·refine evn (by simp; omega) ?_
  have e5 : Ev (fun k => spec_dgLeast.f k (ic l)) (ic (lss l)) := by
   cases l with
   | nil => simp at hl; omega
   | cons z t => exact spec_dgLeast_ev z t (by omega) h40
  refine evb e5 ?_
  have hd : ∀ d ∈ lst l, d < b := fun d h => by have := lst_lt l d h; omega
  unfold lss
  by_cases g2 : lst l = [0] ∨ 1 ≤ (lst l).headD 0
  ·rw [if_pos g2, if_pos ⟨g1, g2⟩]
   have g3 := (lst_good l).1 ⟨g1, g2⟩
   exact evn (by rw [ic_length]; omega) (evb (spec_dgFrom_ev b hb hb2 _ hd (by omega)) (Ev.now _))
  ·rw [if_neg g2, if_neg (fun h => g2 h.2)]
   exact evp rfl (Ev.now _)
 ·rw [if_neg (fun h => g1 h.1)]
  exact evp (by simp; omega) (Ev.now _)
theorem least_both (R : List Int) (d : Int) (hR : R.length ≤ 1000) : ∃ r : Int × Bool, Ev (fun k => impl_LeastWith.f k R d) r ∧ Ev (fun k => spec_LeastWith.f k R d) r ∧ (r.2 = true → ∃ (b : Nat) (l : List Nat), 2 ≤ b ∧ b ≤ 16 ∧ l.length = b ∧ R = ic l ∧ d = (b : Int) ∧ r = lwr b l) := by
 by_cases h1 : 2 ≤ d ∧ d ≤ 16
 ·obtain ⟨b, rfl⟩ := natOf (a := d) (by omega)
  by_cases h2 : (R.length : Int) = (b : Int)
  ·by_cases h3 : (R.all fun x => decide (0 ≤ x ∧ x ≤ 40)) = true
   ·have h4 := List.all_eq_true.1 h3
    have e : R = ic (R.map Int.toNat) := by
     unfold ic
     rw [List.map_map]
     refine (List.map_id' R).symm.trans (List.map_congr_left (fun x hx => ?_))
     have := of_decide_eq_true (h4 x hx)
     simp only [Function.comp]
     omega
    have hl : (R.map Int.toNat).length = b := by rw [List.length_map]; omega
    have h40 : ∀ c ∈ R.map Int.toNat, c ≤ 40 := fun c hc => by
     obtain ⟨x, hx, rfl⟩ := List.mem_map.1 hc
     have := of_decide_eq_true (h4 x hx)
     omega
    generalize R.map Int.toNat = l at e hl h40
    subst e
    exact ⟨lwr b l, least_impl b (by omega) (by omega) l hl h40, least_spec b (by omega) (by omega) l hl h40, fun _ => ⟨b, l, by omega, by omega, hl, rfl, rfl, rfl⟩⟩
   ·refine ⟨(0, false), ?_, ?_, fun h => by simp at h⟩
    ·simp only [impl_LeastWith.f, impl_isBase_eq, Option.bind_some, decide_eq_true_eq, impl_areIn.f]
     refine evp h1 (evs (fun k => by rw [impl_LeastWith.j0]) (evp ?_ (Ev.now _)))
     rw [Bool.not_eq_true] at h3
     rw [h3, Bool.and_false]
     rfl
    ·simp only [spec_LeastWith.f, spec_dgBase_eq, Option.bind_some, decide_eq_true_eq]
     exact evp h1 (evp h2 (evb (l1All_ev R 0 40 (by omega)) (evn h3 (evs (fun k => by rw [spec_LeastWith.j0]) (evp rfl (Ev.now _))))))
  ·refine ⟨(0, false), ?_, ?_, fun h => by simp at h⟩
   ·simp only [impl_LeastWith.f, impl_isBase_eq, Option.bind_some, decide_eq_true_eq, impl_areIn.f]
    refine evp h1 (evs (fun k => by rw [impl_LeastWith.j0]) (evp ?_ (Ev.now _)))
    rw [decide_eq_false (by omega), Bool.false_and]
    rfl
   ·simp only [spec_LeastWith.f, spec_dgBase_eq, Option.bind_some, decide_eq_true_eq]
    exact evp h1 (evn h2 (evs (fun k => by rw [spec_LeastWith.j0]) (evp rfl (Ev.now _))))
 ·refine ⟨(0, false), ?_, ?_, fun h => by simp at h⟩
  ·simp only [impl_LeastWith.f, impl_isBase_eq, Option.bind_some, decide_eq_true_eq]
   exact evn h1 (evs (fun k => by rw [impl_LeastWith.j0]) (evp rfl (Ev.now _)))
  ·simp only [spec_LeastWith.f, spec_dgBase_eq, Option.bind_some, decide_eq_true_eq]
   exact evn h1 (evs (fun k => by rw [spec_LeastWith.j0]) (evp rfl (Ev.now _)))
theorem drawSame_j0 (a b c : Nat) (x : Int) (hb : 2 ≤ b) (hb2 : b ≤ 16) (hn : a ≤ 1000000000000) (t : Bool) : ∃ y : Int, Ev (fun k => spec_DrawSameDigits.j0 k (a : Int) (b : Int) x t) ((a : Int), y, (b : Int)) := by
 cases t with
 | false => exact ⟨x, evs (fun k => by rw [spec_DrawSameDigits.j0]) (evn (by simp) (Ev.now _))⟩
 | true =>
  have hl := srt_len40 a hb hn
  have h1 := dgBack_ev (ic (srt b a)) (by rw [ic_length]; omega)
  rw [← ic_reverse] at h1
  have h2 := spec_dgFrom_ev b hb hb2 _ (rev_lt a hb) (by rw [List.length_reverse]; omega)
  generalize told (val b 0 (srt b a).reverse) = u at h2
  by_cases hu : u.2 = true
  ·exact ⟨u.1, evs (fun k => by rw [spec_DrawSameDigits.j0]) (evp rfl (evb (spec_dgOf_ev b a hb hn) (evb (spec_dgSorted_ev b a hb hn) (evb h1 (evb h2 (evp hu (Ev.now _)))))))⟩
  ·exact ⟨x, evs (fun k => by rw [spec_DrawSameDigits.j0]) (evp rfl (evb (spec_dgOf_ev b a hb hn) (evb (spec_dgSorted_ev b a hb hn) (evb h1 (evb h2 (evn hu (Ev.now _)))))))⟩
theorem drawSame_ok (l : List Int) (hl : Bs l) : ∃ a c d : Int, Ev (fun k => spec_DrawSameDigits.f k l) (a, c, d) := by
 obtain ⟨a, p, s, e, _, _⟩ := number_ok l hl 0 0 (by omega) (by omega)
 obtain ⟨d, p2, s2, e2, _, _⟩ := base_ok l hl p s (by omega) (by omega)
 obtain ⟨c, p3, s3, e3, _, _⟩ := number_ok l hl p2 s2 (by omega) (by omega)
 obtain ⟨t, p4, s4, e4, _, _⟩ := one_ok l hl p3 s3 2 (by omega) (by omega) (by omega)
 by_cases h : (0 ≤ a ∧ a ≤ 1000000000000) ∧ 2 ≤ d ∧ d ≤ 16
 ·obtain ⟨n, rfl⟩ := natOf (a := a) (by omega)
  obtain ⟨b, rfl⟩ := natOf (a := d) (by omega)
  obtain ⟨y, hy⟩ := drawSame_j0 n b 0 c (by omega) (by omega) (by omega) t
  refine ⟨n, y, b, evb e ?_⟩
  simp only [e2, Option.bind_some]
  refine evb e3 ?_
  simp only [spec_dgAsked_eq, Option.bind_some, decide_eq_true_eq]
  refine evp h ?_
  simp only [e4, Option.bind_some]
  exact hy
 ·refine ⟨a, c, d, evb e ?_⟩
  simp only [e2, Option.bind_some]
  refine evb e3 ?_
  simp only [spec_dgAsked_eq, Option.bind_some, decide_eq_true_eq]
  exact evn h (evs (fun k => by rw [spec_DrawSameDigits.j0]) (evn (by simp) (Ev.now _)))
theorem drawUp_ok (l : List Int) (hl : Bs l) : ∃ n b : Int, Ev (fun k => spec_DrawSortedUp.f k l) (n, b) := by
 obtain ⟨v, p, s, e, _, _⟩ := number_ok l hl 0 0 (by omega) (by omega)
 obtain ⟨b, p2, s2, e2, _, _⟩ := base_ok l hl p s (by omega) (by omega)
 refine ⟨v, b, evb (a := (v, b)) (evb e ?_) (Ev.now _)⟩
 simp only [e2, Option.bind_some]
 exact Ev.now _
theorem drawLeast_ok (l : List Int) (hl : Bs l) : ∃ (R : List Int) (b : Int), R.length ≤ 1000 ∧ Ev (fun k => spec_DrawLeastWith.f k l) (R, b) := by
 obtain ⟨n, p, s, hn, e, _, _⟩ := sure_ok l hl 0 0 (by omega) (by omega)
 obtain ⟨d, p2, s2, e2, _, _⟩ := base_ok l hl p s (by omega) (by omega)
 by_cases h : 2 ≤ d ∧ d ≤ 16
 ·obtain ⟨b, rfl⟩ := natOf (a := d) (by omega)
  have hlen := dgl_len (show 2 ≤ b by omega) n hn
  have hc := spec_dgCounts_ev b (dgl b n) (by omega) (dgl_lt (by omega) n) (by omega)
  have hcl : (ic (cnts b (dgl b n))).length = b := by rw [ic_length, cnts_len]
  obtain ⟨v, p3, s3, e3, a3, _, c3, d3, f3⟩ := pick_ok l hl p2 s2 10 (by omega) (by omega) (by omega)
  have pre : ∀ {r : List Int × Int}, Ev (fun k => if v = 0 then ((spec_l1Cur_pick.f l p3 s3 (b : Int)).bind fun bt429 => ((spec_l1Cur_among.f l bt429.2.1 bt429.2.2 (([(-1), 0, 5, 40, 41] : List Int))).bind fun bt435 => (if 0 ≤ bt429.1 then (if bt429.1 < ((ic (cnts b (dgl b n))).length : Int) then (some (((ic (cnts b (dgl b n))).set (bt429.1 : Int).toNat bt435.1), (b : Int))) else (none)) else (none)))) else (if v = 1 then (if 0 ≤ (b : Int) then (if ((b : Int) : Int).toNat ≤ 35184372088832 then ((some (List.replicate ((b : Int) : Int).toNat 0 : List Int)).bind fun y439 => ((spec_l1Cur_pick.f l p3 s3 3).bind fun bt442 => (if 0 < (y439.length : Int) then (some ((y439.set (0 : Int).toNat bt442.1), (b : Int))) else (none)))) else (none)) else (none)) else (if v = 2 then (if (ic (cnts b (dgl b n))).length < 17592186044416 then (some (((ic (cnts b (dgl b n))) ++ [0]), (b : Int))) else (none)) else (some (ic (cnts b (dgl b n)), (b : Int)))))) r → Ev (fun k => spec_DrawLeastWith.f k l) r := by
   intro r hr
   refine evb e ?_
   simp only [e2, spec_dgBase_eq, Option.bind_some, decide_eq_true_eq]
   refine evp h (evb (spec_dgOf_ev b n (by omega) hn) (evb hc ?_))
   simp only [e3, Option.bind_some]
   exact hr
  by_cases g0 : v = 0
  ·obtain ⟨j, p4, s4, e4, a4, _, c4, d4, f4⟩ := pick_ok l hl p3 s3 (b : Int) (by omega) (by omega) (by omega)
   obtain ⟨x, p5, s5, e5, _, _, _⟩ := among_ok l hl p4 s4 [(-1), 0, 5, 40, 41] (by simp) (by simp) (by omega) (by omega)
   refine ⟨(ic (cnts b (dgl b n))).set j.toNat x, b, by rw [List.length_set, hcl]; omega, pre ?_⟩
   simp only [e4, e5, Option.bind_some]
   exact evp g0 (evp a4 (evp (by rw [hcl]; omega) (Ev.now _)))
  ·by_cases g1 : v = 1
   ·obtain ⟨j, p4, s4, e4, a4, _, c4, d4, f4⟩ := pick_ok l hl p3 s3 3 (by omega) (by omega) (by omega)
    refine ⟨(List.replicate b 0).set 0 j, b, by simp; omega, pre ?_⟩
    simp only [e4, Option.bind_some]
    exact evn g0 (evp g1 (evp (by omega) (evp (by omega) (evp (by simp; omega) (Ev.now _)))))
   ·by_cases g2 : v = 2
    ·exact ⟨ic (cnts b (dgl b n)) ++ [0], b, by rw [List.length_append, hcl]; simp; omega, pre (evn g0 (evn g1 (evp g2 (evp (by omega) (Ev.now _)))))⟩
    ·exact ⟨ic (cnts b (dgl b n)), b, by omega, pre (evn g0 (evn g1 (evn g2 (Ev.now _))))⟩
 ·refine ⟨[], d, by simp, evb e ?_⟩
  simp only [e2, spec_dgBase_eq, Option.bind_some, decide_eq_true_eq]
  exact evn h (Ev.now _)
theorem lw_of {b : Nat} (n : Nat) (hb : 2 ≤ b) (hn : n ≤ 1000000000000) : lwr b (cnts b (dgl b n)) = (((val b 0 (lst (cnts b (dgl b n))) : Nat) : Int), true) ∧ val b 0 (lst (cnts b (dgl b n))) ≤ n ∧ srt b (val b 0 (lst (cnts b (dgl b n)))) = srt b n := by
 obtain ⟨z, l, h1, h2, h3, h4, h5⟩ := cnts_cons n hb
 have hL := dgl_len hb n hn
 have hg : lst (cnts b (dgl b n)) = [0] ∨ ∃ x t, lst (cnts b (dgl b n)) = x :: t ∧ 1 ≤ x := by
  rw [h1]
  by_cases h0 : n = 0
  ·obtain ⟨e1, e2⟩ := h4 h0
   left
   have e3 : ex 1 l = [] := List.eq_nil_of_length_eq_zero (by rw [ex_len]; exact e2)
   simp only [lst]
   rw [e3, e1]
   rfl
  ·right
   have e3 := ex_len l 1
   have e4 := h5 (by omega)
   simp only [lst]
   cases he : ex 1 l with
   | nil => rw [he] at e3; simp at e3; omega
   | cons x t => exact ⟨x, _, rfl, (ex_mem l 1 x (by rw [he]; simp)).1⟩
 have hle : val b 0 (lst (cnts b (dgl b n))) ≤ n := by
  by_cases h0 : n = 0
  ·rcases hg with g | ⟨x, t, g, gx⟩
   ·rw [g]; simp [val]
   ·exfalso
    obtain ⟨e1, e2⟩ := h4 h0
    have e3 : ex 1 l = [] := List.eq_nil_of_length_eq_zero (by rw [ex_len]; exact e2)
    rw [h1] at g
    simp only [lst] at g
    rw [e3, e1] at g
    simp [lsm] at g
    omega
  ·exact lst_least hb n (by omega)
 refine ⟨?_, hle, ?_⟩
 ·unfold lwr
  rw [if_pos]
  ·unfold told
   rw [if_pos (by omega)]
  ·refine ⟨by rw [cnts_sum b _ (dgl_lt hb n)]; exact hL.2, ?_⟩
   rcases hg with g | ⟨x, t, g, gx⟩
   ·exact Or.inl g
   ·right; rw [g]; exact gx
 ·have e1 := lst_back hb (cnts b (dgl b n)) (cnts_len b _) hg
  unfold srt
  rw [e1]
  have e2 : cnts b (lst (cnts b (dgl b n))) = cnts b (dgl b n) := cnts_perm ((lst_perm _).trans (ex_perm _ (dgl_lt hb n))) (dgl_lt hb n)
  rw [e2]
theorem srt_zero {b : Nat} (hb : 2 ≤ b) (n m : Nat) (h : srt b n = srt b m) (hn : n = 0) : m = 0 := by
 subst hn
 have h1 : dgl b 0 = [0] := by unfold dgl; rw [if_pos rfl]
 have h2 := srt_perm hb 0
 rw [h1, h] at h2
 have h3 := List.perm_singleton.1 ((srt_perm hb m).symm.trans h2)
 have h4 := dgl_val hb m
 rw [h3] at h4
 simp [val] at h4
 omega
theorem crr_same {b : Nat} (hb : 2 ≤ b) (n m : Nat) (h : srt b n = srt b m) : crr b n = crr b m := by
 have h1 := (srt_cnts hb n m).1 h
 have h2 : (0 < n) = (0 < m) := by
  apply propext
  constructor
  ·intro g
   have := srt_zero hb m n h.symm
   omega
  ·intro g
   have := srt_zero hb n m h
   omega
 unfold crr
 rw [h1]
 simp only [h2]
theorem j6_ok (R : List Int) (d : Int) (hR : R.length ≤ 1000) (r : Int × Bool) (h : r.2 = true → ∃ (b : Nat) (l : List Nat), 2 ≤ b ∧ b ≤ 16 ∧ l.length = b ∧ R = ic l ∧ d = (b : Int) ∧ r = lwr b l) : Ev (fun k => laws_FnDigitsRearranged.j6 k R d r.1 r.2 false) true := by
 refine evs (fun k => by rw [laws_FnDigitsRearranged.j6]) ?_
 refine evn (by simp) ?_
 by_cases g : r.2 = true
 ·obtain ⟨b, l, hb, hb2, hl, rfl, rfl, hr⟩ := h g
  have h0 : lsum l ≤ 40 ∧ (lst l = [0] ∨ 1 ≤ (lst l).headD 0) ∧ val b 0 (lst l) ≤ 1000000000000 ∧ r.1 = ((val b 0 (lst l) : Nat) : Int) := by
   unfold lwr at hr
   by_cases g1 : lsum l ≤ 40 ∧ (lst l = [0] ∨ 1 ≤ (lst l).headD 0)
   ·rw [if_pos g1] at hr
    unfold told at hr
    by_cases g2 : val b 0 (lst l) ≤ 1000000000000
    ·rw [if_pos g2] at hr
     exact ⟨g1.1, g1.2, g2, by rw [hr]⟩
    ·rw [if_neg g2] at hr
     rw [hr] at g
     simp at g
   ·rw [if_neg g1] at hr
    rw [hr] at g
    simp at g
  obtain ⟨k1, k2, k3, k4⟩ := h0
  have k5 : lst l = [0] ∨ ∃ x t, lst l = x :: t ∧ 1 ≤ x := by
   rcases k2 with k2 | k2
   ·exact Or.inl k2
   ·right
    cases hl2 : lst l with
    | nil => rw [hl2] at k2; simp at k2
    | cons x t => rw [hl2] at k2; exact ⟨x, t, rfl, k2⟩
  have k6 := lst_back hb l hl k5
  have hlt : ∀ d ∈ lst l, d < b := fun d h => by have := lst_lt l d h; omega
  have hlt2 : ∀ d ∈ ex 0 l, d < b := fun d h => by have := ex_mem l 0 d h; omega
  have k7 : cnts b (dgl b (val b 0 (lst l))) = l := by
   rw [k6, cnts_perm (lst_perm l) hlt2, ← hl]
   exact ex_cnts l
  have hL := dgl_len hb _ k3
  have hc := impl_countsOf_ev b (dgl b (val b 0 (lst l))) (by omega) (dgl_lt hb _) (by omega)
  rw [k7] at hc
  have hd : Ev (fun k => impl_DigitCounts.f k ((val b 0 (lst l) : Nat) : Int) (b : Int)) (ic l, true) := by
   simp only [impl_DigitCounts.f, impl_isNumber_eq, Option.bind_some, decide_eq_true_eq]
   exact evp (by omega) (evb (impl_digitsOf_ev b _ hb k3) (evb hc (Ev.now _)))
  rw [k4]
  refine evp g (evb hd (evp rfl (evb (laws_rSame_self (ic l) (by omega)) (Ev.now _))))
 ·exact evn g (Ev.now _)
theorem j5_ok (l : List Int) (hl : Bs l) : Ev (fun k => laws_FnDigitsRearranged.j5 k l) true := by
 obtain ⟨a, d, e⟩ := drawUp_ok l hl
 obtain ⟨⟨u, u1, u2, u3⟩, ⟨v, v1, v2⟩, ⟨w, w1, w2, w3⟩⟩ := one_both a d
 obtain ⟨R, d2, hR, e2⟩ := drawLeast_ok l hl
 obtain ⟨r, r1, r2, r3⟩ := least_both R d2 hR
 have hj := j6_ok R d2 hR r r3
 refine evs (fun k => by rw [laws_FnDigitsRearranged.j5]) ?_
 refine evb e (evb u1 (evb u2 (evb v1 (evb v2 (evb w1 (evb w2 (evb e2 (evb r1 (evb r2 ?_)))))))))
 refine evn (by simp) (evp rfl (evn (by simp) (evp rfl (evn (by simp) (evp rfl (evn (by simp) (evp rfl ?_)))))))
 have hw : w.2 = true → decide (w.1 < 1) = false := fun h => decide_eq_false (by have := w3 h; omega)
 by_cases g1 : u.2 = true
 ·refine evp g1 (evn (by have := u3 g1; show ¬ (u.1 > a); omega) ?_)
  by_cases g2 : w.2 = true
  ·refine evp g2 ?_
   rw [hw g2]
   exact hj
  ·exact evn g2 hj
 ·refine evn g1 ?_
  by_cases g2 : w.2 = true
  ·refine evp g2 ?_
   rw [hw g2]
   exact hj
  ·exact evn g2 hj
theorem loop_ok (l : List Int) (hl : Bs l) (n : Nat) (hn : n < 1000) (d : Nat) : ∀ m : Nat, m + d = 1000 → Ev (fun k => laws_FnDigitsRearranged.l0 k l (n : Int) 10 ((crr 10 n : Nat) : Int) true ((fnd n m : Nat) : Int) (m : Int)) true := by
 induction d with
 | zero =>
  intro m h
  obtain rfl : m = 1000 := h
  refine evs (fun k => by rw [laws_FnDigitsRearranged.l0]) ?_
  exact evn (by omega) (evp rfl (evp (by rw [fnd_all n hn]) (j5_ok l hl)))
 | succ d ih =>
  intro m h
  have hs := impl_Same_ev (b := 10) n m (by omega) (by omega) (by omega) (by omega)
  have hf := fnd_le n m
  have h2 := ih (m + 1) (by omega)
  have e : fnd n (m + 1) = fnd n m + (if srt 10 n = srt 10 m then 1 else 0) := rfl
  rw [e] at h2
  refine evs (fun k => by rw [laws_FnDigitsRearranged.l0]) ?_
  rw [w64o (x := (m : Int) + 1), w64o (x := ((fnd n m : Nat) : Int) + 1)]
  refine evp (by omega) (evb hs (evp rfl ?_))
  by_cases g : srt 10 n = srt 10 m
  ·rw [if_pos g] at h2
   exact evp (decide_eq_true g) h2
  ·rw [if_neg g] at h2
   exact evn (by rw [decide_eq_false g]; simp) h2
theorem j2_ok (l : List Int) (hl : Bs l) (b n : Nat) (hb : 2 ≤ b) (hb2 : b ≤ 16) (hn : n ≤ 1000000000000) : Ev (fun k => laws_FnDigitsRearranged.j2 k l (n : Int) (b : Int)) true := by
 have no : ∀ x : Int, Ev (fun k => laws_FnDigitsRearranged.j3 k l (n : Int) x false) true := fun x => evs (fun k => by rw [laws_FnDigitsRearranged.j3]) (evn (by simp) (j5_ok l hl))
 refine evs (fun k => by rw [laws_FnDigitsRearranged.j2]) ?_
 by_cases g : (n : Int) < 1000
 ·refine evp g ?_
  by_cases g2 : b = 10
  ·subst g2
   refine evs (fun k => by rw [laws_FnDigitsRearranged.j3]) ?_
   exact evp rfl (evb (impl_CountRearranged_ev (b := 10) n (by omega) (by omega) hn) (loop_ok l hl n (by omega) 1000 0 rfl))
  ·have e : ((b : Int) == 10) = false := beq_eq_false_iff_ne.2 (by omega)
   rw [e]
   exact no _
 ·exact evn g (no _)
theorem j1_ok (l : List Int) (hl : Bs l) (b n m : Nat) (hb : 2 ≤ b) (hb2 : b ≤ 16) (hn : n ≤ 1000000000000) (hm : m ≤ 1000000000000) (x : Nat) (hx : srt b n = srt b m → x ≤ m) :
  Ev (fun k => laws_FnDigitsRearranged.j1 k l (n : Int) (m : Int) (b : Int) (decide (srt b n = srt b m)) (x : Int) false) true := by
 refine evs (fun k => by rw [laws_FnDigitsRearranged.j1]) ?_
 refine evn (by simp) ?_
 by_cases g : srt b n = srt b m
 ·have e := crr_same hb n m g
  have := hx g
  exact evp (decide_eq_true g) (evb (impl_CountRearranged_ev n hb hb2 hn) (evb (impl_CountRearranged_ev m hb hb2 hm) (evp rfl (evp rfl (evp (by rw [e]) (evn (by omega) (j2_ok l hl b n hb hb2 hn)))))))
 ·exact evn (by rw [decide_eq_false g]; simp) (j2_ok l hl b n hb hb2 hn)
theorem j0_ok (l : List Int) (hl : Bs l) (b n m : Nat) (hb : 2 ≤ b) (hb2 : b ≤ 16) (hn : n ≤ 1000000000000) (hm : m ≤ 1000000000000) :
  Ev (fun k => laws_FnDigitsRearranged.j0 k l (n : Int) (m : Int) (b : Int) (decide (srt b n = srt b m)) true false) true := by
 obtain ⟨g1, g2, g3⟩ := lw_of n hb hn
 have hc : Ev (fun k => impl_DigitCounts.f k (n : Int) (b : Int)) (ic (cnts b (dgl b n)), true) := by
  have hL := dgl_len hb n hn
  simp only [impl_DigitCounts.f, impl_isNumber_eq, Option.bind_some, decide_eq_true_eq]
  exact evp (by omega) (evb (impl_digitsOf_ev b n hb hn) (evb (impl_countsOf_ev b (dgl b n) (by omega) (dgl_lt hb n) (by omega)) (Ev.now _)))
 have h40 : ∀ c ∈ cnts b (dgl b n), c ≤ 40 := fun c hc => by
  have h1 := lsum_mem _ _ hc
  rw [cnts_sum b _ (dgl_lt hb n)] at h1
  have := dgl_len hb n hn
  omega
 have hlw := least_impl b hb hb2 (cnts b (dgl b n)) (cnts_len b _) h40
 rw [g1] at hlw
 have hx : srt b n = srt b m → val b 0 (lst (cnts b (dgl b n))) ≤ m := fun h => by
  have := (lw_of m hb hm).2.1
  rwa [← (srt_cnts hb n m).1 h] at this
 generalize val b 0 (lst (cnts b (dgl b n))) = x at g2 g3 hlw hx
 have hs := impl_Same_ev n x hb hb2 hn (by omega)
 rw [decide_eq_true g3.symm] at hs
 have hj := j1_ok l hl b n m hb hb2 hn hm x hx
 have hdn := srt_down hb n
 have hin := srt_inj hb n m
 have d1 := impl_Down_ev n hb hb2 hn
 have d2 := impl_Down_ev m hb hb2 hm
 generalize val b 0 (srt b n).reverse = p at hdn hin d1
 generalize val b 0 (srt b m).reverse = q at hin d2
 refine evs (fun k => by rw [laws_FnDigitsRearranged.j0]) ?_
 refine evn (by simp) (evp rfl (evb d1 (evb d2 (evb hc (evb hlw (evb hs ?_))))))
 unfold told
 by_cases hp : p ≤ 1000000000000
 ·rw [if_pos hp]
  have hlt : decide ((p : Int) < (n : Int)) = false := decide_eq_false (by omega)
  by_cases hq : q ≤ 1000000000000
  ·rw [if_pos hq]
   have e : (decide (srt b n = srt b m) != ((p : Int) == (q : Int))) = false := by
    by_cases g : srt b n = srt b m
    ·rw [decide_eq_true g, hin.2 g]
     simp
    ·rw [decide_eq_false g, beq_eq_false_iff_ne.2 (fun h => g (hin.1 (by omega)))]
     rfl
   refine evp rfl (evp rfl (evn (by simp only; rw [e]; simp) (evp rfl (evp rfl (evn (by show ¬ ((x : Int) > (n : Int)); omega) (evp rfl (evp rfl ?_)))))))
   simp only
   rw [hlt]
   exact hj
  ·rw [if_neg hq]
   refine evp rfl (evn (by simp) (evp rfl (evp rfl (evn (by show ¬ ((x : Int) > (n : Int)); omega) (evp rfl (evp rfl ?_))))))
   simp only
   rw [hlt]
   exact hj
 ·rw [if_neg hp]
  exact evn (by simp) (evp rfl (evp rfl (evn (by show ¬ ((x : Int) > (n : Int)); omega) (evp rfl (evp rfl hj)))))
theorem FnDigitsRearranged : laws_FnDigitsRearranged.Pure := by
 intro l0 l1 _ _ w0 _ _ w1
 have hb : ∀ l : List Int, (∀ x ∈ l, (Lit.int .u8 x).wf = true) → ∀ x ∈ l, 0 ≤ x ∧ x ≤ 255 := by
  intro l h x hx
  have := h x hx
  simpa [Lit.wf, IntKind.min, IntKind.max, IntKind.signed, IntKind.bits] using this
 have hl0 := hb l0 w0
 have hl1 := hb l1 w1
 refine Ev.rounds (g := fun k => laws_FnDigitsRearranged.f k l0 l1) ?_
 unfold laws_FnDigitsRearranged.f
 obtain ⟨t, ht⟩ : ∃ t, laws_big.f l0 l1 = some t := by
  unfold laws_big.f
  split <;> exact ⟨_, rfl⟩
 rw [ht]
 simp only [Option.bind_some]
 cases t with
 | true => exact evp rfl (Ev.now _)
 | false =>
  refine evn (by simp) ?_
  obtain ⟨a, c, d, e⟩ := drawSame_ok l0 hl0
  refine evb e ?_
  by_cases h : ((0 ≤ a ∧ a ≤ 1000000000000) ∧ 2 ≤ d ∧ d ≤ 16) ∧ 0 ≤ c ∧ c ≤ 1000000000000
  ·obtain ⟨n, rfl⟩ := natOf (a := a) (by omega)
   obtain ⟨b, rfl⟩ := natOf (a := d) (by omega)
   obtain ⟨m, rfl⟩ := natOf (a := c) (by omega)
   refine evb (impl_Same_ev n m (by omega) (by omega) (by omega) (by omega)) (evb (spec_Same_ev n m (by omega) (by omega) (by omega) (by omega)) (evn (by simp) ?_))
   have e3 : (decide (srt b n = srt b m) != decide (srt b n = srt b m)) = false := by simp
   simp only
   rw [e3]
   exact j0_ok l1 hl1 b n m (by omega) (by omega) (by omega) (by omega)
  ·refine evb (impl_Same_no a c d h) (evb (spec_Same_no a c d h) (evn (by simp) ?_))
   refine evs (fun k => by rw [laws_FnDigitsRearranged.j0]) ?_
   exact evn (by simp) (evn (by simp) (j5_ok l1 hl1))

end Go.Proofs.Ytpgplcckgabdjaa.Pure
