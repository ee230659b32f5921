/- For all codes: runs end with the first symmetric digits, numbers of a width are spread by how long they take, and words of the base two never get there. -/
import Derived.Test.YtiheocddlopfcaaPFnRunsToSymmetricx10
import Derived.Test.YtiheocddlopfcaaWMore
set_option linter.unusedVariables false
set_option linter.unusedSimpArgs false
namespace Go.Proofs.Ytiheocddlopfcaa.Pure
open Go.RowKit Go.Proofs.Ytiheocddlopfcaa.PFnRunsToSymmetric Go.Proofs.YtiheocddlopfcaaW.PrintWords Go.Proofs.YtiheocddlopfcaaW.PrintLast

theorem w64 {x : Int} (h1 : -9223372036854775808 ≤ x) (h2 : x ≤ 9223372036854775807) : wrap64 x = x := by unfold wrap64; omega
theorem w64o {x : Int} (h1 : -9223372036854775808 ≤ x := by omega) (h2 : x ≤ 9223372036854775807 := by omega) : wrap64 x = x := w64 h1 h2
abbrev Bs (l : List Int) : Prop := ∀ x ∈ l, 0 ≤ x ∧ x ≤ 255

theorem w64n (n : Nat) (h : n ≤ 9223372036854775807) : wrap64 (n : Int) = (n : Int) := w64 (by omega) (by omega)

theorem evp {α : Type} {c : Prop} [Decidable c] {a b : Nat → Option α} {r : α} (h : c) (k : Ev a r) : Ev (fun n => if c then a n else b n) r := Ev.congr (fun _ => if_pos h) k
theorem evn {α : Type} {c : Prop} [Decidable c] {a b : Nat → Option α} {r : α} (h : ¬ c) (k : Ev b r) : Ev (fun n => if c then a n else b n) r := Ev.congr (fun _ => if_neg h) k
theorem evr {α : Type} {x r : α} (h : x = r) : Ev (fun _ => some x) r := h ▸ Ev.now x
theorem evb {α β : Type} {g : Nat → Option α} {f : Nat → α → Option β} {a : α} {r : β} (h : Ev g a) (k : Ev (fun n => f n a) r) : Ev (fun n => (g n).bind fun x => f n x) r := Ev.bind h k
theorem evc {α β : Type} {x : Option α} {a : α} {f : Nat → α → Option β} {r : β} (h : x = some a) (k : Ev (fun n => f n a) r) : Ev (fun n => x.bind fun y => f n y) r := by subst h; exact k
theorem evs {α : Type} {g f : Nat → Option α} {r : α} (h : ∀ k, g (k + 1) = f k) (k : Ev f r) : Ev g r := Ev.step h k
theorem rd_mid (pre post : List Int) (x : Int) : rd (pre ++ x :: post) (pre.length : Int) = x := by simp [rd]
theorem set_mid {α : Type} (pre post : List α) (x y : α) : (pre ++ x :: post).set pre.length y = pre ++ y :: post := by simp
theorem rd_get (xs : List Int) (i : Nat) (h : i < xs.length) : rd xs (i : Int) = xs[i] := by simp [rd, h]
theorem rd_mem (xs : List Int) (i : Int) (h0 : 0 ≤ i) (h : i < xs.length) : rd xs i ∈ xs := by
 have hi : i.toNat < xs.length := by omega
 simp only [rd, List.getD_eq_getElem?_getD, List.getElem?_eq_getElem hi, Option.getD_some]
 exact List.getElem_mem hi
def ic (l : List Nat) : List Int := l.map (fun x : Nat => (x : Int))
theorem ic_nil : ic [] = [] := rfl
theorem ic_cons (x : Nat) (l : List Nat) : ic (x :: l) = (x : Int) :: ic l := rfl
theorem ic_append (l m : List Nat) : ic (l ++ m) = ic l ++ ic m := by simp [ic]
theorem ic_length (l : List Nat) : (ic l).length = l.length := by simp [ic]
def lsd (b : Nat) : Nat → Nat → List Nat
 | 0, _ => []
 | f + 1, n => if n = 0 then [] else n % b :: lsd b f (n / b)
theorem lsd_zero (b f : Nat) : lsd b f 0 = [] := by cases f <;> simp [lsd]
theorem lsd_fuel {b : Nat} (hb : 2 ≤ b) (n : Nat) : ∀ f g : Nat, n ≤ f → n ≤ g → lsd b f n = lsd b g n := by
 induction n using Nat.strongRecOn with
 | _ n ih =>
  intro f g hf hg
  by_cases h : n = 0
  ·subst h
   rw [lsd_zero, lsd_zero]
  ·obtain ⟨f, rfl⟩ : ∃ x, f = x + 1 := ⟨f - 1, by omega⟩
   obtain ⟨g, rfl⟩ : ∃ x, g = x + 1 := ⟨g - 1, by omega⟩
   have hlt : n / b < n := Nat.div_lt_self (by omega) (by omega)
   simp only [lsd, if_neg h]
   rw [ih (n / b) hlt f g (by omega) (by omega)]
def low (b n : Nat) : List Nat := lsd b n n
theorem low_zero (b : Nat) : low b 0 = [] := rfl
theorem low_succ {b n : Nat} (hb : 2 ≤ b) (hn : 1 ≤ n) : low b n = n % b :: low b (n / b) := by
 obtain ⟨m, rfl⟩ : ∃ x, n = x + 1 := ⟨n - 1, by omega⟩
 have hlt : (m + 1) / b < m + 1 := Nat.div_lt_self (by omega) (by omega)
 show lsd b (m + 1) (m + 1) = _
 simp only [lsd]
 rw [if_neg (by omega)]
 show _ = _ :: lsd b _ _
 rw [lsd_fuel hb ((m + 1) / b) m ((m + 1) / b) (by omega) (Nat.le_refl _)]
def dgl (b n : Nat) : List Nat := if n = 0 then [0] else (low b n).reverse
theorem low_lt {b : Nat} (hb : 2 ≤ b) (n : Nat) : ∀ d ∈ low b n, d < b := by
 induction n using Nat.strongRecOn with
 | _ n ih =>
  by_cases h : n = 0
  ·subst h
   simp [low_zero]
  ·have hlt : n / b < n := Nat.div_lt_self (by omega) (by omega)
   rw [low_succ hb (by omega)]
   intro d hd
   rcases List.mem_cons.1 hd with rfl | hd
   ·exact Nat.mod_lt _ (by omega)
   ·exact ih _ hlt d hd
theorem dgl_lt {b : Nat} (hb : 2 ≤ b) (n : Nat) : ∀ d ∈ dgl b n, d < b := by
 unfold dgl
 by_cases h : n = 0
 ·subst h
  rw [if_pos rfl]
  intro d hd
  rw [List.mem_singleton.1 hd]
  omega
 ·rw [if_neg h]
  intro d hd
  exact low_lt hb n d (List.mem_reverse.1 hd)
theorem low_len {b : Nat} (hb : 2 ≤ b) (k : Nat) : ∀ n : Nat, n < 2 ^ k → (low b n).length ≤ k := by
 induction k with
 | zero =>
  intro n hn
  have : n = 0 := by rw [Nat.pow_zero] at hn; omega
  subst this
  simp [low_zero]
 | succ k ih =>
  intro n hn
  by_cases h : n = 0
  ·subst h
   simp [low_zero]
  ·rw [low_succ hb (by omega), List.length_cons]
   have h2 : n / b < 2 ^ k := by
    refine Nat.div_lt_of_lt_mul ?_
    rw [Nat.pow_succ] at hn
    have : 2 * 2 ^ k ≤ b * 2 ^ k := Nat.mul_le_mul_right _ hb
    omega
   have := ih _ h2
   omega
theorem dgl_len1 {b : Nat} (hb : 2 ≤ b) (n : Nat) (hn : n ≤ 1000000000001) : 1 ≤ (dgl b n).length ∧ (dgl b n).length ≤ 40 := by
 unfold dgl
 by_cases h : n = 0
 ·subst h
  rw [if_pos rfl]
  simp
 ·rw [if_neg h, List.length_reverse]
  refine ⟨?_, low_len hb 40 n (by omega)⟩
  rw [low_succ hb (by omega), List.length_cons]
  omega
theorem dgl_len {b : Nat} (hb : 2 ≤ b) (n : Nat) (hn : n ≤ 1000000000000) : 1 ≤ (dgl b n).length ∧ (dgl b n).length ≤ 40 := dgl_len1 hb n (by omega)
def lsum : List Nat → Nat
 | [] => 0
 | d :: l => d + lsum l
theorem ic_reverse (l : List Nat) : ic l.reverse = (ic l).reverse := by simp [ic]
theorem ic_rd (pre post : List Nat) (x : Nat) : rd (ic (pre ++ x :: post)) (pre.length : Int) = (x : Int) := by
 rw [ic_append, ic_cons, show ((pre.length : Nat) : Int) = (((ic pre).length : Nat) : Int) by simp [ic], rd_mid]

def addO (b : Nat) : Nat → List Nat → List Nat
 | c, [] => if 0 < c then [c] else []
 | c, s :: S => (s + c) % b :: addO b ((s + c) / b) S
def addK (b : Nat) : Nat → List Nat → List Nat
 | _, [] => []
 | c, s :: S => (s + c) / b :: addK b ((s + c) / b) S
def addC (b : Nat) : Nat → List Nat → Nat
 | c, [] => c
 | c, s :: S => addC b ((s + c) / b) S
def addP (b : Nat) : Nat → List Nat → List Nat
 | _, [] => []
 | c, s :: S => (s + c) % b :: addP b ((s + c) / b) S
theorem addO_eq (b : Nat) (S : List Nat) : ∀ c, addO b c S = addP b c S ++ (if 0 < addC b c S then [addC b c S] else []) := by
 induction S with
 | nil => intro c; rfl
 | cons s S ih => intro c; exact congrArg (List.cons ((s + c) % b)) (ih ((s + c) / b))
theorem addK_length (b : Nat) (S : List Nat) : ∀ c, (addK b c S).length = S.length := by
 induction S with
 | nil => intro c; rfl
 | cons s S ih => intro c; simp [addK, ih]
theorem addP_length (b : Nat) (S : List Nat) : ∀ c, (addP b c S).length = S.length := by
 induction S with
 | nil => intro c; rfl
 | cons s S ih => intro c; simp [addP, ih]
theorem carry_le {b s c : Nat} (hb : 2 ≤ b) (hs : s ≤ 2 * (b - 1)) (hc : c ≤ 1) : (s + c) / b ≤ 1 := by
 have : (s + c) / b < 2 := Nat.div_lt_of_lt_mul (by omega)
 omega
theorem addK_le {b : Nat} (hb : 2 ≤ b) (S : List Nat) (hS : ∀ s ∈ S, s ≤ 2 * (b - 1)) : ∀ c, c ≤ 1 → ∀ x ∈ addK b c S, x ≤ 1 := by
 induction S with
 | nil => intro c _ x h; simp [addK] at h
 | cons s S ih =>
  intro c hc x h
  have h1 := carry_le hb (hS s (by simp)) hc
  rcases List.mem_cons.1 h with rfl | h
  ·exact h1
  ·exact ih (fun y hy => hS y (by simp [hy])) _ h1 x h
theorem addC_le {b : Nat} (hb : 2 ≤ b) (S : List Nat) (hS : ∀ s ∈ S, s ≤ 2 * (b - 1)) : ∀ c, c ≤ 1 → addC b c S ≤ 1 := by
 induction S with
 | nil => intro c h; exact h
 | cons s S ih => intro c hc; exact ih (fun y hy => hS y (by simp [hy])) _ (carry_le hb (hS s (by simp)) hc)
theorem addP_lt {b : Nat} (hb : 2 ≤ b) (S : List Nat) : ∀ c, ∀ x ∈ addP b c S, x < b := by
 induction S with
 | nil => intro c x h; simp [addP] at h
 | cons s S ih =>
  intro c x h
  rcases List.mem_cons.1 h with rfl | h
  ·exact Nat.mod_lt _ (by omega)
  ·exact ih _ x h
theorem addK_last (b : Nat) (S : List Nat) : ∀ c, S ≠ [] → (addK b c S).getD (S.length - 1) 0 = addC b c S := by
 induction S with
 | nil => intro c h; exact absurd rfl h
 | cons s S ih =>
  intro c _
  cases S with
  | nil => simp [addK, addC]
  | cons t S =>
   have h := ih ((s + c) / b) (by simp)
   simp only [List.length_cons, Nat.add_sub_cancel] at h ⊢
   simp only [addK, addC, List.getD_cons_succ] at h ⊢
   exact h
theorem add_at (b : Nat) (S : List Nat) : ∀ c i, i < S.length → S.getD i 0 + (if i = 0 then c else (addK b c S).getD (i - 1) 0) = (addP b c S).getD i 0 + b * (addK b c S).getD i 0 := by
 induction S with
 | nil => intro c i h; simp at h
 | cons s S ih =>
  intro c i h
  cases i with
  | zero =>
   simp only [addK, addP, List.getD_cons_zero, if_true]
   have := Nat.div_add_mod (s + c) b
   omega
  | succ i =>
   have h2 := ih ((s + c) / b) i (by simpa using h)
   simp only [addK, addP, List.getD_cons_succ, Nat.add_sub_cancel]
   rw [if_neg (by omega)]
   rw [← h2]
   by_cases h0 : i = 0
   ·subst h0
    simp
   ·rw [if_neg h0]
    obtain ⟨j, rfl⟩ : ∃ j, i = j + 1 := ⟨i - 1, by omega⟩
    simp
def sumsL (ds : List Nat) : List Nat := List.zipWith (· + ·) ds.reverse ds
theorem sumsL_length (ds : List Nat) : (sumsL ds).length = ds.length := by simp [sumsL]
theorem sumsL_at (ds : List Nat) (i : Nat) (h : i < ds.length) : (sumsL ds).getD i 0 = ds.getD (ds.length - 1 - i) 0 + ds.getD i 0 := by
 unfold sumsL
 have h1 : i < ds.reverse.length := by simpa using h
 simp only [List.getD_eq_getElem?_getD, List.getElem?_zipWith, List.getElem?_eq_getElem h1, List.getElem?_eq_getElem h, List.getElem_reverse]
 rw [List.getElem?_eq_getElem (by omega)]
 rfl
theorem sumsL_le {b : Nat} (hb : 2 ≤ b) (ds : List Nat) (hd : ∀ d ∈ ds, d < b) : ∀ s ∈ sumsL ds, s ≤ 2 * (b - 1) := by
 intro s hs
 obtain ⟨i, hi, rfl⟩ := List.getElem_of_mem hs
 rw [sumsL_length] at hi
 have h1 := sumsL_at ds i hi
 have h2 : (sumsL ds)[i]'(by rw [sumsL_length]; exact hi) = (sumsL ds).getD i 0 := by rw [List.getD_eq_getElem?_getD, List.getElem?_eq_getElem (by rw [sumsL_length]; exact hi)]; rfl
 rw [h2, h1]
 have h3 : ∀ j, j < ds.length → ds.getD j 0 < b := fun j hj => by
  rw [List.getD_eq_getElem?_getD, List.getElem?_eq_getElem hj]
  exact hd _ (List.getElem_mem hj)
 have := h3 (ds.length - 1 - i) (by omega)
 have := h3 i hi
 omega

def gd (l : List Int) (b : Int) : Bool := decide (2 ≤ b ∧ b ≤ 16) && (decide (1 ≤ l.length ∧ l.length ≤ 40) && ((l.all fun x => decide (0 ≤ x ∧ x ≤ b - 1)) && (decide (rd l 0 > 0) || decide (l.length = 1))))
theorem gd_nat {l : List Int} {b : Int} (h : gd l b = true) : ∃ (ds : List Nat) (B : Nat), l = ic ds ∧ b = (B : Int) ∧ 2 ≤ B ∧ B ≤ 16 ∧ 1 ≤ ds.length ∧ ds.length ≤ 40 ∧ (∀ d ∈ ds, d < B) ∧ (0 < ds.getD 0 0 ∨ ds.length = 1) := by
 unfold gd at h
 simp only [Bool.and_eq_true, Bool.or_eq_true, decide_eq_true_eq, List.all_eq_true] at h
 obtain ⟨h1, h2, h3, h4⟩ := h
 have e : l = ic (l.map Int.toNat) := by
  unfold ic
  rw [List.map_map]
  refine (List.map_id l).symm.trans (List.map_congr_left fun x hx => ?_)
  have := h3 x hx
  simp only [id, Function.comp]
  omega
 refine ⟨l.map Int.toNat, b.toNat, e, by omega, by omega, by omega, by simpa using h2.1, by simpa using h2.2, fun d hd => ?_, ?_⟩
 ·obtain ⟨x, hx, rfl⟩ := List.mem_map.1 hd
  have := h3 x hx
  omega
 ·rcases h4 with h4 | h4
  ·left
   cases l with
   | nil => simp at h2
   | cons x l =>
    simp [rd] at h4
    simp
    omega
  ·right
   simpa using h4
theorem gd_of (ds : List Nat) (B : Nat) (h1 : 2 ≤ B) (h2 : B ≤ 16) (h3 : 1 ≤ ds.length) (h4 : ds.length ≤ 40) (h5 : ∀ d ∈ ds, d < B) (h6 : 0 < ds.getD 0 0 ∨ ds.length = 1) : gd (ic ds) (B : Int) = true := by
 unfold gd
 simp only [Bool.and_eq_true, Bool.or_eq_true, decide_eq_true_eq, List.all_eq_true, ic_length]
 refine ⟨by omega, ⟨h3, h4⟩, fun x hx => ?_, ?_⟩
 ·obtain ⟨d, hd, rfl⟩ := List.mem_map.1 hx
  have := h5 d hd
  omega
 ·rcases h6 with h6 | h6
  ·left
   cases ds with
   | nil => simp at h3
   | cons d ds =>
    simp at h6
    simp [rd, ic]
    omega
  ·exact Or.inr h6

def pal (b n : Nat) : Prop := (dgl b n).reverse = dgl b n
instance (b n : Nat) : Decidable (pal b n) := by unfold pal; infer_instance
theorem ic_inj : ∀ x y : List Nat, ic x = ic y → x = y := by
 intro x
 induction x with
 | nil => intro y h; cases y with
  | nil => rfl
  | cons e y => simp [ic] at h
 | cons d x ih =>
  intro y h
  cases y with
  | nil => simp [ic] at h
  | cons e y =>
   simp only [ic_cons, List.cons.injEq] at h
   rw [ih y h.2]
   congr 1
   omega
theorem symL_eq (l : List Nat) : decide (ic l = ic l.reverse) = decide (l.reverse = l) := by
 by_cases h : l.reverse = l
 ·rw [decide_eq_true h, h]
  simp
 ·rw [decide_eq_false h]
  exact decide_eq_false (fun h2 => h (ic_inj _ _ h2).symm)
def cntl : List Nat → List Nat → List Nat
 | acc, [] => acc
 | acc, d :: l => cntl (acc.set d (acc.getD d 0 + 1)) l
theorem cntl_len (l : List Nat) : ∀ acc, (cntl acc l).length = acc.length := by
 induction l with
 | nil => intro acc; rfl
 | cons d l ih => intro acc; simp only [cntl]; rw [ih]; simp
theorem lsum_set (l : List Nat) : ∀ (i x : Nat), i < l.length → lsum (l.set i x) + l.getD i 0 = lsum l + x := by
 induction l with
 | nil => intro i x h; simp at h
 | cons y l ih =>
  intro i x h
  cases i with
  | zero => simp only [List.set_cons_zero, lsum, List.getD_cons_zero]; omega
  | succ i =>
   have := ih i x (by simpa using h)
   simp only [List.set_cons_succ, lsum, List.getD_cons_succ]
   omega
theorem lsum_ge (l : List Nat) : ∀ i : Nat, l.getD i 0 ≤ lsum l := by
 induction l with
 | nil => intro i; simp
 | cons y l ih =>
  intro i
  cases i with
  | zero => simp only [lsum, List.getD_cons_zero]; omega
  | succ i => have := ih i; simp only [lsum, List.getD_cons_succ]; omega
theorem cntl_sum (l : List Nat) : ∀ acc, (∀ d ∈ l, d < acc.length) → lsum (cntl acc l) = lsum acc + l.length := by
 induction l with
 | nil => intro acc _; rfl
 | cons d l ih =>
  intro acc h
  simp only [cntl]
  rw [ih _ (fun x hx => by rw [List.length_set]; exact h x (by simp [hx]))]
  have := lsum_set acc d (acc.getD d 0 + 1) (h d (by simp))
  simp only [List.length_cons]
  omega
theorem lsum_zeros (n : Nat) : lsum (List.replicate n 0) = 0 := by
 induction n with
 | zero => rfl
 | succ n ih => rw [List.replicate_succ]; simp only [lsum]; omega
theorem cntl_get (l : List Nat) : ∀ (acc : List Nat) (i : Nat), (∀ d ∈ l, d < acc.length) → (cntl acc l).getD i 0 = acc.getD i 0 + l.count i := by
 induction l with
 | nil => intro acc i _; simp [cntl]
 | cons d l ih =>
  intro acc i h
  simp only [cntl]
  rw [ih _ i (fun x hx => by rw [List.length_set]; exact h x (by simp [hx]))]
  have hd := h d (by simp)
  by_cases e : d = i
  ·subst e
   simp [hd]
   omega
  ·simp [List.getD_eq_getElem?_getD, List.getElem?_set_ne e, List.count_cons, e]
theorem ic_set (l : List Nat) (i x : Nat) : (ic l).set i (x : Int) = ic (l.set i x) := by simp [ic, List.map_set]
theorem ic_replicate (n : Nat) : List.replicate n (0 : Int) = ic (List.replicate n 0) := by simp [ic]
theorem ic_rdD (l : List Nat) (i : Nat) : rd (ic l) (i : Int) = ((l.getD i 0 : Nat) : Int) := by
 simp only [rd, Int.toNat_natCast, ic, List.getD_eq_getElem?_getD, List.getElem?_map]
 cases l[i]? <;> simp

theorem impl_in_eq (a b c : Int) : impl_in.f a b c = some (decide (b ≤ a ∧ a ≤ c)) := by
 unfold impl_in.f
 by_cases h : b ≤ a <;> simp [h]
theorem spec_l1In_eq (a b c : Int) : spec_l1In.f a b c = some (decide (b ≤ a ∧ a ≤ c)) := by
 unfold spec_l1In.f
 by_cases h : b ≤ a <;> simp [h]

theorem impl_isBase_eq (b : Int) : impl_isBase.f b = some (decide (2 ≤ b ∧ b ≤ 16)) := by simp only [impl_isBase.f, impl_in_eq, Option.bind_some]
theorem spec_dgBase_eq (b : Int) : spec_dgBase.f b = some (decide (2 ≤ b ∧ b ≤ 16)) := by simp only [spec_dgBase.f, spec_l1In_eq, Option.bind_some]

theorem tmod_cast (a b : Nat) : Int.tmod (a : Int) (b : Int) = ((a % b : Nat) : Int) := (Int.ofNat_tmod a b).symm
theorem tdiv_cast (a b : Nat) : Int.tdiv (a : Int) (b : Int) = ((a / b : Nat) : Int) := (Int.ofNat_tdiv a b).symm
theorem natOf {a : Int} (h : 0 ≤ a) : ∃ n : Nat, a = (n : Int) := ⟨a.toNat, by omega⟩

theorem l1All_loop (lo hi : Int) (whole : List Int) (post : List Int) : ∀ pre : List Int, whole = pre ++ post → whole.length ≤ 4611686018427387904 →
  Ev (fun k => spec_l1All.l0 k lo hi whole (whole.length : Int) (pre.length : Int)) (post.all fun x => decide (lo ≤ x ∧ x ≤ hi)) := by
 induction post with
 | nil =>
  intro pre hw h
  refine evs (fun k => by rw [spec_l1All.l0]) ?_
  exact evn (by simp [hw]) (evr (by simp))
 | cons y post ih =>
  intro pre hw h
  have hl : whole.length = pre.length + (post.length + 1) := by simp [hw]
  have hx : rd whole (pre.length : Int) = y := by rw [hw, rd_mid]
  refine evs (fun k => by rw [spec_l1All.l0]) ?_
  rw [hx]
  simp only [spec_l1In_eq, Option.bind_some, decide_eq_true_eq]
  refine evp (by omega) (evp (by omega) (evp (by omega) ?_))
  by_cases he : lo ≤ y ∧ y ≤ hi
  ·refine evp he ?_
   have h2 := ih (pre ++ [y]) (by simp [hw]) h
   rw [w64 (by omega) (by omega)]
   have e : ((y :: post).all fun x => decide (lo ≤ x ∧ x ≤ hi)) = (post.all fun x => decide (lo ≤ x ∧ x ≤ hi)) := by
    rw [List.all_cons, decide_eq_true he, Bool.true_and]
   rw [e]
   simpa using h2
  ·refine evn he (evr ?_)
   rw [List.all_cons, decide_eq_false he, Bool.false_and]
theorem l1All_ev (l : List Int) (lo hi : Int) (h : l.length ≤ 4611686018427387904) : Ev (fun k => spec_l1All.f k l lo hi) (l.all fun x => decide (lo ≤ x ∧ x ≤ hi)) := by
 unfold spec_l1All.f
 simpa using l1All_loop lo hi l l [] rfl h

theorem reverse_loop (n : Nat) : ∀ (mid pre post : List Int), mid.length ≤ n → pre.length = post.length → (pre ++ mid ++ post).length ≤ 1000000000000 →
  Ev (fun k => slices_Reverse_int_int.l0 k (pre ++ mid ++ post) (pre.length : Int) ((pre.length : Int) + (mid.length : Int) - 1)) (pre ++ mid.reverse ++ post) := by
 induction n with
 | zero =>
  intro mid pre post hm _ _
  obtain rfl : mid = [] := List.eq_nil_of_length_eq_zero (by omega)
  refine evs (fun k => by rw [slices_Reverse_int_int.l0]) ?_
  exact evn (by simp; omega) (evr (by simp))
 | succ n ih =>
  intro mid pre post hm hp hl
  cases mid with
  | nil =>
   refine evs (fun k => by rw [slices_Reverse_int_int.l0]) ?_
   exact evn (by simp; omega) (evr (by simp))
  | cons a t =>
   by_cases ht : t = []
   ·subst ht
    refine evs (fun k => by rw [slices_Reverse_int_int.l0]) ?_
    exact evn (by simp) (evr (by simp))
   ·obtain ⟨m, b, rfl⟩ : ∃ m b, t = m ++ [b] := ⟨t.dropLast, t.getLast ht, (List.dropLast_concat_getLast ht).symm⟩
    simp only [List.length_append, List.length_cons, List.length_nil] at hm hl
    have e0 : pre ++ (a :: (m ++ [b])) ++ post = pre ++ a :: (m ++ b :: post) := by simp
    have e1 : pre ++ (a :: (m ++ [b])) ++ post = (pre ++ a :: m) ++ b :: post := by simp
    have hj : ((pre.length : Int) + (((a :: (m ++ [b])).length : Nat) : Int) - 1) = (((pre ++ a :: m).length : Nat) : Int) := by simp; omega
    have r1 : rd (pre ++ (a :: (m ++ [b])) ++ post) (((pre ++ a :: m).length : Nat) : Int) = b := by rw [e1, rd_mid]
    have r0 : rd (pre ++ (a :: (m ++ [b])) ++ post) ((pre.length : Nat) : Int) = a := by rw [e0, rd_mid]
    have hset : ((pre ++ (a :: (m ++ [b])) ++ post).set (pre.length : Int).toNat b).set (((pre ++ a :: m).length : Nat) : Int).toNat a = (pre ++ [b]) ++ m ++ (a :: post) := by
     rw [e0, Int.toNat_natCast, Int.toNat_natCast, set_mid]
     have e2 : pre ++ b :: (m ++ b :: post) = (pre ++ b :: m) ++ b :: post := by simp
     have e3 : (pre ++ a :: m).length = (pre ++ b :: m).length := by simp
     rw [e2, e3, set_mid]
     simp
    have h := ih m (pre ++ [b]) (a :: post) (by omega) (by simp; omega) (by simp; omega)
    have hj2 : (((pre ++ a :: m).length : Nat) : Int) = (pre.length : Int) + (m.length : Int) + 1 := by simp; omega
    have hlen : (((pre ++ (a :: (m ++ [b])) ++ post).length : Nat) : Int) = (pre.length : Int) + (m.length : Int) + 2 + (post.length : Int) := by simp; omega
    refine evs (fun k => by rw [slices_Reverse_int_int.l0]) ?_
    rw [hj, r1, r0, hset, hlen, hj2, w64o (x := (pre.length : Int) + 1), w64o (x := (pre.length : Int) + (m.length : Int) + 1 - 1)]
    refine evp (by omega) (evp (by omega) (evp (by omega) (evp (by omega) (evp (by omega) ?_))))
    have e4 : (((pre ++ [b]).length : Nat) : Int) = (pre.length : Int) + 1 := by simp
    rw [e4, show (pre.length : Int) + 1 + (m.length : Int) - 1 = (pre.length : Int) + (m.length : Int) + 1 - 1 by omega] at h
    have e5 : (pre ++ [b]) ++ m.reverse ++ (a :: post) = pre ++ (a :: (m ++ [b])).reverse ++ post := by simp
    rw [e5] at h
    exact h
theorem reverse_ev (l : List Int) (h : l.length ≤ 1000000000000) : Ev (fun k => slices_Reverse_int_int.f k l) l.reverse := by
 unfold slices_Reverse_int_int.f
 rw [w64 (by omega) (by omega)]
 have := reverse_loop l.length l [] [] (Nat.le_refl _) rfl (by simpa using h)
 simpa using this

theorem l1Own_ev (l : List Int) (h : l.length ≤ 1000000) : spec_l1Own.f l = some l := by
 unfold spec_l1Own.f
 simp only [Option.bind_some, List.nil_append, List.length_nil]
 rw [if_pos (by omega)]
theorem clone_ev (l : List Int) (h : l.length ≤ 1000000) : slices_Clone_int_int.f l = some l := by
 unfold slices_Clone_int_int.f
 rw [if_pos (by omega)]

theorem dgBack_loop (n : Nat) : ∀ (pre post out : List Int), pre.length = n → (pre ++ post).length ≤ 1000000000000 → out.length + pre.length ≤ 1000000000000 → Ev (fun k => spec_dgBack.l0 k (pre ++ post) out ((pre.length : Int) - 1)) (out ++ pre.reverse) := by
 induction n with
 | zero =>
  intro pre post out hn _ _
  obtain rfl : pre = [] := List.eq_nil_of_length_eq_zero hn
  refine evs (fun k => by rw [spec_dgBack.l0]) ?_
  exact evn (by simp) (evr (by simp))
 | succ n ih =>
  intro pre post out hn hl ho
  have h0 : pre ≠ [] := fun h => by subst h; simp at hn
  obtain ⟨p, x, rfl⟩ : ∃ p x, pre = p ++ [x] := ⟨pre.dropLast, pre.getLast h0, (List.dropLast_concat_getLast h0).symm⟩
  have hp : p.length = n := by simpa using hn
  have e0 : (p ++ [x]) ++ post = p ++ x :: post := by simp
  have e1 : (((p ++ [x]).length : Nat) : Int) - 1 = (p.length : Int) := by simp
  have hl2 : (p ++ x :: post).length = p.length + (post.length + 1) := by simp
  rw [e0] at hl
  rw [hl2] at hl
  have h := ih p (x :: post) (out ++ [x]) hp (by rw [hl2]; exact hl) (by simp at ho ⊢; omega)
  refine evs (fun k => by rw [spec_dgBack.l0]) ?_
  rw [e1, e0, rd_mid, hl2, w64o (x := (p.length : Int) - 1)]
  refine evp (by omega) (evp (by omega) (evp (by omega) (evp (by simp at ho; omega) ?_)))
  have e2 : out ++ (p ++ [x]).reverse = (out ++ [x]) ++ p.reverse := by simp
  rw [e2]
  exact h
theorem dgBack_ev (l : List Int) (h : l.length ≤ 1000000000000) : Ev (fun k => spec_dgBack.f k l) l.reverse := by
 unfold spec_dgBack.f
 rw [w64 (by omega) (by omega)]
 have := dgBack_loop l.length l [] [] rfl (by simpa using h) (by simpa using h)
 simpa using this

theorem spec_rvGood_ev (l : List Int) (b : Int) (hl : l.length ≤ 1000000000) : Ev (fun k => spec_rvGood.f k l b) (gd l b) := by
 unfold spec_rvGood.f gd
 simp only [spec_dgBase_eq, spec_l1In_eq, Option.bind_some, decide_eq_true_eq]
 by_cases h1 : 2 ≤ b ∧ b ≤ 16
 ·refine evp h1 ?_
  by_cases h2 : 1 ≤ (l.length : Int) ∧ (l.length : Int) ≤ 40
  ·rw [w64o (x := b - 1)]
   refine evp h2 (evb (l1All_ev l 0 (b - 1) (by omega)) ?_)
   have e2 : decide (1 ≤ l.length ∧ l.length ≤ 40) = true := decide_eq_true (by omega)
   by_cases h3 : (l.all fun x => decide (0 ≤ x ∧ x ≤ b - 1)) = true
   ·refine evp h3 (evp (by omega) ?_)
    by_cases h4 : rd l 0 > 0
    ·exact evp h4 (evr (by rw [decide_eq_true h1, e2, h3, decide_eq_true h4]; rfl))
    ·refine evn h4 (evr ?_)
     rw [decide_eq_true h1, e2, h3, decide_eq_false h4]
     simp only [Bool.true_and, Bool.false_or]
     by_cases h5 : l.length = 1
     ·rw [decide_eq_true h5, h5]; rfl
     ·rw [decide_eq_false h5]
      exact beq_eq_false_iff_ne.2 (by omega)
   ·refine evn h3 (evr ?_)
    simp only [Bool.not_eq_true] at h3
    rw [h3]
    simp
  ·refine evn h2 (evr ?_)
   have e2 : decide (1 ≤ l.length ∧ l.length ≤ 40) = false := decide_eq_false (by omega)
   rw [e2]
   simp
 ·exact evn h1 (evr (by rw [decide_eq_false h1]; rfl))
theorem impl_isLong_eq (l : List Int) (b : Int) : impl_isLong.f l b = some (gd l b) := by
 unfold impl_isLong.f impl_areDigits.f impl_areIn.f gd
 rw [impl_isBase_eq]
 simp only [Option.bind_some, decide_eq_true_eq]
 by_cases h1 : 2 ≤ b ∧ b ≤ 16
 ·rw [if_pos h1, decide_eq_true h1, w64o (x := b - 1)]
  by_cases h2 : 1 ≤ (l.length : Int) ∧ (l.length : Int) ≤ 40
  ·have e2 : decide (1 ≤ l.length ∧ l.length ≤ 40) = true := decide_eq_true (by omega)
   rw [decide_eq_true h2, e2]
   simp only [Bool.true_and]
   by_cases h3 : (l.all fun x => decide (0 ≤ x ∧ x ≤ b - 1)) = true
   ·rw [if_pos h3, if_pos (by omega : 0 < (l.length : Int)), h3]
    by_cases h4 : rd l 0 > 0
    ·rw [if_pos h4, decide_eq_true h4]
     simp only [Option.bind_some, if_true]
     rw [decide_eq_true (by omega)]
     rfl
    ·rw [if_neg h4, decide_eq_false h4]
     simp only [Option.bind_some, Bool.true_and, Bool.false_or]
     by_cases h5 : l.length = 1
     ·have e5 : ((l.length : Int) == 1) = true := by rw [h5]; rfl
      rw [e5, if_pos rfl, decide_eq_true h5, decide_eq_true (by omega)]
     ·have e5 : ((l.length : Int) == 1) = false := beq_eq_false_iff_ne.2 (by omega)
      rw [e5, if_neg (by simp), decide_eq_false h5]
   ·rw [if_neg h3]
    simp only [Bool.not_eq_true] at h3
    rw [h3]
    simp
  ·have e2 : decide (1 ≤ l.length ∧ l.length ≤ 40) = false := decide_eq_false (by omega)
   rw [decide_eq_false h2, e2]
   simp
 ·rw [if_neg h1, decide_eq_false h1]
  rfl

theorem ds_rd (ds : List Nat) (i : Nat) (h : i < ds.length) : rd (ic ds) (i : Int) = ((ds.getD i 0 : Nat) : Int) := by
 rw [rd_get _ _ (by rw [ic_length]; exact h)]
 simp [ic, List.getD_eq_getElem?_getD, h]
theorem drop_sums (ds : List Nat) (i : Nat) (h : i < ds.length) : (sumsL ds).drop i = (ds.getD (ds.length - 1 - i) 0 + ds.getD i 0) :: (sumsL ds).drop (i + 1) := by
 have hl : i < (sumsL ds).length := by rw [sumsL_length]; exact h
 rw [List.drop_eq_getElem_cons hl]
 congr 1
 rw [← sumsL_at ds i h, List.getD_eq_getElem?_getD, List.getElem?_eq_getElem hl]
 rfl
theorem getD_lt {b : Nat} (ds : List Nat) (hd : ∀ d ∈ ds, d < b) (i : Nat) (h : i < ds.length) : ds.getD i 0 < b := by
 rw [List.getD_eq_getElem?_getD, List.getElem?_eq_getElem h]
 exact hd _ (List.getElem_mem h)
theorem reversed_ev0 (l : List Nat) (h : l.length ≤ 1000000) : Ev (fun k => impl_reversed.f k (ic l)) (ic l.reverse) := by
 unfold impl_reversed.f
 rw [clone_ev _ (by rw [ic_length]; exact h)]
 simp only [Option.bind_some]
 refine evb (reverse_ev (ic l) (by rw [ic_length]; omega)) (evr ?_)
 rw [ic_reverse]
theorem summed_loop (ds : List Nat) (b : Nat) (hb : 2 ≤ b) (hb2 : b ≤ 16) (hl : ds.length ≤ 40) (hd : ∀ d ∈ ds, d < b) (e : Nat) : ∀ (i c : Nat) (O K : List Nat), i + e = ds.length → c ≤ 1 → O.length ≤ 100 → O.length = i → K.length = i →
  Ev (fun k => impl_summed.l0 k (ic ds) (b : Int) (ic O) (ic K) (c : Int) (ds.length : Int) (i : Int)) (ic (O ++ addO b c ((sumsL ds).drop i)).reverse, ic (K ++ addK b c ((sumsL ds).drop i))) := by
 induction e with
 | zero =>
  intro i c O K hi hc hO hOl hKl
  have hdr : (sumsL ds).drop i = [] := List.drop_of_length_le (by rw [sumsL_length]; omega)
  rw [hdr]
  refine evs (fun k => by rw [impl_summed.l0]) ?_
  refine evn (by omega) ?_
  simp only [addK, List.append_nil]
  by_cases h : 0 < c
  ·have ea : addO b c [] = [c] := if_pos h
   rw [ea]
   have h2 := reversed_ev0 (O ++ [c]) (by simp; omega)
   rw [ic_append, ic_cons, ic_nil] at h2
   exact evp (by omega) (evp (by rw [ic_length]; omega) (evb h2 (Ev.now _)))
  ·have ea : addO b c [] = [] := if_neg h
   rw [ea, List.append_nil]
   exact evn (by omega) (evb (reversed_ev0 O (by omega)) (Ev.now _))
 | succ e ih =>
  intro i c O K hi hc hO hOl hKl
  have hdr := drop_sums ds i (by omega)
  have g1 := getD_lt ds hd i (by omega)
  have g2 := getD_lt ds hd (ds.length - 1 - i) (by omega)
  have r1 := ds_rd ds i (by omega)
  have r2 := ds_rd ds (ds.length - 1 - i) (by omega)
  obtain ⟨p, hp⟩ : ∃ p, ds.getD i 0 = p := ⟨_, rfl⟩
  obtain ⟨q, hq⟩ : ∃ q, ds.getD (ds.length - 1 - i) 0 = q := ⟨_, rfl⟩
  rw [hp] at g1 r1
  rw [hq] at g2 r2
  rw [hp, hq] at hdr
  have hc2 : (q + p + c) / b ≤ 1 := carry_le hb (by omega) hc
  have hdv : (q + p + c) / b ≤ q + p + c := Nat.div_le_self _ _
  have h1 := ih (i + 1) ((q + p + c) / b) (O ++ [(q + p + c) % b]) (K ++ [(q + p + c) / b]) (by omega) hc2 (by simp; omega) (by simp; omega) (by simp; omega)
  rw [hdr]
  simp only [addO, addK]
  have e1 : (ds.length : Int) - 1 - (i : Int) = ((ds.length - 1 - i : Nat) : Int) := by omega
  have e2 : (q : Int) + (p : Int) + (c : Int) = ((q + p + c : Nat) : Int) := by omega
  refine evs (fun k => by rw [impl_summed.l0]) ?_
  rw [ic_length, w64o (x := (ds.length : Int) - 1), e1, w64n (ds.length - 1 - i) (by omega), r1, r2, w64o (x := (q : Int) + (p : Int)), e2, w64n (q + p + c) (by omega), tmod_cast, tdiv_cast, w64n ((q + p + c) / b) (by omega), w64o (x := (i : Int) + 1), show (i : Int) + 1 = ((i + 1 : Nat) : Int) by omega]
  clear e1 e2
  refine evp (by omega) (evp (by omega) (evp (by omega) (evp (by omega) (evp (by omega) (evn (by omega) (evp (by rw [ic_length]; omega) (evp (by rw [ic_length]; omega) ?_)))))))
  simp only [ic_append, ic_cons, ic_nil, List.append_assoc, List.singleton_append] at h1
  simpa [ic_append, ic_cons, ic_nil] using h1
def addSum (b : Nat) (ds : List Nat) : List Nat := (addO b 0 (sumsL ds)).reverse
def addCar (b : Nat) (ds : List Nat) : List Nat := addK b 0 (sumsL ds)
theorem summed_ev (ds : List Nat) (b : Nat) (hb : 2 ≤ b) (hb2 : b ≤ 16) (hl : ds.length ≤ 40) (hd : ∀ d ∈ ds, d < b) : Ev (fun k => impl_summed.f k (ic ds) (b : Int)) (ic (addSum b ds), ic (addCar b ds)) := by
 have h := summed_loop ds b hb hb2 hl hd ds.length 0 0 [] [] (by omega) (by omega) (by simp) rfl rfl
 unfold impl_summed.f
 rw [ic_length]
 simpa [addSum, addCar, ic_nil] using h
theorem rvAdd_loop (ds : List Nat) (b : Nat) (hb : 2 ≤ b) (hb2 : b ≤ 16) (hl : ds.length ≤ 40) (hd : ∀ d ∈ ds, d < b) (e : Nat) : ∀ (i c : Nat) (O K : List Nat), i + e = ds.length → c ≤ 1 → O.length = i → K.length = i →
  Ev (fun k => spec_rvAdd.l0 k (ic ds) (b : Int) (ds.length : Int) (ic O) (ic K) (c : Int) ((ds.length : Int) - 1 - (i : Int))) (ic ((addO b c ((sumsL ds).drop i)).reverse ++ O), ic (K ++ addK b c ((sumsL ds).drop i))) := by
 induction e with
 | zero =>
  intro i c O K hi hc hOl hKl
  have hdr : (sumsL ds).drop i = [] := List.drop_of_length_le (by rw [sumsL_length]; omega)
  rw [hdr]
  refine evs (fun k => by rw [spec_rvAdd.l0]) ?_
  refine evn (by omega) ?_
  simp only [addK, List.append_nil]
  by_cases h : 0 < c
  ·have ea : addO b c [] = [c] := if_pos h
   rw [ea]
   simp only [Option.bind_some]
   exact evp (by omega) (evp (by simp only [List.length_cons, List.length_nil, ic_length]; omega) (evr (by simp [ic])))
  ·have ea : addO b c [] = [] := if_neg h
   rw [ea]
   exact evn (by omega) (evr (by simp))
 | succ e ih =>
  intro i c O K hi hc hOl hKl
  have hdr := drop_sums ds i (by omega)
  have g1 := getD_lt ds hd i (by omega)
  have g2 := getD_lt ds hd (ds.length - 1 - i) (by omega)
  have r1 := ds_rd ds i (by omega)
  have r2 := ds_rd ds (ds.length - 1 - i) (by omega)
  obtain ⟨p, hp⟩ : ∃ p, ds.getD i 0 = p := ⟨_, rfl⟩
  obtain ⟨q, hq⟩ : ∃ q, ds.getD (ds.length - 1 - i) 0 = q := ⟨_, rfl⟩
  rw [hp] at g1 r1
  rw [hq] at g2 r2
  rw [hp, hq] at hdr
  have hc2 : (q + p + c) / b ≤ 1 := carry_le hb (by omega) hc
  have hdv : (q + p + c) / b ≤ q + p + c := Nat.div_le_self _ _
  have h1 := ih (i + 1) ((q + p + c) / b) ((q + p + c) % b :: O) (K ++ [(q + p + c) / b]) (by omega) hc2 (by simp; omega) (by simp; omega)
  rw [hdr]
  simp only [addO, addK]
  have e1 : (ds.length : Int) - 1 - (i : Int) = ((ds.length - 1 - i : Nat) : Int) := by omega
  have e3 : (ds.length : Int) - 1 - ((ds.length - 1 - i : Nat) : Int) = (i : Int) := by omega
  have e2 : (q : Int) + (p : Int) + (c : Int) = ((q + p + c : Nat) : Int) := by omega
  have e4 : ((ds.length - 1 - i : Nat) : Int) - 1 = (ds.length : Int) - 1 - ((i + 1 : Nat) : Int) := by omega
  refine evs (fun k => by rw [spec_rvAdd.l0]) ?_
  rw [e1, ic_length, w64o (x := (ds.length : Int) - 1), e3, w64o (x := (i : Int)), r1, r2, w64o (x := (q : Int) + (p : Int)), e2, w64n (q + p + c) (by omega), tmod_cast, tdiv_cast, w64n ((q + p + c) / b) (by omega), w64o (x := ((ds.length - 1 - i : Nat) : Int) - 1), e4]
  clear e1 e2 e3 e4
  refine evp (by omega) (evp (by omega) (evp (by omega) (evp (by omega) (evp (by omega) (evn (by omega) (evp (by rw [ic_length]; omega) ?_))))))
  simp only [Option.bind_some]
  refine evp (by simp only [List.length_cons, List.length_nil, ic_length]; omega) ?_
  simp only [ic_append, ic_cons, ic_nil] at h1
  simpa [ic_append, ic_cons, ic_nil, ic_reverse] using h1
theorem rvAdd_ev (ds : List Nat) (b : Nat) (hb : 2 ≤ b) (hb2 : b ≤ 16) (hl : ds.length ≤ 40) (hd : ∀ d ∈ ds, d < b) : Ev (fun k => spec_rvAdd.f k (ic ds) (b : Int)) (ic (addSum b ds), ic (addCar b ds)) := by
 have h := rvAdd_loop ds b hb hb2 hl hd ds.length 0 0 [] [] (by omega) (by omega) rfl rfl
 unfold spec_rvAdd.f
 rw [ic_length, w64o (x := (ds.length : Int) - 1)]
 simpa [addSum, addCar, ic_nil] using h

theorem slices_Equal_int_int_loop (post : List Int) : ∀ (pre post' : List Int), post'.length = post.length → (pre ++ post).length ≤ 4611686018427387904 →
  Ev (fun k => slices_Equal_int_int.l0 k (pre ++ post) (pre ++ post') ((pre ++ post).length : Int) (pre.length : Int)) (decide (post = post')) := by
 induction post with
 | nil =>
  intro pre post' hl h
  obtain rfl : post' = [] := List.eq_nil_of_length_eq_zero hl
  refine evs (fun k => by rw [slices_Equal_int_int.l0]) ?_
  exact evn (by simp) (evr (by simp))
 | cons x post ih =>
  intro pre post' hl h
  obtain ⟨y, post', rfl⟩ : ∃ y z, post' = y :: z := by cases post' with
   | nil => simp at hl
   | cons y z => exact ⟨y, z, rfl⟩
  refine evs (fun k => by rw [slices_Equal_int_int.l0]) ?_
  refine evp (by simp; omega) (evp (by omega) (evp (by simp; omega) (evp (by simp; omega) ?_)))
  rw [rd_mid, rd_mid]
  by_cases he : x = y
  ·subst he
   refine evp rfl ?_
   have h2 := ih (pre ++ [x]) post' (by simpa using hl) (by simpa using h)
   simp only [List.append_assoc, List.singleton_append] at h2
   rw [w64 (by omega) (by simp at h; omega)]
   simpa using h2
  ·exact evn he (evr (by simp [he]))
theorem slices_Equal_int_int_ev (l l' : List Int) (h : l.length ≤ 4611686018427387904) : Ev (fun k => slices_Equal_int_int.f k l l') (decide (l = l')) := by
 unfold slices_Equal_int_int.f
 by_cases hl : l.length = l'.length
 ·exact evp (by omega) (by simpa using slices_Equal_int_int_loop l [] l' hl.symm (by simpa using h))
 ·exact evn (by omega) (evr (by symm; rw [decide_eq_false_iff_not]; exact fun e => hl (by rw [e])))
theorem spec_l1Same_loop (post : List Int) : ∀ (pre post' : List Int), post'.length = post.length → (pre ++ post).length ≤ 4611686018427387904 →
  Ev (fun k => spec_l1Same.l0 k (pre ++ post) (pre ++ post') ((pre ++ post).length : Int) (pre.length : Int)) (decide (post = post')) := by
 induction post with
 | nil =>
  intro pre post' hl h
  obtain rfl : post' = [] := List.eq_nil_of_length_eq_zero hl
  refine evs (fun k => by rw [spec_l1Same.l0]) ?_
  exact evn (by simp) (evr (by simp))
 | cons x post ih =>
  intro pre post' hl h
  obtain ⟨y, post', rfl⟩ : ∃ y z, post' = y :: z := by cases post' with
   | nil => simp at hl
   | cons y z => exact ⟨y, z, rfl⟩
  refine evs (fun k => by rw [spec_l1Same.l0]) ?_
  refine evp (by simp; omega) (evp (by omega) (evp (by simp; omega) (evp (by simp; omega) ?_)))
  rw [rd_mid, rd_mid]
  by_cases he : x = y
  ·subst he
   refine evp rfl ?_
   have h2 := ih (pre ++ [x]) post' (by simpa using hl) (by simpa using h)
   simp only [List.append_assoc, List.singleton_append] at h2
   rw [w64 (by omega) (by simp at h; omega)]
   simpa using h2
  ·exact evn he (evr (by simp [he]))
theorem spec_l1Same_ev (l l' : List Int) (h : l.length ≤ 4611686018427387904) : Ev (fun k => spec_l1Same.f k l l') (decide (l = l')) := by
 unfold spec_l1Same.f
 by_cases hl : l.length = l'.length
 ·exact evp (by omega) (by simpa using spec_l1Same_loop l [] l' hl.symm (by simpa using h))
 ·exact evn (by omega) (evr (by symm; rw [decide_eq_false_iff_not]; exact fun e => hl (by rw [e])))
theorem add_facts (ds : List Nat) (b : Nat) (hb : 2 ≤ b) (h1 : 1 ≤ ds.length) (hd : ∀ d ∈ ds, d < b) : ∃ over, over ≤ 1 ∧ (addCar b ds).length = ds.length ∧ (addCar b ds).getD (ds.length - 1) 0 = over ∧ addC b 0 (sumsL ds) = over ∧ (addSum b ds).length = ds.length + over ∧ (∀ x ∈ addCar b ds, x ≤ 1) ∧
  addSum b ds = (if 0 < over then [over] else []) ++ (addP b 0 (sumsL ds)).reverse := by
 have hS := sumsL_le hb ds hd
 have hl := sumsL_length ds
 have hc := addC_le hb (sumsL ds) hS 0 (by omega)
 have hlast := addK_last b (sumsL ds) 0 (by intro h; rw [h] at hl; simp at hl; omega)
 rw [hl] at hlast
 have hsum : addSum b ds = (if 0 < addC b 0 (sumsL ds) then [addC b 0 (sumsL ds)] else []) ++ (addP b 0 (sumsL ds)).reverse := by
  unfold addSum
  rw [addO_eq, List.reverse_append]
  congr 1
  split <;> rfl
 refine ⟨addC b 0 (sumsL ds), hc, by unfold addCar; rw [addK_length, hl], hlast, rfl, ?_, addK_le hb _ hS 0 (by omega), hsum⟩
 rw [hsum, List.length_append, List.length_reverse, addP_length, hl]
 split
 ·simp only [List.length_cons, List.length_nil]; omega
 ·simp only [List.length_nil]; omega
theorem getD_rev (x : List Nat) (i : Nat) (h : i < x.length) : x.reverse.getD i 0 = x.getD (x.length - 1 - i) 0 := by
 simp only [List.getD_eq_getElem?_getD]
 rw [List.getElem?_reverse h]
theorem sum_good (ds : List Nat) (b : Nat) (hb : 2 ≤ b) (hb2 : b ≤ 16) (h1 : 1 ≤ ds.length) (hd : ∀ d ∈ ds, d < b) (h0 : 0 < ds.getD 0 0 ∨ ds.length = 1) (h40 : (addSum b ds).length ≤ 40) : gd (ic (addSum b ds)) (b : Int) = true := by
 obtain ⟨over, o1, o2, o3, o4, o5, o6, o7⟩ := add_facts ds b hb h1 hd
 have hP := addP_lt hb (sumsL ds) 0
 have hPl : (addP b 0 (sumsL ds)).length = ds.length := by rw [addP_length, sumsL_length]
 refine gd_of _ b hb hb2 (by omega) h40 (fun d h => ?_) ?_
 ·rw [o7] at h
  rcases List.mem_append.1 h with h | h
  ·split at h
   ·rw [List.mem_singleton.1 h]; omega
   ·simp at h
  ·exact hP d (List.mem_reverse.1 h)
 ·by_cases hov : 0 < over
  ·left
   rw [o7, if_pos hov]
   simpa using hov
  ·rcases h0 with h0 | h0
   ·left
    rw [o7, if_neg hov, List.nil_append, getD_rev _ _ (by omega), hPl]
    have ha := add_at b (sumsL ds) 0 (ds.length - 1) (by rw [sumsL_length]; omega)
    have hs := sumsL_at ds (ds.length - 1) (by omega)
    rw [show ds.length - 1 - (ds.length - 1) = 0 by omega] at hs
    have hk : (addK b 0 (sumsL ds)).getD (ds.length - 1) 0 = 0 := by
     have : (addCar b ds).getD (ds.length - 1) 0 = 0 := by omega
     exact this
    rw [hk, Nat.mul_zero] at ha
    rw [show ds.length - 1 - 0 = ds.length - 1 by omega]
    omega
   ·right
    omega
theorem laws_qSame_loop (post : List Int) : ∀ (pre post' : List Int), post'.length = post.length → (pre ++ post).length ≤ 4611686018427387904 →
  Ev (fun k => laws_qSame.l0 k (pre ++ post) (pre ++ post') ((pre ++ post).length : Int) (pre.length : Int)) (decide (post = post')) := by
 induction post with
 | nil =>
  intro pre post' hl h
  obtain rfl : post' = [] := List.eq_nil_of_length_eq_zero hl
  refine evs (fun k => by rw [laws_qSame.l0]) ?_
  exact evn (by simp) (evr (by simp))
 | cons x post ih =>
  intro pre post' hl h
  obtain ⟨y, post', rfl⟩ : ∃ y z, post' = y :: z := by cases post' with
   | nil => simp at hl
   | cons y z => exact ⟨y, z, rfl⟩
  refine evs (fun k => by rw [laws_qSame.l0]) ?_
  refine evp (by simp; omega) (evp (by omega) (evp (by simp; omega) (evp (by simp; omega) ?_)))
  rw [rd_mid, rd_mid]
  by_cases he : x = y
  ·subst he
   refine evp rfl ?_
   have h2 := ih (pre ++ [x]) post' (by simpa using hl) (by simpa using h)
   simp only [List.append_assoc, List.singleton_append] at h2
   rw [w64 (by omega) (by simp at h; omega)]
   simpa using h2
  ·exact evn he (evr (by simp [he]))
theorem laws_qSame_ev (l l' : List Int) (h : l.length ≤ 4611686018427387904) : Ev (fun k => laws_qSame.f k l l') (decide (l = l')) := by
 unfold laws_qSame.f
 by_cases hl : l.length = l'.length
 ·exact evp (by omega) (by simpa using laws_qSame_loop l [] l' hl.symm (by simpa using h))
 ·exact evn (by omega) (evr (by symm; rw [decide_eq_false_iff_not]; exact fun e => hl (by rw [e])))
theorem laws_qSame_self (l : List Int) (h : l.length ≤ 4611686018427387904) : Ev (fun k => laws_qSame.f k l l) true := by simpa using laws_qSame_ev l l h

theorem rd_L1_at (pre post : List (List Int)) (x : List Int) : rd_L2 (pre ++ x :: post) (pre.length : Int) = x := by simp [rd_L2]
theorem rows_loop (whole : List (List Int)) (hr : ∀ x ∈ whole, x.length ≤ 1000000) (post : List (List Int)) : ∀ pre : List (List Int), whole = pre ++ post → whole.length ≤ 1000000 →
  Ev (fun k => laws_qSameRows.l0 k whole whole (whole.length : Int) (pre.length : Int)) true := by
 induction post with
 | nil =>
  intro pre hw h
  refine evs (fun k => by rw [laws_qSameRows.l0]) ?_
  exact evn (by simp [hw]) (Ev.now _)
 | cons x post ih =>
  intro pre hw h
  have hl : whole.length = pre.length + (post.length + 1) := by simp [hw]
  have hx : rd_L2 whole (pre.length : Int) = x := by rw [hw]; exact rd_L1_at pre post x
  have h2 := ih (pre ++ [x]) (by simp [hw]) h
  have hxl := hr x (by rw [hw]; simp)
  refine evs (fun k => by rw [laws_qSameRows.l0]) ?_
  rw [hx, w64o (x := (pre.length : Int) + 1)]
  refine evp (by omega) (evp (by omega) (evp (by omega) (evp (by omega) (evb (laws_qSame_self _ (by omega)) (evp rfl ?_)))))
  simpa using h2
theorem rows_self (rows : List (List Int)) (hr : ∀ x ∈ rows, x.length ≤ 1000000) (h : rows.length ≤ 1000000) : Ev (fun k => laws_qSameRows.f k rows rows) true := by
 unfold laws_qSameRows.f
 exact evp rfl (by simpa using rows_loop rows hr rows [] rfl h)

structure GD (b : Nat) (ds : List Nat) : Prop where
 h1 : 1 ≤ ds.length
 h2 : ds.length ≤ 40
 hd : ∀ d ∈ ds, d < b
 h0 : 0 < ds.getD 0 0 ∨ ds.length = 1
theorem GD.gd {b : Nat} (hb : 2 ≤ b) (hb2 : b ≤ 16) {ds : List Nat} (h : GD b ds) : Go.Proofs.Ytiheocddlopfcaa.Pure.gd (ic ds) (b : Int) = true := gd_of ds b hb hb2 h.h1 h.h2 h.hd h.h0
theorem GD.next {b : Nat} (hb : 2 ≤ b) (hb2 : b ≤ 16) {ds : List Nat} (h : GD b ds) (h40 : (addSum b ds).length ≤ 40) : GD b (addSum b ds) := by
 have hg := sum_good ds b hb hb2 h.h1 h.hd h.h0 h40
 obtain ⟨es, B, e1, e2, g1, g2, g3, g4, g5, g6⟩ := gd_nat hg
 have := ic_inj _ _ e1
 subst this
 have hB : B = b := by omega
 subst hB
 exact ⟨g3, g4, g5, g6⟩
def arun (b : Nat) : Nat → List Nat → List (List Nat)
 | 0, ds => [ds]
 | m + 1, ds => if ds.reverse = ds then [ds] else if 40 < (addSum b ds).length then [ds] else ds :: arun b m (addSum b ds)
def astep (b : Nat) : Nat → List Nat → Option Nat
 | 0, ds => if ds.reverse = ds then some 0 else none
 | m + 1, ds => if ds.reverse = ds then some 0 else if 40 < (addSum b ds).length then none else (astep b m (addSum b ds)).map (· + 1)
def icr (L : List (List Nat)) : List (List Int) := L.map ic
theorem icr_append (L M : List (List Nat)) : icr (L ++ M) = icr L ++ icr M := by simp [icr]
theorem icr_length (L : List (List Nat)) : (icr L).length = L.length := by simp [icr]
theorem arun_len (b : Nat) (m : Nat) : ∀ ds, 1 ≤ (arun b m ds).length ∧ (arun b m ds).length ≤ m + 1 := by
 induction m with
 | zero => intro ds; simp [arun]
 | succ m ih =>
  intro ds
  simp only [arun]
  split
  ·simp
  ·split
   ·simp
   ·have := ih (addSum b ds)
    simp only [List.length_cons]
    omega
theorem arun_head (b : Nat) (m : Nat) : ∀ ds, ∃ post, arun b m ds = ds :: post := by
 cases m with
 | zero => intro ds; exact ⟨[], rfl⟩
 | succ m =>
  intro ds
  simp only [arun]
  split
  ·exact ⟨[], rfl⟩
  ·split
   ·exact ⟨[], rfl⟩
   ·exact ⟨_, rfl⟩
theorem isSym_ev (ds : List Nat) (h : ds.length ≤ 1000) : Ev (fun k => impl_isSymmetric.f k (ic ds)) (decide (ds.reverse = ds)) := by
 unfold impl_isSymmetric.f
 exact evb (reversed_ev0 ds (by omega)) (evb (slices_Equal_int_int_ev _ _ (by rw [ic_length]; omega)) (evr (by rw [symL_eq])))
theorem dgPal_ev (ds : List Nat) (h : ds.length ≤ 1000) : Ev (fun k => spec_dgPalindrome.f k (ic ds)) (decide (ds.reverse = ds)) := by
 unfold spec_dgPalindrome.f
 refine evb (dgBack_ev (ic ds) (by rw [ic_length]; omega)) ?_
 rw [← ic_reverse]
 exact evb (spec_l1Same_ev _ _ (by rw [ic_length]; omega)) (evr (by rw [symL_eq]))
theorem impl_run_loop (b : Nat) (hb : 2 ≤ b) (hb2 : b ≤ 16) (most : Nat) (hm : most ≤ 100) (m : Nat) : ∀ (ds : List Nat) (pre : List (List Nat)) (i : Nat), i + m = most → pre.length = i → GD b ds →
  Ev (fun k => impl_AddedRun.l0 k (b : Int) (most : Int) (ic ds) (icr (pre ++ [ds])) (i : Int)) (icr (pre ++ arun b m ds)) := by
 induction m with
 | zero =>
  intro ds pre i hi hp hg
  refine evs (fun k => by rw [impl_AddedRun.l0]) ?_
  exact evn (by omega) (Ev.now _)
 | succ m ih =>
  intro ds pre i hi hp hg
  have hl := hg.h2
  refine evs (fun k => by rw [impl_AddedRun.l0]) ?_
  refine evp (by omega) (evb (isSym_ev ds (by omega)) ?_)
  simp only [arun]
  by_cases hs : ds.reverse = ds
  ·rw [if_pos hs]
   exact evp (decide_eq_true hs) (Ev.now _)
  ·rw [if_neg hs]
   refine evn (by rw [decide_eq_false hs]; simp) (evb (summed_ev ds b hb hb2 hl hg.hd) ?_)
   simp only [ic_length]
   by_cases h40 : 40 < (addSum b ds).length
   ·rw [if_pos h40]
    exact evp (by omega) (Ev.now _)
   ·rw [if_neg h40]
    have h2 := ih (addSum b ds) (pre ++ [ds]) (i + 1) (by omega) (by simp [hp]) (hg.next hb hb2 (by omega))
    rw [w64o (x := (i : Int) + 1), show (i : Int) + 1 = ((i + 1 : Nat) : Int) by omega]
    rw [List.append_assoc, List.append_assoc, List.singleton_append, List.singleton_append] at h2
    refine evn (by omega) (evp (by rw [icr_length]; simp; omega) ?_)
    have e : icr (pre ++ [ds]) ++ [ic (addSum b ds)] = icr (pre ++ ds :: [addSum b ds]) := by simp [icr]
    rw [e]
    exact h2
theorem spec_run_loop (b : Nat) (hb : 2 ≤ b) (hb2 : b ≤ 16) (most : Nat) (hm : most ≤ 100) (m : Nat) : ∀ (ds : List Nat) (pre : List (List Nat)) (i : Nat), i + m = most → pre.length = i → GD b ds →
  Ev (fun k => spec_rvRun.l0 k (b : Int) (most : Int) (icr (pre ++ [ds])) (i : Int)) (icr (pre ++ arun b m ds)) := by
 induction m with
 | zero =>
  intro ds pre i hi hp hg
  refine evs (fun k => by rw [spec_rvRun.l0]) ?_
  refine evn (by omega) ?_
  refine evs (fun k => by rw [spec_rvRun.j1]) ?_
  exact evn (by simp) (Ev.now _)
 | succ m ih =>
  intro ds pre i hi hp hg
  have hl := hg.h2
  have hr : rd_L2 (icr (pre ++ [ds])) (i : Int) = ic ds := by
   have : (i : Int) = ((icr pre).length : Int) := by rw [icr_length, hp]
   rw [this, icr_append]
   exact rd_L1_at (icr pre) [] (ic ds)
  have hlen : (icr (pre ++ [ds])).length = i + 1 := by rw [icr_length]; simp [hp]
  refine evs (fun k => by rw [spec_rvRun.l0]) ?_
  rw [hr]
  refine evp (by omega) (evp (by omega) (evp (by omega) (evb (dgPal_ev ds (by omega)) ?_)))
  refine evs (fun k => by rw [spec_rvRun.j1]) ?_
  rw [hr]
  simp only [arun]
  by_cases hs : ds.reverse = ds
  ·rw [if_pos hs, decide_eq_true hs]
   exact evn (by simp) (Ev.now _)
  ·rw [if_neg hs, decide_eq_false hs]
   refine evp rfl (evp (by omega) (evp (by omega) (evb (rvAdd_ev ds b hb hb2 hl hg.hd) ?_)))
   simp only [ic_length]
   by_cases h40 : 40 < (addSum b ds).length
   ·rw [if_pos h40]
    exact evp (by omega) (Ev.now _)
   ·rw [if_neg h40]
    have h2 := ih (addSum b ds) (pre ++ [ds]) (i + 1) (by omega) (by simp [hp]) (hg.next hb hb2 (by omega))
    rw [w64o (x := (i : Int) + 1), show (i : Int) + 1 = ((i + 1 : Nat) : Int) by omega]
    rw [List.append_assoc, List.append_assoc, List.singleton_append, List.singleton_append] at h2
    refine evn (by omega) (evp (by omega) ?_)
    have e : icr (pre ++ [ds]) ++ [ic (addSum b ds)] = icr (pre ++ ds :: [addSum b ds]) := by simp [icr]
    rw [e]
    exact h2
theorem spec_rvRun_ev (b : Nat) (hb : 2 ≤ b) (hb2 : b ≤ 16) (most : Nat) (hm : most ≤ 100) (ds : List Nat) (hg : GD b ds) : Ev (fun k => spec_rvRun.f k (ic ds) (b : Int) (most : Int)) (icr (arun b most ds)) := by
 have hl := hg.h2
 unfold spec_rvRun.f
 refine evc (l1Own_ev (ic ds) (by rw [ic_length]; omega)) ?_
 have := spec_run_loop b hb hb2 most hm most ds [] 0 (by omega) rfl hg
 simpa [icr] using this
theorem run_both (b : Nat) (hb : 2 ≤ b) (hb2 : b ≤ 16) (most : Nat) (hm : most ≤ 100) (ds : List Nat) (hg : GD b ds) : Ev (fun k => impl_AddedRun.f k (ic ds) (b : Int) (most : Int)) (icr (arun b most ds), true) ∧ Ev (fun k => spec_AddedRun.f k (ic ds) (b : Int) (most : Int)) (icr (arun b most ds), true) := by
 have hl := hg.h2
 have hgd := hg.gd hb hb2
 have hgood := spec_rvGood_ev (ic ds) (b : Int) (by rw [ic_length]; omega)
 rw [hgd] at hgood
 constructor
 ·unfold impl_AddedRun.f
  have h := impl_run_loop b hb hb2 most hm most ds [] 0 (by omega) rfl hg
  refine evc (impl_isLong_eq _ _) (evp hgd (evc (impl_in_eq _ 0 100) (evp (decide_eq_true (by omega)) (evc (clone_ev (ic ds) (by rw [ic_length]; omega)) (evb (a := icr (arun b most ds)) ?_ (Ev.now _))))))
  simpa [icr] using h
 ·unfold spec_AddedRun.f
  refine evb hgood (evp rfl (evc (a := true) ?_ (evp rfl (evb (spec_rvRun_ev b hb hb2 most hm ds hg) (Ev.now _)))))
  unfold spec_rvMost.f
  rw [spec_l1In_eq, Option.bind_some, decide_eq_true (by omega)]
def stepI (x : Option Nat) : Int := match x with | some s => (s : Int) | none => -1
theorem impl_steps_loop (b : Nat) (hb : 2 ≤ b) (hb2 : b ≤ 16) (most : Nat) (hm : most ≤ 100) (m : Nat) : ∀ (ds : List Nat) (i : Nat), i + m = most → GD b ds →
  Ev (fun k => impl_stepsOf.l0 k (ic ds) (b : Int) (most : Int) (i : Int)) (stepI ((astep b m ds).map (i + ·))) := by
 induction m with
 | zero =>
  intro ds i hi hg
  have hl := hg.h2
  refine evs (fun k => by rw [impl_stepsOf.l0]) ?_
  refine evp (by omega) ?_
  rw [decide_eq_true (show ((ic ds).length : Int) ≤ 40 by rw [ic_length]; omega)]
  refine evs (fun k => by rw [impl_stepsOf.j1]) ?_
  refine evp rfl (evb (isSym_ev ds (by omega)) ?_)
  simp only [astep]
  by_cases hs : ds.reverse = ds
  ·rw [if_pos hs]
   exact evp (decide_eq_true hs) (evr (by simp [stepI]))
  ·rw [if_neg hs]
   refine evn (by rw [decide_eq_false hs]; simp) (evb (summed_ev ds b hb hb2 hl hg.hd) ?_)
   rw [w64o (x := (i : Int) + 1)]
   refine evs (fun k => by rw [impl_stepsOf.l0]) ?_
   refine evn (by omega) ?_
   refine evs (fun k => by rw [impl_stepsOf.j1]) ?_
   exact evn (by simp) (evr rfl)
 | succ m ih =>
  intro ds i hi hg
  have hl := hg.h2
  refine evs (fun k => by rw [impl_stepsOf.l0]) ?_
  refine evp (by omega) ?_
  rw [decide_eq_true (show ((ic ds).length : Int) ≤ 40 by rw [ic_length]; omega)]
  refine evs (fun k => by rw [impl_stepsOf.j1]) ?_
  refine evp rfl (evb (isSym_ev ds (by omega)) ?_)
  simp only [astep]
  by_cases hs : ds.reverse = ds
  ·rw [if_pos hs]
   exact evp (decide_eq_true hs) (evr (by simp [stepI]))
  ·rw [if_neg hs]
   refine evn (by rw [decide_eq_false hs]; simp) (evb (summed_ev ds b hb hb2 hl hg.hd) ?_)
   rw [w64o (x := (i : Int) + 1), show (i : Int) + 1 = ((i + 1 : Nat) : Int) by omega]
   by_cases h40 : 40 < (addSum b ds).length
   ·rw [if_pos h40]
    refine evs (fun k => by rw [impl_stepsOf.l0]) ?_
    refine evp (by omega) ?_
    rw [decide_eq_false (show ¬ ((ic (addSum b ds)).length : Int) ≤ 40 by rw [ic_length]; omega)]
    refine evs (fun k => by rw [impl_stepsOf.j1]) ?_
    exact evn (by simp) (evr rfl)
   ·rw [if_neg h40]
    have h2 := ih (addSum b ds) (i + 1) (by omega) (hg.next hb hb2 (by omega))
    have e : ((astep b m (addSum b ds)).map (· + 1)).map (i + ·) = (astep b m (addSum b ds)).map (i + 1 + ·) := by
     cases astep b m (addSum b ds) with
     | none => rfl
     | some s => simp; omega
    rw [e]
    exact h2
theorem impl_stepsOf_ev (b : Nat) (hb : 2 ≤ b) (hb2 : b ≤ 16) (most : Nat) (hm : most ≤ 100) (ds : List Nat) (hg : GD b ds) : Ev (fun k => impl_stepsOf.f k (ic ds) (b : Int) (most : Int)) (stepI (astep b most ds)) := by
 unfold impl_stepsOf.f
 have := impl_steps_loop b hb hb2 most hm most ds 0 (by omega) hg
 simpa using this
theorem arun_last (b : Nat) (m : Nat) : ∀ ds, ∃ pre z, arun b m ds = pre ++ [z] ∧ (∀ s, astep b m ds = some s → z.reverse = z ∧ pre.length = s) ∧ (astep b m ds = none → z.reverse ≠ z) := by
 induction m with
 | zero =>
  intro ds
  refine ⟨[], ds, rfl, ?_, ?_⟩
  ·intro s h
   simp only [astep] at h
   split at h
   ·simp at h; exact ⟨by assumption, by simpa using h⟩
   ·simp at h
  ·intro h
   simp only [astep] at h
   split at h
   ·simp at h
   ·assumption
 | succ m ih =>
  intro ds
  simp only [arun, astep]
  by_cases hs : ds.reverse = ds
  ·rw [if_pos hs, if_pos hs]
   exact ⟨[], ds, rfl, fun s h => ⟨hs, by simpa using h⟩, fun h => by simp at h⟩
  ·rw [if_neg hs, if_neg hs]
   by_cases h40 : 40 < (addSum b ds).length
   ·rw [if_pos h40, if_pos h40]
    exact ⟨[], ds, rfl, fun s h => by simp at h, fun _ => hs⟩
   ·rw [if_neg h40, if_neg h40]
    obtain ⟨pre, z, h1, h2, h3⟩ := ih (addSum b ds)
    refine ⟨ds :: pre, z, by rw [h1]; rfl, ?_, ?_⟩
    ·intro s h
     obtain ⟨t, ht, rfl⟩ := Option.map_eq_some_iff.1 h
     obtain ⟨g1, g2⟩ := h2 t ht
     exact ⟨g1, by simp [g2]⟩
    ·intro h
     exact h3 (Option.map_eq_none_iff.1 h)
theorem arun_all (b : Nat) (hb : 2 ≤ b) (hb2 : b ≤ 16) (m : Nat) : ∀ ds, GD b ds → ∀ x ∈ arun b m ds, GD b x := by
 induction m with
 | zero => intro ds h x hx; simp [arun] at hx; subst hx; exact h
 | succ m ih =>
  intro ds h x hx
  simp only [arun] at hx
  split at hx
  ·simp at hx; subst hx; exact h
  ·split at hx
   ·simp at hx; subst hx; exact h
   ·rcases List.mem_cons.1 hx with rfl | hx
    ·exact h
    ·exact ih _ (h.next hb hb2 (by omega)) x hx
theorem spec_rvSteps_ev (b : Nat) (hb : 2 ≤ b) (hb2 : b ≤ 16) (most : Nat) (hm : most ≤ 100) (ds : List Nat) (hg : GD b ds) : Ev (fun k => spec_rvSteps.f k (ic ds) (b : Int) (most : Int)) (match astep b most ds with | some s => ((s : Int), true) | none => (0, false)) := by
 unfold spec_rvSteps.f
 refine evb (spec_rvRun_ev b hb hb2 most hm ds hg) ?_
 obtain ⟨pre, z, h1, h2, h3⟩ := arun_last b most ds
 have hz := arun_all b hb hb2 most ds hg z (by rw [h1]; simp)
 have hzl := hz.h2
 have hlen := (arun_len b most ds).2
 rw [h1] at hlen ⊢
 have hl : (icr (pre ++ [z])).length = pre.length + 1 := by rw [icr_length]; simp
 have hr : rd_L2 (icr (pre ++ [z])) (pre.length : Int) = ic z := by
  have : (pre.length : Int) = ((icr pre).length : Int) := by rw [icr_length]
  rw [this, icr_append]
  exact rd_L1_at (icr pre) [] (ic z)
 simp only [List.length_append, List.length_singleton] at hlen
 rw [hl, w64o (x := ((pre.length + 1 : Nat) : Int) - 1), show ((pre.length + 1 : Nat) : Int) - 1 = (pre.length : Int) by omega, hr]
 refine evp (by omega) (evp (by omega) (evb (dgPal_ev z (by omega)) ?_))
 cases ha : astep b most ds with
 | none => exact evn (by rw [decide_eq_false (h3 ha)]; simp) (Ev.now _)
 | some s =>
  obtain ⟨g1, g2⟩ := h2 s ha
  exact evp (decide_eq_true g1) (evr (by simp only [g2]))

theorem low_byte (x : Int) : 0 ≤ Go.bits .and .u64 ((IntKind.u64.wrap x) / 1099511627776) 255 ∧ Go.bits .and .u64 ((IntKind.u64.wrap x) / 1099511627776) 255 ≤ 255 := by
 have h0 : 0 ≤ IntKind.u64.wrap x ∧ IntKind.u64.wrap x < 18446744073709551616 := by rw [IntKind.wrap_u64]; omega
 obtain ⟨y, hy⟩ := Int.eq_ofNat_of_zero_le (show 0 ≤ IntKind.u64.wrap x / 1099511627776 by omega)
 rw [hy]
 have h1 := bits_and_u64_nat y 255 (by omega) (by omega)
 have e : y &&& 255 = y % 256 := Nat.and_two_pow_sub_one_eq_mod y 8
 rw [e] at h1
 rw [show ((255 : Int)) = ((255 : Nat) : Int) from rfl, h1]
 omega
theorem next_ok (l : List Int) (hl : Bs l) (p s : Int) (h0 : 0 ≤ p) (h1 : p ≤ 1000000000000) :
  ∃ v s' : Int, spec_l1Cur_next.f l p s = some (v, p + 1, s') ∧ 0 ≤ v ∧ v ≤ 255 := by
 unfold spec_l1Cur_next.f
 rw [w64o (x := p + 1)]
 by_cases hp : p < (l.length : Int)
 ·have hm := hl _ (rd_mem l p h0 hp)
  rw [if_pos hp, if_pos h0]
  by_cases hq : p + 1 ≤ (l.length : Int)
  ·rw [if_pos hq]
   refine ⟨_, _, rfl, ?_⟩
   rw [w64 (by omega) (by omega)]
   exact hm
  ·omega
 ·rw [if_neg hp]
  by_cases hq : p + 1 ≤ (l.length : Int)
  ·omega
  ·rw [if_neg hq]
   refine ⟨_, _, rfl, ?_⟩
   have h := low_byte (IntKind.u64.wrap (IntKind.u64.wrap (s * 6364136223846793005)) + 1442695040888963407)
   rw [w64 (by omega) (by omega)]
   exact h
theorem pick_ok (l : List Int) (hl : Bs l) (p s n : Int) (h0 : 0 ≤ p) (h1 : p ≤ 999999999990) (hn : n ≤ 1000000) :
  ∃ v p' s' : Int, spec_l1Cur_pick.f l p s n = some (v, p', s') ∧ 0 ≤ v ∧ v ≤ 1000000 ∧ (v = 0 ∨ v < n) ∧ p ≤ p' ∧ p' ≤ p + 2 := by
 unfold spec_l1Cur_pick.f
 by_cases h : n ≤ 1
 ·rw [if_pos h]
  exact ⟨0, p, s, rfl, by omega, by omega, by omega, by omega, by omega⟩
 ·rw [if_neg h]
  obtain ⟨v, s1, e1, h2, h3⟩ := next_ok l hl p s h0 (by omega)
  rw [e1]
  simp only [Option.bind_some]
  by_cases h4 : n > 200
  ·rw [if_pos h4]
   obtain ⟨v2, s2, e2, h5, h6⟩ := next_ok l hl (p + 1) s1 (by omega) (by omega)
   rw [e2]
   simp only [Option.bind_some]
   rw [if_neg (by omega), w64o (x := v * 256), w64 (by omega) (by omega)]
   have h7 := Int.tmod_nonneg n (show 0 ≤ v * 256 + v2 by omega)
   have h8 := Int.tmod_lt_of_pos (v * 256 + v2) (show 0 < n by omega)
   exact ⟨_, _, _, rfl, h7, by omega, Or.inr h8, by omega, by omega⟩
  ·rw [if_neg h4, if_neg (by omega)]
   have h7 := Int.tmod_nonneg n (show 0 ≤ v by omega)
   have h8 := Int.tmod_lt_of_pos v (show 0 < n by omega)
   exact ⟨_, _, _, rfl, h7, by omega, Or.inr h8, by omega, by omega⟩
theorem among_ok (l : List Int) (hl : Bs l) (p s : Int) (m : List Int) (hm : m ≠ []) (hm2 : m.length ≤ 1000000) (h0 : 0 ≤ p) (h1 : p ≤ 999999999990) :
  ∃ v p' s' : Int, spec_l1Cur_among.f l p s m = some (v, p', s') ∧ v ∈ m ∧ p ≤ p' ∧ p' ≤ p + 2 := by
 unfold spec_l1Cur_among.f
 have hpos := List.length_pos_iff.2 hm
 obtain ⟨v, p', s', e1, h2, h3, h4, h5, h6⟩ := pick_ok l hl p s m.length h0 h1 (by omega)
 rw [e1]
 simp only [Option.bind_some]
 rw [if_pos h2, if_pos (by omega)]
 exact ⟨_, _, _, rfl, rd_mem m v h2 (by omega), h5, h6⟩

theorem base_ok (l : List Int) (hl : Bs l) (p s : Int) (h0 : 0 ≤ p) (h1 : p ≤ 999999999990) : ∃ v p' s' : Int, spec_l1Cur_base.f l p s = some (v, p', s') ∧ p ≤ p' ∧ p' ≤ p + 2 := by
 unfold spec_l1Cur_base.f
 obtain ⟨v, p', s', e, _, h2, h3⟩ := among_ok l hl p s [10, 10, 10, 2, 3, 5, 7, 16, 12, 10, 10, 16, 1, 17, 0] (by simp) (by simp) h0 h1
 rw [e]
 exact ⟨_, _, _, rfl, h2, h3⟩

theorem most_eq (a : Int) : spec_l1Most.f 1 a = some (if 1 > a then 1 else a) := by
 unfold spec_l1Most.f
 by_cases h : 1 > a
 ·rw [if_pos h, if_pos h]
 ·rw [if_neg h, if_neg h]
theorem digits_loop (l : List Int) (hl : Bs l) (b : Int) (hb : b ≤ 100) (d : Nat) : ∀ (L : List Int) (p s : Int), 0 ≤ p → p + 2 * (d : Int) ≤ 1000 → 1 ≤ L.length → L.length + d ≤ 60 →
  ∃ (R : List Int) (p' s' : Int), Ev (fun k => spec_l1Cur_digits.l0 k b L (d : Int) l p s) (R, b, p', s') ∧ R.length ≤ 60 ∧ p ≤ p' ∧ p' ≤ p + 2 * (d : Int) + 10 := by
 induction d with
 | zero =>
  intro L p s h0 h1 hL1 hL
  obtain ⟨v, p1, s1, e1, a1, _, c1, d1, f1⟩ := pick_ok l hl p s 16 h0 (by omega) (by omega)
  by_cases g0 : v = 0
  ·obtain ⟨w, p2, s2, e2, a2, _, c2, d2, f2⟩ := pick_ok l hl p1 s1 (L.length : Int) (by omega) (by omega) (by omega)
   obtain ⟨x, p3, s3, e3, _, d3, f3⟩ := among_ok l hl p2 s2 [(-1), 0, b, 4611686018427387904] (by simp) (by simp) (by omega) (by omega)
   refine ⟨L.set w.toNat x, p3, s3, evs (fun k => by rw [spec_l1Cur_digits.l0]) (evn (by omega) ?_), by simp; omega, by omega, by omega⟩
   simp only [e1, e2, e3, Option.bind_some]
   exact evp g0 (evp a2 (evp (by omega) (Ev.now _)))
  ·by_cases g1 : v = 1
   ·obtain ⟨x, p3, s3, e3, hx, d3, f3⟩ := among_ok l hl p1 s1 [0, 1, 2] (by simp) (by simp) (by omega) (by omega)
    have hx2 : 0 ≤ x ∧ x ≤ 2 := by
     simp only [List.mem_cons, List.not_mem_nil, or_false] at hx
     omega
    refine ⟨List.replicate x.toNat 0, p3, s3, evs (fun k => by rw [spec_l1Cur_digits.l0]) (evn (by omega) ?_), by simp; omega, by omega, by omega⟩
    simp only [e1, e3, Option.bind_some]
    exact evn g0 (evp g1 (evp hx2.1 (evp (by omega) (Ev.now _))))
   ·by_cases g2 : v = 2
    ·obtain ⟨w, p2, s2, e2, a2, _, c2, d2, f2⟩ := pick_ok l hl p1 s1 2 (by omega) (by omega) (by omega)
     refine ⟨(List.replicate (40 + w).toNat 0).set 0 1, p2, s2, evs (fun k => by rw [spec_l1Cur_digits.l0]) (evn (by omega) ?_), by simp; omega, by omega, by omega⟩
     simp only [e1, e2, Option.bind_some]
     rw [w64o (x := (40 : Int) + w)]
     exact evn g0 (evn g1 (evp g2 (evp (by omega) (evp (by omega) (evp (by simp; omega) (Ev.now _))))))
    ·refine ⟨L, p1, s1, evs (fun k => by rw [spec_l1Cur_digits.l0]) (evn (by omega) ?_), by omega, by omega, by omega⟩
     simp only [e1, Option.bind_some]
     exact evn g0 (evn g1 (evn g2 (Ev.now _)))
 | succ d ih =>
  intro L p s h0 h1 hL1 hL
  obtain ⟨v, p1, s1, e1, a1, _, c1, d1, f1⟩ := pick_ok l hl p s (if 1 > b then 1 else b) h0 (by omega) (by split <;> omega)
  obtain ⟨R, p2, s2, e2, g1, g2, g3⟩ := ih (L ++ [v]) p1 s1 (by omega) (by omega) (by simp) (by simp; omega)
  refine ⟨R, p2, s2, evs (fun k => by rw [spec_l1Cur_digits.l0]) (evp (by omega) ?_), g1, by omega, by omega⟩
  simp only [most_eq, e1, Option.bind_some]
  rw [w64 (x := (((d + 1 : Nat)) : Int) - 1) (by omega) (by omega), show (((d + 1 : Nat)) : Int) - 1 = (d : Int) by omega]
  exact evp (by omega) e2
theorem base_le (l : List Int) (hl : Bs l) (p s : Int) (h0 : 0 ≤ p) (h1 : p ≤ 999999999990) : ∃ v p' s' : Int, spec_l1Cur_base.f l p s = some (v, p', s') ∧ 0 ≤ v ∧ v ≤ 17 ∧ p ≤ p' ∧ p' ≤ p + 2 := by
 unfold spec_l1Cur_base.f
 obtain ⟨v, p', s', e, hm, h2, h3⟩ := among_ok l hl p s [10, 10, 10, 2, 3, 5, 7, 16, 12, 10, 10, 16, 1, 17, 0] (by simp) (by simp) h0 h1
 have hv : 0 ≤ v ∧ v ≤ 17 := by
  simp only [List.mem_cons, List.not_mem_nil, or_false] at hm
  omega
 rw [e]
 exact ⟨_, _, _, rfl, hv.1, hv.2, h2, h3⟩
theorem digits_ok (l : List Int) (hl : Bs l) (p s m : Int) (h0 : 0 ≤ p) (h1 : p ≤ 100) (hm : m ≤ 20) : ∃ (R : List Int) (b p' s' : Int), Ev (fun k => spec_l1Cur_digits.f k l p s m) (R, b, p', s') ∧ R.length ≤ 60 ∧ p ≤ p' ∧ p' ≤ p + 200 := by
 obtain ⟨b, p1, s1, e1, a1, b1, d1, f1⟩ := base_le l hl p s h0 (by omega)
 obtain ⟨v, p2, s2, e2, a2, _, c2, d2, f2⟩ := pick_ok l hl p1 s1 (if 1 > wrap64 (b - 1) then 1 else wrap64 (b - 1)) (by omega) (by omega) (by rw [w64 (by omega) (by omega)]; split <;> omega)
 obtain ⟨w, p3, s3, e3, a3, _, c3, d3, f3⟩ := pick_ok l hl p2 s2 m (by omega) (by omega) (by omega)
 obtain ⟨d, rfl⟩ := natOf (a := w) a3
 obtain ⟨R, p4, s4, e4, g1, g2, g3⟩ := digits_loop l hl b (by omega) d [wrap64 (1 + v)] p3 s3 (by omega) (by omega) (by simp) (by simp; omega)
 refine ⟨R, b, p4, s4, ?_, g1, by omega, by omega⟩
 simp only [spec_l1Cur_digits.f, e1, most_eq, e2, e3, Option.bind_some]
 exact e4
theorem one_ok (l : List Int) (hl : Bs l) (p s n : Int) (h0 : 0 ≤ p) (h1 : p ≤ 999999999990) (hn : n ≤ 1000000) : ∃ (v : Bool) (p' s' : Int), spec_l1Cur_one.f l p s n = some (v, p', s') ∧ p ≤ p' ∧ p' ≤ p + 2 := by
 obtain ⟨v1, p1, s1, e1, a1, b1, c1, d1, f1⟩ := pick_ok l hl p s n h0 h1 hn
 unfold spec_l1Cur_one.f
 rw [e1]
 exact ⟨_, _, _, rfl, d1, f1⟩
theorem spec_dgOf_loop (b : Nat) (hb : 2 ≤ b) (n : Nat) : ∀ acc : List Nat, acc.length + (low b n).length ≤ 1000000 → n ≤ 1000000000001 → Ev (fun k => spec_dgOf.l0 k (n : Int) (b : Int) (ic acc)) (ic ((low b n).reverse ++ acc)) := by
 induction n using Nat.strongRecOn with
 | _ n ih =>
  intro acc hl hn
  refine evs (fun k => by rw [spec_dgOf.l0]) ?_
  by_cases h : n = 0
  ·subst h
   exact evn (by omega) (evr (by simp [low_zero]))
  ·have hlt : n / b < n := Nat.div_lt_self (by omega) (by omega)
   rw [low_succ hb (by omega), List.length_cons] at hl
   have h2 := ih (n / b) hlt (n % b :: acc) (by simp only [List.length_cons]; omega) (by omega)
   rw [tmod_cast, tdiv_cast, w64n (n / b) (by omega), low_succ hb (by omega)]
   refine evp (by omega) (evn (by omega) ?_)
   simp only [Option.bind_some]
   refine evp (by simp only [List.length_cons, List.length_nil, ic_length]; omega) ?_
   simpa [ic] using h2
theorem spec_dgOf_ev1 (b n : Nat) (hb : 2 ≤ b) (hn : n ≤ 1000000000001) : Ev (fun k => spec_dgOf.f k (n : Int) (b : Int)) (ic (dgl b n)) := by
 unfold spec_dgOf.f
 by_cases h : n = 0
 ·subst h
  exact evp (by omega) (evr (by simp [dgl, ic]))
 ·have hl := low_len hb 40 n (by omega)
  have h2 := spec_dgOf_loop b hb n [] (by simp; omega) hn
  unfold dgl
  rw [if_neg h]
  exact evn (by omega) (by simpa [ic] using h2)
theorem impl_digitsOf_loop (b : Nat) (hb : 2 ≤ b) (n : Nat) : ∀ acc : List Nat, acc.length + (low b n).length ≤ 1000000 → n ≤ 1000000000001 → Ev (fun k => impl_digitsOf.l0 k (n : Int) (b : Int) (ic acc)) (ic (acc ++ low b n).reverse) := by
 induction n using Nat.strongRecOn with
 | _ n ih =>
  intro acc hl hn
  refine evs (fun k => by rw [impl_digitsOf.l0]) ?_
  by_cases h : n = 0
  ·subst h
   refine evn (by omega) (evb (reverse_ev (ic acc) (by rw [ic_length]; omega)) (evr ?_))
   rw [low_zero, List.append_nil, ic_reverse]
  ·have hlt : n / b < n := Nat.div_lt_self (by omega) (by omega)
   rw [low_succ hb (by omega), List.length_cons] at hl
   have h2 := ih (n / b) hlt (acc ++ [n % b]) (by simp only [List.length_append, List.length_cons, List.length_nil]; omega) (by omega)
   rw [tmod_cast, tdiv_cast, w64n (n / b) (by omega), low_succ hb (by omega)]
   refine evp (by omega) (evn (by omega) (evp (by rw [ic_length]; omega) ?_))
   rw [ic_append, List.append_assoc] at h2
   simpa [ic] using h2
theorem impl_digitsOf_ev1 (b n : Nat) (hb : 2 ≤ b) (hn : n ≤ 1000000000001) : Ev (fun k => impl_digitsOf.f k (n : Int) (b : Int)) (ic (dgl b n)) := by
 unfold impl_digitsOf.f
 have hdv : n / b ≤ n := Nat.div_le_self _ _
 have hl := low_len hb 40 (n / b) (by omega)
 have h2 := impl_digitsOf_loop b hb (n / b) [n % b] (by simp only [List.length_cons, List.length_nil]; omega) (by omega)
 rw [tmod_cast, tdiv_cast, w64n (n / b) (by omega)]
 refine evn (by omega) ?_
 unfold dgl
 by_cases h : n = 0
 ·subst h
  rw [if_pos rfl]
  rw [Nat.zero_div, low_zero] at h2
  simpa [ic, Nat.zero_mod] using h2
 ·rw [if_neg h, low_succ hb (by omega)]
  simpa [ic] using h2
theorem spec_dgOf_ev (b n : Nat) (hb : 2 ≤ b) (hn : n ≤ 1000000000000) : Ev (fun k => spec_dgOf.f k (n : Int) (b : Int)) (ic (dgl b n)) := spec_dgOf_ev1 b n hb (by omega)
theorem impl_digitsOf_ev (b n : Nat) (hb : 2 ≤ b) (hn : n ≤ 1000000000000) : Ev (fun k => impl_digitsOf.f k (n : Int) (b : Int)) (ic (dgl b n)) := impl_digitsOf_ev1 b n hb (by omega)

theorem impl_pow_loop2 (d p : Nat) (hd : 1 ≤ d) (h : d ^ p ≤ 1000000000000000000) (hp : p ≤ 1000) (e : Nat) : ∀ i : Nat, i + e = p → Ev (fun k => impl_toPower.l0 k (d : Int) ((d ^ i : Nat) : Int) (p : Int) (i : Int)) ((d ^ p : Nat) : Int) := by
 induction e with
 | zero =>
  intro i hi
  have : i = p := by omega
  subst this
  refine evs (fun k => by rw [impl_toPower.l0]) ?_
  exact evn (by omega) (Ev.now _)
 | succ e ih =>
  intro i hi
  have h1 : d ^ (i + 1) ≤ d ^ p := Nat.pow_le_pow_right hd (by omega)
  have h2 := ih (i + 1) (by omega)
  rw [show ((i + 1 : Nat) : Int) = (i : Int) + 1 by omega] at h2
  refine evs (fun k => by rw [impl_toPower.l0]) ?_
  rw [w64o (x := (i : Int) + 1), show ((d ^ i : Nat) : Int) * (d : Int) = ((d ^ (i + 1) : Nat) : Int) by rw [Nat.pow_succ, Int.natCast_mul], w64n _ (by omega)]
  exact evp (by omega) h2
theorem impl_toPower_big (d p : Nat) (hd : 1 ≤ d) (h : d ^ p ≤ 1000000000000000000) (hp : p ≤ 1000) : Ev (fun k => impl_toPower.f k (d : Int) (p : Int)) ((d ^ p : Nat) : Int) := by
 unfold impl_toPower.f
 have := impl_pow_loop2 d p hd h hp p 0 (by omega)
 simpa using this
def nev (k : Nat) : List Nat := [1, 0] ++ List.replicate k 1 ++ [0, 1] ++ List.replicate k 0
theorem nev_len (k : Nat) : (nev k).length = 2 * k + 4 := by simp [nev]; omega
def nevOk (k : Nat) : Bool := decide ((nev k).reverse ≠ nev k) && decide ((addSum 2 (nev k)).length ≤ 40) && decide ((addSum 2 (nev k)).reverse ≠ addSum 2 (nev k)) && decide ((addSum 2 (addSum 2 (nev k))).length ≤ 40) && decide ((addSum 2 (addSum 2 (nev k))).reverse ≠ addSum 2 (addSum 2 (nev k))) && decide ((addSum 2 (addSum 2 (addSum 2 (nev k)))).length ≤ 40) && decide ((addSum 2 (addSum 2 (addSum 2 (nev k)))).reverse ≠ addSum 2 (addSum 2 (addSum 2 (nev k)))) && decide (addSum 2 (addSum 2 (addSum 2 (addSum 2 (nev k)))) = nev (k + 1))
theorem nev_tab : ∀ k, k < 18 → 2 ≤ k → nevOk k = true := by decide +kernel
theorem nev_gd (k : Nat) (hk : k ≤ 18) : GD 2 (nev k) := by
 refine ⟨by rw [nev_len]; omega, by rw [nev_len]; omega, fun d hd => ?_, .inl (by simp [nev])⟩
 simp only [nev, List.mem_append, List.mem_cons, List.not_mem_nil, or_false, List.mem_replicate] at hd
 omega
theorem ic_nev (k : Nat) : ic (nev k) = [1, 0] ++ List.replicate k 1 ++ [0, 1] ++ List.replicate k 0 := by simp [ic, nev]
theorem impl_nev_ev (k : Nat) : impl_NeverWord.f (k : Int) = some (if 2 ≤ k ∧ k ≤ 17 then (ic (nev k), true) else ([], false)) := by
 unfold impl_NeverWord.f
 rw [impl_in_eq, Option.bind_some]
 by_cases h : 2 ≤ k ∧ k ≤ 17
 ·rw [if_pos h, if_pos (decide_eq_true (by omega))]
  have r1 : slices_Repeat_int_int.f [1] (k : Int) = some (List.replicate k 1) := by
   unfold slices_Repeat_int_int.f
   rw [if_pos (show ([1] : List Int).length = 1 from rfl), if_pos (by omega), Int.toNat_natCast]
   rfl
  have e : ([[1, 0], List.replicate k 1, [0, 1], List.replicate k 0] : List (List Int)).flatten = ic (nev k) := by rw [ic_nev]; simp
  have r3 : slices_Concat_int_int.f [[1, 0], List.replicate k 1, [0, 1], List.replicate k 0] = some (ic (nev k)) := by
   unfold slices_Concat_int_int.f
   rw [e, if_pos (by rw [ic_length, nev_len]; omega)]
  rw [r1, Option.bind_some, if_pos (by omega), if_pos (by omega), Int.toNat_natCast, r3]
  rfl
 ·rw [if_neg h, if_neg (by rw [decide_eq_false (by omega)]; simp)]
theorem spec_nev_l1 (K : Nat) (hK : K ≤ 1000) (r : Nat) : ∀ (i : Nat) (L : List Int), i + r = K → L.length ≤ 1000000 - r → Ev (fun k => spec_NeverWord.l1 k (K : Int) L (i : Int)) (L ++ List.replicate r 0, true) := by
 induction r with
 | zero =>
  intro i L hi hl
  refine evs (fun k => by rw [spec_NeverWord.l1]) ?_
  exact evn (by omega) (evr (by simp))
 | succ r ih =>
  intro i L hi hl
  have h := ih (i + 1) (L ++ [0]) (by omega) (by simp; omega)
  refine evs (fun k => by rw [spec_NeverWord.l1]) ?_
  rw [w64o (x := (i : Int) + 1), show (i : Int) + 1 = ((i + 1 : Nat) : Int) by omega]
  refine evp (by omega) (evp (by omega) ?_)
  have e : L ++ [0] ++ List.replicate r (0 : Int) = L ++ List.replicate (r + 1) 0 := by rw [List.replicate_succ]; simp
  rw [e] at h
  exact h
theorem spec_nev_l0 (K : Nat) (hK : K ≤ 1000) (r : Nat) : ∀ (i : Nat) (L : List Int), i + r = K → L.length ≤ 100000 - r → Ev (fun k => spec_NeverWord.l0 k (K : Int) L (i : Int)) (L ++ List.replicate r 1 ++ [0, 1] ++ List.replicate K 0, true) := by
 induction r with
 | zero =>
  intro i L hi hl
  refine evs (fun k => by rw [spec_NeverWord.l0]) ?_
  refine evn (by omega) (evc rfl (evp (by simp; omega) ?_))
  have := spec_nev_l1 K hK K 0 (L ++ [0, 1]) (by omega) (by simp; omega)
  simpa using this
 | succ r ih =>
  intro i L hi hl
  have h := ih (i + 1) (L ++ [1]) (by omega) (by simp; omega)
  refine evs (fun k => by rw [spec_NeverWord.l0]) ?_
  rw [w64o (x := (i : Int) + 1), show (i : Int) + 1 = ((i + 1 : Nat) : Int) by omega]
  refine evp (by omega) (evp (by omega) ?_)
  have e : L ++ [1] ++ List.replicate r (1 : Int) = L ++ List.replicate (r + 1) 1 := by rw [List.replicate_succ]; simp
  rw [e] at h
  exact h
theorem spec_nev_ev (K : Nat) : Ev (fun k => spec_NeverWord.f k (K : Int)) (if 2 ≤ K ∧ K ≤ 17 then (ic (nev K), true) else ([], false)) := by
 unfold spec_NeverWord.f
 refine evc (spec_l1In_eq _ 2 17) ?_
 by_cases h : 2 ≤ K ∧ K ≤ 17
 ·rw [if_pos h, ic_nev]
  exact evp (decide_eq_true (by omega)) (spec_nev_l0 K (by omega) K 0 [1, 0] (by omega) (by simp; omega))
 ·rw [if_neg h]
  exact evn (by rw [decide_eq_false (by omega)]; simp) (Ev.now _)
theorem isSymmetric_ev (b : Nat) (hb : 2 ≤ b) (hb2 : b ≤ 16) (ds : List Nat) (h : GD b ds) : Ev (fun k => impl_IsSymmetric.f k (ic ds) (b : Int)) (decide (ds.reverse = ds), true) := by
 have := h.h2
 unfold impl_IsSymmetric.f
 exact evc (impl_isLong_eq _ _) (evp (h.gd hb hb2) (evb (isSym_ev ds (by omega)) (Ev.now _)))
theorem addRev_ev (b : Nat) (hb : 2 ≤ b) (hb2 : b ≤ 16) (ds : List Nat) (h : GD b ds) (h40 : (addSum b ds).length ≤ 40) : Ev (fun k => impl_AddReversed.f k (ic ds) (b : Int)) (ic (addSum b ds), true) := by
 unfold impl_AddReversed.f
 exact evc (impl_isLong_eq _ _) (evp (h.gd hb hb2) (evb (summed_ev ds b hb hb2 h.h2 h.hd) (evn (by simp only [ic_length]; omega) (Ev.now _))))
theorem l3_step (K : Nat) (ds : List Nat) (i : Nat) (hi : i < 4) (h : GD 2 ds) (hs : ds.reverse ≠ ds) (h40 : (addSum 2 ds).length ≤ 40) (hn : Ev (fun k => laws_FnRunsToSymmetric.l3 k (K : Int) (ic (addSum 2 ds)) ((i + 1 : Nat) : Int)) true) : Ev (fun k => laws_FnRunsToSymmetric.l3 k (K : Int) (ic ds) (i : Int)) true := by
 have h1 := isSymmetric_ev 2 (by omega) (by omega) ds h
 have h2 := addRev_ev 2 (by omega) (by omega) ds h h40
 rw [decide_eq_false hs] at h1
 refine evs (fun k => by rw [laws_FnRunsToSymmetric.l3]) ?_
 rw [w64o (x := (i : Int) + 1), show (i : Int) + 1 = ((i + 1 : Nat) : Int) by omega]
 exact evp (by omega) (evb h1 (evb h2 (evp rfl (evn (by simp) (evp rfl hn)))))
theorem j7_ok (l : List Int) (hl : Bs l) : Ev (fun k => laws_FnRunsToSymmetric.j7 k l) true := by
 obtain ⟨v, p, s, e, a1, _, c1, _, _⟩ := pick_ok l hl 0 0 20 (by omega) (by omega) (by omega)
 obtain ⟨K, rfl⟩ := natOf a1
 have ed : spec_DrawNeverWord.f l = some (K : Int) := by
  unfold spec_DrawNeverWord.f
  rw [e]
  rfl
 refine evs (fun k => by rw [laws_FnRunsToSymmetric.j7]) ?_
 refine evc ed (evc (impl_nev_ev K) (evb (spec_nev_ev K) ?_))
 by_cases h : 2 ≤ K ∧ K ≤ 17
 ·rw [if_pos h]
  refine evn (by simp) (evb (laws_qSame_self _ (by simp only [ic_length, nev_len]; omega)) ?_)
  refine evs (fun k => by rw [laws_FnRunsToSymmetric.j8]) ?_
  refine evn (by simp) (evp rfl ?_)
  have ht := nev_tab K (by omega) h.1
  simp only [nevOk, Bool.and_eq_true, decide_eq_true_eq] at ht
  obtain ⟨⟨⟨⟨⟨⟨⟨t0, t1⟩, t2⟩, t3⟩, t4⟩, t5⟩, t6⟩, t7⟩ := ht
  have g0 := nev_gd K (by omega)
  have g1 := g0.next (by omega) (by omega) t1
  have g2 := g1.next (by omega) (by omega) t3
  have g3 := g2.next (by omega) (by omega) t5
  have t8 : (addSum 2 (addSum 2 (addSum 2 (addSum 2 (nev K))))).length ≤ 40 := by rw [t7, nev_len]; omega
  refine l3_step K (nev K) 0 (by omega) g0 t0 t1 (l3_step K _ 1 (by omega) g1 t2 t3 (l3_step K _ 2 (by omega) g2 t4 t5 (l3_step K _ 3 (by omega) g3 t6 t8 ?_)))
  rw [t7]
  refine evs (fun k => by rw [laws_FnRunsToSymmetric.l3]) ?_
  refine evn (by omega) ?_
  rw [w64o (x := (K : Int) + 1), show (K : Int) + 1 = ((K + 1 : Nat) : Int) by omega]
  refine evc (impl_nev_ev (K + 1)) ?_
  by_cases h2 : 2 ≤ K + 1 ∧ K + 1 ≤ 17
  ·rw [if_pos h2]
   exact evp rfl (evb (laws_qSame_self _ (by rw [ic_length, nev_len]; omega)) (Ev.now _))
  ·rw [if_neg h2]
   exact evn (by simp) (Ev.now _)
 ·rw [if_neg h]
  refine evn (by simp) (evb (laws_qSame_self _ (by simp)) ?_)
  refine evs (fun k => by rw [laws_FnRunsToSymmetric.j8]) ?_
  exact evn (by simp) (evn (by simp) (Ev.now _))
/-! The run of the law. -/
theorem arun_at (b : Nat) (m : Nat) : ∀ (ds : List Nat) (i : Nat) (x : List Nat), (arun b m ds)[i]? = some x → (x.reverse = x ↔ astep b m ds = some i) ∧ ∀ y, (arun b m ds)[i + 1]? = some y → y = addSum b x ∧ y.length ≤ 40 := by
 induction m with
 | zero =>
  intro ds i x h
  simp only [arun] at h ⊢
  cases i with
  | zero =>
   simp at h
   subst h
   simp [astep]
  | succ i => simp at h
 | succ m ih =>
  intro ds i x h
  simp only [arun, astep] at h ⊢
  by_cases hs : ds.reverse = ds
  ·rw [if_pos hs] at h ⊢
   rw [if_pos hs]
   cases i with
   | zero =>
    simp at h
    subst h
    simp [hs]
   | succ i => simp at h
  ·rw [if_neg hs] at h ⊢
   rw [if_neg hs]
   by_cases h40 : 40 < (addSum b ds).length
   ·rw [if_pos h40] at h ⊢
    rw [if_pos h40]
    cases i with
    | zero =>
     simp at h
     subst h
     simp [hs]
    | succ i => simp at h
   ·rw [if_neg h40] at h ⊢
    rw [if_neg h40]
    cases i with
    | zero =>
     simp at h
     subst h
     refine ⟨⟨fun h => absurd h hs, fun h => ?_⟩, fun y hy => ?_⟩
     ·obtain ⟨t, _, ht⟩ := Option.map_eq_some_iff.1 h
      omega
     ·rw [List.getElem?_cons_succ] at hy
      obtain ⟨post, hp⟩ := arun_head b m (addSum b ds)
      rw [hp] at hy
      simp at hy
      subst hy
      exact ⟨rfl, by omega⟩
    | succ i =>
     rw [List.getElem?_cons_succ] at h
     obtain ⟨g1, g2⟩ := ih (addSum b ds) i x h
     refine ⟨?_, fun y hy => g2 y (by rwa [List.getElem?_cons_succ] at hy)⟩
     rw [g1]
     cases astep b m (addSum b ds) with
     | none => simp
     | some s => simp
theorem astep_len (b m : Nat) (ds : List Nat) (s : Nat) (h : astep b m ds = some s) : (arun b m ds).length = s + 1 ∧ s ≤ m := by
 obtain ⟨pre, z, h1, h2, _⟩ := arun_last b m ds
 have h3 := (h2 s h).2
 have h4 := (arun_len b m ds).2
 have h5 : (arun b m ds).length = s + 1 := by rw [h1, List.length_append, h3]; rfl
 exact ⟨h5, by omega⟩
theorem stepI_mx (o : Option Nat) : mx (stepI o) 0 = ((o.getD 0 : Nat) : Int) ∧ decide (stepI o ≥ 0) = o.isSome := by
 cases o with
 | none => decide
 | some s => exact ⟨by simp [stepI, mx]; try omega, by simp [stepI]⟩
theorem l0_ok (l : List Int) (h3 : Ev (fun k => laws_FnRunsToSymmetric.j3 k l) true) (b : Nat) (hb : 2 ≤ b) (hb2 : b ≤ 16) (R : List (List Nat)) (S : Option Nat) (hR : ∀ x ∈ R, GD b x) (hl : R.length ≤ 101)
  (hat : ∀ i x, R[i]? = some x → (x.reverse = x ↔ S = some i) ∧ ∀ y, R[i + 1]? = some y → y = addSum b x ∧ y.length ≤ 40) (hS : ∀ s, S = some s → R.length = s + 1) (r : Nat) : ∀ i, i + r = R.length →
  Ev (fun k => laws_FnRunsToSymmetric.l0 k l (b : Int) (icr R) ((S.getD 0 : Nat) : Int) S.isSome (icr R) ((icr R).length : Int) (i : Int)) true := by
 have hlen : (icr R).length = R.length := icr_length R
 have hrd : ∀ i (h : i < R.length), rd_L2 (icr R) (i : Int) = ic R[i] := by
  intro i h
  simp [rd_L2, icr, h]
 induction r with
 | zero =>
  intro i hi
  refine evs (fun k => by rw [laws_FnRunsToSymmetric.l0]) ?_
  refine evn (by omega) ?_
  cases S with
  | none => exact evn (by simp) h3
  | some s =>
   have := hS s rfl
   refine evp rfl (evp ?_ h3)
   rw [w64 (by simp; omega) (by simp; omega), hlen]
   simp
   omega
 | succ r ih =>
  intro i hi
  have hi2 : i < R.length := by omega
  have hx : R[i]? = some R[i] := List.getElem?_eq_getElem hi2
  obtain ⟨a1, a2⟩ := hat i _ hx
  have hg := hR _ (List.getElem_mem hi2)
  have hsym := isSymmetric_ev b hb hb2 R[i] hg
  have hj : Ev (fun k => laws_FnRunsToSymmetric.j2 k l (b : Int) (icr R) ((S.getD 0 : Nat) : Int) S.isSome (i : Int) (ic R[i]) (icr R) ((icr R).length : Int) (i : Int) false) true := by
   have hn := ih (i + 1) (by omega)
   refine evs (fun k => by rw [laws_FnRunsToSymmetric.j2]) ?_
   rw [w64o (x := (i : Int) + 1), show (i : Int) + 1 = ((i + 1 : Nat) : Int) by omega]
   refine evn (by simp) ?_
   by_cases h : i + 1 < R.length
   ·obtain ⟨c1, c2⟩ := a2 R[i + 1] (List.getElem?_eq_getElem h)
    have hadd := addRev_ev b hb hb2 R[i] hg (by rw [← c1]; exact c2)
    rw [hrd (i + 1) h, c1]
    exact evp (by omega) (evb hadd (evp rfl (evp (by omega) (evb (laws_qSame_self _ (by rw [ic_length, ← c1]; omega)) (evp rfl hn)))))
   ·exact evn (by omega) hn
  refine evs (fun k => by rw [laws_FnRunsToSymmetric.l0]) ?_
  rw [hrd i hi2]
  refine evp (by omega) (evp (by omega) (evp (by omega) (evb hsym (evp rfl ?_))))
  cases S with
  | none =>
   have e : (decide (R[i].reverse = R[i]) != false) = false := by
    rw [decide_eq_false (fun h => by simpa using a1.1 h)]
    rfl
   refine evn (by simp) ?_
   simp only [e]
   exact hj
  | some s =>
   have e : (decide (R[i].reverse = R[i]) != ((i : Int) == ((((some s).getD 0 : Nat)) : Int))) = false := by
    by_cases h : s = i
    ·subst h
     rw [decide_eq_true (a1.2 rfl)]
     simp
    ·rw [decide_eq_false (fun h2 => h (by simpa using a1.1 h2))]
     simp
     omega
   refine evp rfl ?_
   simp only [e]
   exact hj
/-! Numbers of a width. -/
theorem low_last {b : Nat} (hb : 2 ≤ b) (n : Nat) : 1 ≤ n → 0 < (low b n).getLastD 0 := by
 induction n using Nat.strongRecOn with
 | ind n ih =>
  intro hn
  rw [low_succ hb hn]
  by_cases h : n / b = 0
  ·rw [h, low_zero]
   have : n % b = n := Nat.mod_eq_of_lt ((Nat.div_eq_zero_iff_lt (by omega)).1 h)
   simp [this]
   omega
  ·have h1 := ih (n / b) (Nat.div_lt_self (by omega) (by omega)) (Nat.pos_of_ne_zero h)
   have h2 : low b (n / b) ≠ [] := fun e => by rw [e] at h1; simp at h1
   obtain ⟨y, t, e⟩ := List.exists_cons_of_ne_nil h2
   rw [e] at h1 ⊢
   simpa using h1
theorem dgl_gd {b : Nat} (hb : 2 ≤ b) (n : Nat) (hn : 1 ≤ n) (h : n ≤ 1000000) : GD b (dgl b n) := by
 obtain ⟨h1, h2⟩ := dgl_len hb n (by omega)
 refine ⟨h1, h2, dgl_lt hb n, .inl ?_⟩
 have := low_last hb n hn
 unfold dgl
 rw [if_neg (by omega)]
 rw [List.getLastD_eq_getLast?, List.getLast?_eq_head?_reverse] at this
 rw [List.getD_eq_getElem?_getD, ← List.head?_eq_getElem?]
 exact this
def stn (b most n : Nat) : Option Nat := astep b most (dgl b n)
def stx (b most n : Nat) : Nat := match stn b most n with | some s => s | none => most + 1
theorem stx_le (b most n : Nat) : stx b most n ≤ most + 1 := by
 unfold stx
 cases h : stn b most n with
 | none => exact Nat.le_refl _
 | some s => have := (astep_len b most _ s h).2; simp only; omega
theorem set_up (A : List Nat) (i x : Nat) (hi : i < A.length) (hx : lsum A ≤ x) (hx2 : x ≤ 1000000) : (ic A).set ((i : Nat) : Int).toNat (wrap64 (rd (ic A) (i : Int) + 1)) = ic (A.set i (A.getD i 0 + 1)) ∧ lsum (A.set i (A.getD i 0 + 1)) ≤ x + 1 := by
 have h1 := lsum_ge A i
 have h2 := lsum_set A i (A.getD i 0 + 1) hi
 refine ⟨?_, by omega⟩
 rw [ic_rdD, w64 (by omega) (by omega), Int.toNat_natCast, show ((A.getD i 0 : Nat) : Int) + 1 = ((A.getD i 0 + 1 : Nat) : Int) by omega, ic_set]
theorem impl_spread_loop (b : Nat) (hb : 2 ≤ b) (hb2 : b ≤ 16) (w most : Nat) (hm : most ≤ 100) (hw : w ≤ 1000) (hp : b ^ w ≤ 1000000) (r : Nat) : ∀ (x : Nat) (A : List Nat), 1 ≤ x → x + r = b ^ w → A.length = most + 2 → lsum A ≤ x →
  Ev (fun k => impl_StepsSpread.l0 k (w : Int) (b : Int) (most : Int) (ic A) (x : Int)) (ic (cntl A ((List.range' x r).map (stx b most))), true) := by
 induction r with
 | zero =>
  intro x A h1 hx hA hs
  refine evs (fun k => by rw [impl_StepsSpread.l0]) ?_
  exact evb (impl_toPower_big b w (by omega) (by omega) hw) (evn (by omega) (evr (by simp [cntl])))
 | succ r ih =>
  intro x A h1 hx hA hs
  have hle := stx_le b most x
  obtain ⟨e1, e2⟩ := set_up A (stx b most x) x (by omega) hs (by omega)
  have hn := ih (x + 1) (A.set (stx b most x) (A.getD (stx b most x) 0 + 1)) (by omega) (by omega) (by simpa using hA) e2
  have hg := dgl_gd hb x h1 (by omega)
  refine evs (fun k => by rw [impl_StepsSpread.l0]) ?_
  refine evb (impl_toPower_big b w (by omega) (by omega) hw) (evp (by omega) (evb (impl_digitsOf_ev b x hb (by omega)) (evb (impl_stepsOf_ev b hb hb2 most hm _ hg) ?_)))
  rw [w64o (x := (x : Int) + 1), show (x : Int) + 1 = ((x + 1 : Nat) : Int) by omega]
  rw [← e1] at hn
  rw [List.range'_succ, List.map_cons]
  simp only [cntl]
  cases h : astep b most (dgl b x) with
  | none =>
   have e : stx b most x = most + 1 := by unfold stx stn; rw [h]
   rw [e] at hn ⊢
   rw [w64o (x := (most : Int) + 1), show (most : Int) + 1 = ((most + 1 : Nat) : Int) by omega]
   exact evp (by simp [stepI]) (evp (by omega) (evp (by rw [ic_length, hA]; omega) hn))
  | some s =>
   have e : stx b most x = s := by unfold stx stn; rw [h]
   rw [e] at hn hle ⊢
   exact evn (by simp only [stepI]; omega) (evp (by simp only [stepI]; omega) (evp (by rw [ic_length, hA]; simp only [stepI]; omega) hn))
theorem spec_spread_loop (b : Nat) (hb : 2 ≤ b) (hb2 : b ≤ 16) (lo n most : Nat) (hm : most ≤ 100) (hp : lo + n ≤ 1000000) (r : Nat) : ∀ (x : Nat) (A : List Nat), 1 ≤ x → x + r = lo + n → A.length = most + 2 → lsum A ≤ x →
  Ev (fun k => spec_StepsSpread.l0 k (b : Int) (most : Int) (lo : Int) (n : Int) (ic A) (x : Int)) (ic (cntl A ((List.range' x r).map (stx b most))), true) := by
 induction r with
 | zero =>
  intro x A h1 hx hA hs
  refine evs (fun k => by rw [spec_StepsSpread.l0]) ?_
  rw [w64o (x := (lo : Int) + n)]
  exact evn (by omega) (evr (by simp [cntl]))
 | succ r ih =>
  intro x A h1 hx hA hs
  have hle := stx_le b most x
  obtain ⟨e1, e2⟩ := set_up A (stx b most x) x (by omega) hs (by omega)
  have hn := ih (x + 1) (A.set (stx b most x) (A.getD (stx b most x) 0 + 1)) (by omega) (by omega) (by simpa using hA) e2
  have hg := dgl_gd hb x h1 (by omega)
  refine evs (fun k => by rw [spec_StepsSpread.l0]) ?_
  rw [w64o (x := (lo : Int) + n)]
  refine evp (by omega) (evb (spec_dgOf_ev b x hb (by omega)) (evb (spec_rvSteps_ev b hb hb2 most hm _ hg) ?_))
  rw [w64o (x := (x : Int) + 1), show (x : Int) + 1 = ((x + 1 : Nat) : Int) by omega]
  rw [← e1] at hn
  rw [List.range'_succ, List.map_cons]
  simp only [cntl]
  cases h : astep b most (dgl b x) with
  | none =>
   have e : stx b most x = most + 1 := by unfold stx stn; rw [h]
   rw [e] at hn ⊢
   rw [w64o (x := (most : Int) + 1), show (most : Int) + 1 = ((most + 1 : Nat) : Int) by omega]
   exact evn (by simp) (evp (by omega) (evp (by rw [ic_length, hA]; omega) hn))
  | some s =>
   have e : stx b most x = s := by unfold stx stn; rw [h]
   rw [e] at hn hle ⊢
   exact evp rfl (evp (by simp only; omega) (evp (by rw [ic_length, hA]; simp only; omega) hn))
def slw (b most : Nat) : List Nat → Nat → Int → Nat × Int
 | [], v, t => (v, t)
 | n :: l, v, t => if stepI (stn b most n) > t then slw b most l n (stepI (stn b most n)) else slw b most l v t
theorem stepI_ge (o : Option Nat) : -1 ≤ stepI o := by cases o <;> simp [stepI] <;> omega
theorem slw_facts (b most : Nat) (l : List Nat) : ∀ (v : Nat) (t : Int), -1 ≤ t → (t < 0 → v = 0) → -1 ≤ (slw b most l v t).2 ∧ ((slw b most l v t).2 < 0 → (slw b most l v t).1 = 0) ∧ t ≤ (slw b most l v t).2 ∧ (∀ n ∈ l, stepI (stn b most n) ≤ (slw b most l v t).2) ∧ ((slw b most l v t).2 = t ∨ ∃ n ∈ l, stepI (stn b most n) = (slw b most l v t).2) := by
 induction l with
 | nil => intro v t h1 h2; exact ⟨h1, h2, Int.le_refl _, by simp, .inl rfl⟩
 | cons n l ih =>
  intro v t h1 h2
  simp only [slw]
  split
  ·next h =>
   obtain ⟨a1, a2, a3, a4, a5⟩ := ih n (stepI (stn b most n)) (stepI_ge _) (fun h => by omega)
   refine ⟨a1, a2, by omega, fun m hm => ?_, ?_⟩
   ·rcases List.mem_cons.1 hm with rfl | hm
    ·exact a3
    ·exact a4 m hm
   ·rcases a5 with a5 | ⟨m, hm, e⟩
    ·exact .inr ⟨n, by simp, a5.symm⟩
    ·exact .inr ⟨m, by simp [hm], e⟩
  ·next h =>
   obtain ⟨a1, a2, a3, a4, a5⟩ := ih v t h1 h2
   refine ⟨a1, a2, a3, fun m hm => ?_, ?_⟩
   ·rcases List.mem_cons.1 hm with rfl | hm
    ·omega
    ·exact a4 m hm
   ·rcases a5 with a5 | ⟨m, hm, e⟩
    ·exact .inl a5
    ·exact .inr ⟨m, by simp [hm], e⟩
theorem impl_slow_loop (b : Nat) (hb : 2 ≤ b) (hb2 : b ≤ 16) (w most : Nat) (hm : most ≤ 100) (hw : w ≤ 1000) (hp : b ^ w ≤ 1000000) (r : Nat) : ∀ (x v : Nat) (t : Int), 1 ≤ x → x + r = b ^ w →
  Ev (fun k => impl_SlowestNumber.l0 k (w : Int) (b : Int) (most : Int) (v : Int) t (x : Int)) (((slw b most (List.range' x r) v t).1 : Int), mx (slw b most (List.range' x r) v t).2 0, decide ((slw b most (List.range' x r) v t).2 ≥ 0)) := by
 induction r with
 | zero =>
  intro x v t h1 hx
  refine evs (fun k => by rw [impl_SlowestNumber.l0]) ?_
  exact evb (impl_toPower_big b w (by omega) (by omega) hw) (evn (by omega) (evr rfl))
 | succ r ih =>
  intro x v t h1 hx
  have hg := dgl_gd hb x h1 (by omega)
  refine evs (fun k => by rw [impl_SlowestNumber.l0]) ?_
  refine evb (impl_toPower_big b w (by omega) (by omega) hw) (evp (by omega) (evb (impl_digitsOf_ev b x hb (by omega)) (evb (impl_stepsOf_ev b hb hb2 most hm _ hg) ?_)))
  rw [w64o (x := (x : Int) + 1), show (x : Int) + 1 = ((x + 1 : Nat) : Int) by omega]
  by_cases h : stepI (stn b most x) > t
  ·have es : slw b most (List.range' x (r + 1)) v t = slw b most (List.range' (x + 1) r) x (stepI (stn b most x)) := by rw [List.range'_succ]; simp only [slw]; rw [if_pos h]
   rw [es]
   exact evp h (ih (x + 1) x _ (by omega) (by omega))
  ·have es : slw b most (List.range' x (r + 1)) v t = slw b most (List.range' (x + 1) r) v t := by rw [List.range'_succ]; simp only [slw]; rw [if_neg h]
   rw [es]
   exact evn h (ih (x + 1) v t (by omega) (by omega))
theorem spec_slow_loop (b : Nat) (hb : 2 ≤ b) (hb2 : b ≤ 16) (lo n most : Nat) (hm : most ≤ 100) (hp : lo + n ≤ 1000000) (r : Nat) : ∀ (x v : Nat) (t : Int), 1 ≤ x → -1 ≤ t → x + r = lo + n →
  Ev (fun k => spec_SlowestNumber.l0 k (b : Int) (most : Int) (lo : Int) (n : Int) (v : Int) t (x : Int)) (if (slw b most (List.range' x r) v t).2 < 0 then (0, 0, false) else (((slw b most (List.range' x r) v t).1 : Int), (slw b most (List.range' x r) v t).2, true)) := by
 induction r with
 | zero =>
  intro x v t h1 ht hx
  refine evs (fun k => by rw [spec_SlowestNumber.l0]) ?_
  rw [w64o (x := (lo : Int) + n)]
  refine evn (by omega) ?_
  simp only [List.range'_zero, slw]
  by_cases h : t < 0
  ·rw [if_pos h, if_pos h]
   exact Ev.now _
  ·rw [if_neg h, if_neg h]
   exact Ev.now _
 | succ r ih =>
  intro x v t h1 ht hx
  have hg := dgl_gd hb x h1 (by omega)
  refine evs (fun k => by rw [spec_SlowestNumber.l0]) ?_
  rw [w64o (x := (lo : Int) + n)]
  refine evp (by omega) (evb (spec_dgOf_ev b x hb (by omega)) (evb (spec_rvSteps_ev b hb hb2 most hm _ hg) ?_))
  rw [w64o (x := (x : Int) + 1), show (x : Int) + 1 = ((x + 1 : Nat) : Int) by omega]
  cases h : astep b most (dgl b x) with
  | none =>
   have es : slw b most (List.range' x (r + 1)) v t = slw b most (List.range' (x + 1) r) v t := by
    rw [List.range'_succ]; simp only [slw]; rw [if_neg (by rw [stn, h]; simp only [stepI]; omega)]
   rw [es]
   exact evn (by simp) (ih (x + 1) v t (by omega) ht (by omega))
  | some s =>
   by_cases h2 : (s : Int) > t
   ·have es : slw b most (List.range' x (r + 1)) v t = slw b most (List.range' (x + 1) r) x (s : Int) := by
     rw [List.range'_succ]; simp only [slw]; rw [stn, h, if_pos (by simp only [stepI]; exact h2)]; rfl
    rw [es]
    exact evp rfl (evp h2 (ih (x + 1) x (s : Int) (by omega) (by omega) (by omega)))
   ·have es : slw b most (List.range' x (r + 1)) v t = slw b most (List.range' (x + 1) r) v t := by
     rw [List.range'_succ]; simp only [slw]; rw [stn, h, if_neg (by simp only [stepI]; exact h2)]
    rw [es]
    exact evp rfl (evn h2 (ih (x + 1) v t (by omega) ht (by omega)))
theorem tried_pow (b w : Nat) (hb : 2 ≤ b) (hw : 1 ≤ w) : b ^ w = b ^ (w - 1) + (b - 1) * b ^ (w - 1) := by
 obtain ⟨c, rfl⟩ : ∃ c, b = c + 1 := ⟨b - 1, by omega⟩
 obtain ⟨v, rfl⟩ : ∃ v, w = v + 1 := ⟨w - 1, by omega⟩
 simp only [Nat.add_sub_cancel, Nat.pow_succ]
 rw [Nat.mul_add, Nat.mul_one, Nat.mul_comm c, Nat.add_comm]
def tried (w b : Nat) : Prop := (b - 1) * b ^ (w - 1) ≤ 20000
instance (w b : Nat) : Decidable (tried w b) := by unfold tried; infer_instance
theorem tried_loop (b w : Nat) (hb : 2 ≤ b) (hb2 : b ≤ 16) (hw : w ≤ 14) (r : Nat) : ∀ i p : Nat, i + r = w → 1 ≤ i → p ≤ 400000 → Ev (fun k => impl_isTried.l0 k (w : Int) (b : Int) (p : Int) (i : Int)) (decide (p * b ^ r ≤ 20000)) := by
 induction r with
 | zero =>
  intro i p hi h1 hp
  refine evs (fun k => by rw [impl_isTried.l0]) ?_
  refine evn (by omega) (evr ?_)
  rw [Nat.pow_zero, Nat.mul_one]
  by_cases h : p ≤ 20000
  ·rw [decide_eq_true h, decide_eq_true (by omega)]
  ·rw [decide_eq_false h, decide_eq_false (by omega)]
 | succ r ih =>
  intro i p hi h1 hp
  refine evs (fun k => by rw [impl_isTried.l0]) ?_
  refine evp (by omega) ?_
  have hpos : 1 ≤ b ^ r := Nat.pow_pos (by omega)
  by_cases h : p ≤ 20000
  ·have h2 : p * b ≤ 20000 * 16 := Nat.mul_le_mul h hb2
   have h3 := ih (i + 1) (p * b) (by omega) (by omega) (by omega)
   rw [Nat.mul_assoc, show b * b ^ r = b ^ (r + 1) by rw [Nat.pow_succ, Nat.mul_comm]] at h3
   have h4 : (p : Int) * (b : Int) = ((p * b : Nat) : Int) := (Int.natCast_mul p b).symm
   rw [w64o (x := (i : Int) + 1), h4, w64o (x := ((p * b : Nat) : Int)), show (i : Int) + 1 = ((i + 1 : Nat) : Int) by omega]
   exact evp (by omega) h3
  ·refine evn (by omega) (evr ?_)
   have : p * 1 ≤ p * b ^ (r + 1) := Nat.mul_le_mul_left _ (Nat.pow_pos (by omega))
   rw [decide_eq_false (by omega), decide_eq_false (by omega)]
theorem impl_tried_ev (w b m : Int) : Ev (fun k => impl_isTried.f k w b m) (decide ((2 ≤ b ∧ b ≤ 16) ∧ (1 ≤ w ∧ w ≤ 14) ∧ (0 ≤ m ∧ m ≤ 100) ∧ tried w.toNat b.toNat)) := by
 have no : ¬ ((2 ≤ b ∧ b ≤ 16) ∧ (1 ≤ w ∧ w ≤ 14) ∧ (0 ≤ m ∧ m ≤ 100)) → Ev (fun k => impl_isTried.j0 k w b true) (decide ((2 ≤ b ∧ b ≤ 16) ∧ (1 ≤ w ∧ w ≤ 14) ∧ (0 ≤ m ∧ m ≤ 100) ∧ tried w.toNat b.toNat)) := by
  intro h
  refine evs (fun k => by rw [impl_isTried.j0]) ?_
  exact evp rfl (evr (decide_eq_false (fun h2 => h ⟨h2.1, h2.2.1, h2.2.2.1⟩)).symm)
 unfold impl_isTried.f
 refine evc (impl_isBase_eq b) ?_
 by_cases h1 : 2 ≤ b ∧ b ≤ 16
 ·refine evp (decide_eq_true h1) (evc (impl_in_eq w 1 14) ?_)
  by_cases h2 : 1 ≤ w ∧ w ≤ 14
  ·refine evp (decide_eq_true h2) (evc (impl_in_eq m 0 100) ?_)
   by_cases h3 : 0 ≤ m ∧ m ≤ 100
   ·rw [decide_eq_true h3]
    obtain ⟨b, rfl⟩ := natOf (a := b) (by omega)
    obtain ⟨w, rfl⟩ := natOf (a := w) (by omega)
    refine evs (fun k => by rw [impl_isTried.j0]) ?_
    refine evn (by simp) ?_
    have := tried_loop b w (by omega) (by omega) (by omega) (w - 1) 1 (b - 1) (by omega) (by omega) (by omega)
    rw [w64o (x := (b : Int) - 1), show (b : Int) - 1 = ((b - 1 : Nat) : Int) by omega]
    rw [show decide ((2 ≤ (b : Int) ∧ (b : Int) ≤ 16) ∧ (1 ≤ (w : Int) ∧ (w : Int) ≤ 14) ∧ (0 ≤ m ∧ m ≤ 100) ∧ tried (w : Int).toNat (b : Int).toNat) = decide ((b - 1) * b ^ (w - 1) ≤ 20000) from by
     simp only [h1, h2, h3, and_self, true_and, Int.toNat_natCast, tried]]
    exact this
   ·rw [decide_eq_false h3]
    exact no (fun h => h3 h.2.2)
  ·exact evn (by simp [h2]) (no (fun h => h2 h.2.1))
 ·exact evn (by simp [h1]) (no (fun h => h1 h.1))
theorem from_loop (b w : Nat) (hb : 2 ≤ b) (hb2 : b ≤ 16) (hw : w ≤ 14) (r : Nat) : ∀ i p : Nat, i + r = w → 1 ≤ i → 1 ≤ p → p ≤ 20000 → Ev (fun k => spec_rvFrom.l0 k (w : Int) (b : Int) (p : Int) (i : Int)) (if (b - 1) * (p * b ^ r) ≤ 20000 then (((p * b ^ r : Nat) : Int), (((b - 1) * (p * b ^ r) : Nat) : Int)) else (0, 0)) := by
 induction r with
 | zero =>
  intro i p hi h1 hp0 hp
  have h2 : p * (b - 1) ≤ 20000 * 15 := Nat.mul_le_mul hp (by omega)
  have h4 : (p : Int) * ((b - 1 : Nat) : Int) = ((p * (b - 1) : Nat) : Int) := (Int.natCast_mul p (b - 1)).symm
  refine evs (fun k => by rw [spec_rvFrom.l0]) ?_
  rw [w64o (x := (b : Int) - 1), show (b : Int) - 1 = ((b - 1 : Nat) : Int) by omega, h4, w64 (x := ((p * (b - 1) : Nat) : Int)) (by omega) (by omega)]
  rw [Nat.pow_zero, Nat.mul_one, Nat.mul_comm (b - 1)]
  refine evn (by omega) ?_
  by_cases h : p * (b - 1) ≤ 20000
  ·rw [if_pos h]
   exact evn (by omega) (Ev.now _)
  ·rw [if_neg h]
   exact evp (by omega) (Ev.now _)
 | succ r ih =>
  intro i p hi h1 hp0 hp
  have h2 : p * b ≤ 20000 * 16 := Nat.mul_le_mul hp hb2
  have h4 : (p : Int) * (b : Int) = ((p * b : Nat) : Int) := (Int.natCast_mul p b).symm
  have h6 : 1 ≤ p * b := Nat.mul_pos hp0 (by omega)
  have h5 : p * b * b ^ r = p * b ^ (r + 1) := by rw [Nat.mul_assoc, Nat.pow_succ, Nat.mul_comm (b ^ r)]
  refine evs (fun k => by rw [spec_rvFrom.l0]) ?_
  rw [w64o (x := (i : Int) + 1), h4, w64o (x := ((p * b : Nat) : Int)), show (i : Int) + 1 = ((i + 1 : Nat) : Int) by omega]
  refine evp (by omega) ?_
  by_cases h : p * b ≤ 20000
  ·have h3 := ih (i + 1) (p * b) (by omega) (by omega) h6 h
   rw [h5] at h3
   exact evn (by omega) h3
  ·have h7 : p * b * 1 ≤ p * b * b ^ r := Nat.mul_le_mul_left _ (Nat.pow_pos (by omega))
   have h8 : 1 * (p * b ^ (r + 1)) ≤ (b - 1) * (p * b ^ (r + 1)) := Nat.mul_le_mul_right _ (by omega)
   rw [if_neg (by omega)]
   exact evp (by omega) (Ev.now _)
theorem spec_from_ev (w b : Int) : Ev (fun k => spec_rvFrom.f k w b) (if (2 ≤ b ∧ b ≤ 16) ∧ (1 ≤ w ∧ w ≤ 14) ∧ tried w.toNat b.toNat then (((b.toNat ^ (w.toNat - 1) : Nat) : Int), (((b.toNat - 1) * b.toNat ^ (w.toNat - 1) : Nat) : Int)) else (0, 0)) := by
 have no : ¬ ((2 ≤ b ∧ b ≤ 16) ∧ (1 ≤ w ∧ w ≤ 14)) → Ev (fun k => spec_rvFrom.j0 k w b true) (if (2 ≤ b ∧ b ≤ 16) ∧ (1 ≤ w ∧ w ≤ 14) ∧ tried w.toNat b.toNat then (((b.toNat ^ (w.toNat - 1) : Nat) : Int), (((b.toNat - 1) * b.toNat ^ (w.toNat - 1) : Nat) : Int)) else (0, 0)) := by
  intro h
  rw [if_neg (fun h2 => h ⟨h2.1, h2.2.1⟩)]
  refine evs (fun k => by rw [spec_rvFrom.j0]) ?_
  exact evp rfl (Ev.now _)
 unfold spec_rvFrom.f
 refine evc (spec_dgBase_eq b) ?_
 by_cases h1 : 2 ≤ b ∧ b ≤ 16
 ·refine evp (decide_eq_true h1) (evc (spec_l1In_eq w 1 14) ?_)
  by_cases h2 : 1 ≤ w ∧ w ≤ 14
  ·rw [decide_eq_true h2]
   obtain ⟨b, rfl⟩ := natOf (a := b) (by omega)
   obtain ⟨w, rfl⟩ := natOf (a := w) (by omega)
   refine evs (fun k => by rw [spec_rvFrom.j0]) ?_
   refine evn (by simp) ?_
   have := from_loop b w (by omega) (by omega) (by omega) (w - 1) 1 1 (by omega) (by omega) (by omega) (by omega)
   simp only [h1, h2, and_self, true_and, Int.toNat_natCast, tried]
   rw [Nat.one_mul] at this
   exact this
  ·rw [decide_eq_false h2]
   exact no (fun h => h2 h.2)
 ·exact evn (by simp [h1]) (no (fun h => h1 h.1))
theorem stx_some {b most n s : Nat} (h : stn b most n = some s) : stx b most n = s := by unfold stx; rw [h]
theorem cnt_facts (b most : Nat) (l : List Nat) : (cntl (List.replicate (most + 2) 0) (l.map (stx b most))).length = most + 2 ∧ lsum (cntl (List.replicate (most + 2) 0) (l.map (stx b most))) = l.length
  ∧ (∀ j, j ≤ most → 0 < (cntl (List.replicate (most + 2) 0) (l.map (stx b most))).getD j 0 → (j : Int) ≤ (slw b most l 0 (-1)).2)
  ∧ (0 ≤ (slw b most l 0 (-1)).2 → ∃ T : Nat, (slw b most l 0 (-1)).2 = (T : Int) ∧ T ≤ most ∧ 0 < (cntl (List.replicate (most + 2) 0) (l.map (stx b most))).getD T 0) := by
 have hlt : ∀ d ∈ l.map (stx b most), d < (List.replicate (most + 2) 0).length := by
  intro d hd
  obtain ⟨n, _, rfl⟩ := List.mem_map.1 hd
  have := stx_le b most n
  rw [List.length_replicate]
  omega
 have hget : ∀ j, (cntl (List.replicate (most + 2) 0) (l.map (stx b most))).getD j 0 = (l.map (stx b most)).count j := by
  intro j
  rw [cntl_get _ _ _ hlt]
  by_cases h : j < most + 2 <;> simp [List.getD_eq_getElem?_getD, h]
 obtain ⟨a1, a2, a3, a4, a5⟩ := slw_facts b most l 0 (-1) (by omega) (fun _ => rfl)
 refine ⟨by rw [cntl_len, List.length_replicate], by rw [cntl_sum _ _ hlt, lsum_zeros, List.length_map, Nat.zero_add], ?_, ?_⟩
 ·intro j hj h
  rw [hget] at h
  obtain ⟨n, hn, e⟩ := List.mem_map.1 (List.count_pos_iff.1 h)
  have h2 := a4 n hn
  cases hs : stn b most n with
  | none =>
   unfold stx at e
   rw [hs] at e
   simp only at e
   omega
  | some s =>
   have h3 := stx_some hs
   rw [hs] at h2
   simp only [stepI] at h2
   omega
 ·intro h
  rcases a5 with a5 | ⟨n, hn, e⟩
  ·omega
  ·cases hs : stn b most n with
   | none =>
    rw [hs] at e
    simp only [stepI] at e
    omega
   | some s =>
    have h3 := stx_some hs
    have h4 := (astep_len b most _ s hs).2
    rw [hs] at e
    simp only [stepI] at e
    refine ⟨s, e.symm, h4, ?_⟩
    rw [hget]
    exact List.count_pos_iff.2 (List.mem_map.2 ⟨n, hn, h3⟩)
theorem qSum_loop (whole post : List Nat) : ∀ (pre : List Nat) (s : Nat), whole = pre ++ post → whole.length ≤ 1000 → s + lsum post ≤ 1000000000 → Ev (fun k => laws_qSum.l0 k (s : Int) (ic whole) (whole.length : Int) (pre.length : Int)) ((s + lsum post : Nat) : Int) := by
 induction post with
 | nil =>
  intro pre s hw h hs
  refine evs (fun k => by rw [laws_qSum.l0]) ?_
  exact evn (by simp [hw]) (evr (by simp [lsum]))
 | cons x post ih =>
  intro pre s hw h hs
  have hl : whole.length = pre.length + (post.length + 1) := by simp [hw]
  simp only [lsum] at hs ⊢
  have h2 := ih (pre ++ [x]) (s + x) (by simp [hw]) h (by omega)
  have hx : rd (ic whole) (pre.length : Int) = (x : Int) := by rw [hw]; exact ic_rd pre post x
  rw [List.length_append, List.length_singleton, show s + x + lsum post = s + (x + lsum post) by omega] at h2
  refine evs (fun k => by rw [laws_qSum.l0]) ?_
  rw [hx, w64o (x := (pre.length : Int) + 1), w64o (x := (s : Int) + (x : Int)), show (s : Int) + (x : Int) = ((s + x : Nat) : Int) by omega, show (pre.length : Int) + 1 = ((pre.length + 1 : Nat) : Int) by omega]
  exact evp (by omega) (evp (by omega) (evp (by rw [ic_length]; omega) h2))
theorem qSum_ev (l : List Nat) (h : l.length ≤ 1000) (hs : lsum l ≤ 1000000000) : Ev (fun k => laws_qSum.f k (ic l)) ((lsum l : Nat) : Int) := by
 unfold laws_qSum.f
 have := qSum_loop l l [] 0 rfl h (by omega)
 rw [ic_length]
 simpa using this
theorem l2_ok (l : List Int) (h7 : Ev (fun k => laws_FnRunsToSymmetric.j7 k l) true) (most : Nat) (hm : most ≤ 100) (C : List Nat) (T : Int) (hC : C.length = most + 2) (hs : lsum C ≤ 1000000) (h1 : -1 ≤ T) (f1 : ∀ j, j ≤ most → 0 < C.getD j 0 → (j : Int) ≤ T) (f2 : 0 ≤ T → ∃ t : Nat, T = (t : Int) ∧ t ≤ most ∧ 0 < C.getD t 0) (r : Nat) :
  ∀ (i : Nat) (last : Int), i + r = most + 1 → -1 ≤ last → last ≤ T → (∀ j, j < i → 0 < C.getD j 0 → (j : Int) ≤ last) →
  Ev (fun k => laws_FnRunsToSymmetric.l2 k l (most : Int) (ic C) (mx T 0) (decide (T ≥ 0)) ((lsum C : Nat) : Int) last (i : Int)) true := by
 induction r with
 | zero =>
  intro i last hi h2 h3 h4
  have e : last = T := by
   by_cases h : 0 ≤ T
   ·obtain ⟨t, e1, e2, e3⟩ := f2 h
    have := h4 t (by omega) e3
    omega
   ·omega
  subst e
  refine evs (fun k => by rw [laws_FnRunsToSymmetric.l2]) ?_
  refine evn (by omega) (evb (qSum_ev C (by omega) (by omega)) (evp rfl (evn (by simp) ?_)))
  by_cases h : 0 ≤ last
  ·have e : mx last 0 = last := by unfold mx; split <;> omega
   exact evp (decide_eq_true h) (evp e h7)
  ·exact evn (by simp; omega) h7
 | succ r ih =>
  intro i last hi h2 h3 h4
  refine evs (fun k => by rw [laws_FnRunsToSymmetric.l2]) ?_
  rw [ic_rdD, w64o (x := (i : Int) + 1), show (i : Int) + 1 = ((i + 1 : Nat) : Int) by omega]
  refine evp (by omega) (evp (by omega) (evp (by rw [ic_length]; omega) ?_))
  by_cases h : 0 < C.getD i 0
  ·have h5 := f1 i (by omega) h
   exact evp (by omega) (ih (i + 1) (i : Int) (by omega) (by omega) h5 (fun j hj hp => by omega))
  ·refine evn (by omega) (ih (i + 1) last (by omega) h2 h3 (fun j hj hp => ?_))
   rcases Nat.lt_or_ge j i with h5 | h5
   ·exact h4 j h5 hp
   ·have : j = i := by omega
    subst this
    exact absurd hp h
theorem l1_ok (l : List Int) (C : List Int) (one : Bool) (w b : Nat) (hb : 2 ≤ b) (hb2 : b ≤ 16) (hw : w ≤ 14) (ht : tried w b) (m t : Int) (r : Nat) (hn : Ev (fun k => laws_FnRunsToSymmetric.l2 k l m C t one (((b - 1) * b ^ (w - 1) : Nat) : Int) (-1) 0) true) : ∀ i p : Nat, i + r = w → 1 ≤ i → p * b ^ r = (b - 1) * b ^ (w - 1) → Ev (fun k => laws_FnRunsToSymmetric.l1 k l (w : Int) (b : Int) m C t one (p : Int) (i : Int)) true := by
 induction r with
 | zero =>
  intro i p hi h1 hp
  rw [Nat.pow_zero, Nat.mul_one] at hp
  subst hp
  refine evs (fun k => by rw [laws_FnRunsToSymmetric.l1]) ?_
  exact evn (by omega) hn
 | succ r ih =>
  intro i p hi h1 hp
  have h5 : p * b * b ^ r = p * b ^ (r + 1) := by rw [Nat.mul_assoc, Nat.pow_succ, Nat.mul_comm (b ^ r)]
  have h4 : (p : Int) * (b : Int) = ((p * b : Nat) : Int) := (Int.natCast_mul p b).symm
  have h7 : p * b * 1 ≤ p * b * b ^ r := Nat.mul_le_mul_left _ (Nat.pow_pos (by omega))
  have h8 : (b - 1) * b ^ (w - 1) ≤ 20000 := ht
  have h9 := ih (i + 1) (p * b) (by omega) (by omega) (by omega)
  refine evs (fun k => by rw [laws_FnRunsToSymmetric.l1]) ?_
  rw [w64o (x := (i : Int) + 1), h4, w64o (x := ((p * b : Nat) : Int)), show (i : Int) + 1 = ((i + 1 : Nat) : Int) by omega]
  exact evp (by omega) h9
/-! The draws, and the law. -/
theorem times_ok (l : List Int) (hl : Bs l) (p s : Int) (h0 : 0 ≤ p) (h1 : p ≤ 1000000) : ∃ v p' s' : Int, spec_l1Cur_times.f l p s = some (v, p', s') := by
 obtain ⟨o, p1, s1, e1, a1, b1⟩ := one_ok l hl p s 8 h0 (by omega) (by omega)
 unfold spec_l1Cur_times.f
 rw [e1, Option.bind_some]
 cases o with
 | false =>
  obtain ⟨v, p2, s2, e2, _⟩ := pick_ok l hl p1 s1 30 (by omega) (by omega) (by omega)
  refine ⟨v, p2, s2, ?_⟩
  rw [if_neg (by simp), e2]
  rfl
 | true =>
  obtain ⟨v, p2, s2, e2, _⟩ := among_ok l hl p1 s1 [(-1), 0, 100, 101] (by simp) (by simp) (by omega) (by omega)
  refine ⟨v, p2, s2, ?_⟩
  rw [if_pos rfl, e2]
  rfl
theorem least_ex (a c : Int) : ∃ v, spec_l1Least.f a c = some v := by
 unfold spec_l1Least.f
 split
 ·exact ⟨_, rfl⟩
 ·exact ⟨_, rfl⟩
theorem drawSpread_ok (l : List Int) (hl : Bs l) : ∃ w b m : Int, Ev (fun k => spec_DrawStepsSpread.f k l) (w, b, m) := by
 have J : ∀ x6 x7 p s : Int, 0 ≤ p → p ≤ 100 → ∃ w b m : Int, Ev (fun k => spec_DrawStepsSpread.j0 k x6 x7 l p s) (w, b, m) := by
  intro x6 x7 p s h0 h1
  obtain ⟨o, p1, s1, e1, a1, b1⟩ := one_ok l hl p s 10 h0 (by omega) (by omega)
  cases o with
  | false =>
   obtain ⟨v, p2, s2, e2⟩ := times_ok l hl p1 s1 (by omega) (by omega)
   obtain ⟨u, e3⟩ := least_ex v 40
   refine ⟨x7, x6, u, evs (fun k => by rw [spec_DrawStepsSpread.j0]) ?_⟩
   exact evc e1 (evn (by simp) (evc e2 (evc e3 (Ev.now _))))
  | true =>
   obtain ⟨q, p2, s2, e2, _, a2, b2⟩ := among_ok l hl p1 s1 [0, 14, 15] (by simp) (by simp) (by omega) (by omega)
   obtain ⟨v, p3, s3, e3⟩ := times_ok l hl p2 s2 (by omega) (by omega)
   obtain ⟨u, e4⟩ := least_ex v 40
   refine ⟨q, x6, u, evs (fun k => by rw [spec_DrawStepsSpread.j0]) ?_⟩
   exact evc e1 (evp rfl (evc e2 (evc e3 (evc e4 (Ev.now _)))))
 obtain ⟨b, p1, s1, e1, a1, b1⟩ := base_ok l hl 0 0 (by omega) (by omega)
 obtain ⟨v, p2, s2, e2, _, _, _, a2, b2⟩ := pick_ok l hl p1 s1 3 (by omega) (by omega) (by omega)
 unfold spec_DrawStepsSpread.f
 by_cases h : b = 2
 ·obtain ⟨v3, p3, s3, e3, _, _, _, a3, b3⟩ := pick_ok l hl p2 s2 8 (by omega) (by omega) (by omega)
  obtain ⟨x, y, z, e⟩ := J b (wrap64 (1 + v3)) p3 s3 (by omega) (by omega)
  exact ⟨x, y, z, evc e1 (evc e2 (evp h (evc e3 e)))⟩
 ·obtain ⟨x, y, z, e⟩ := J b (wrap64 (1 + v)) p2 s2 (by omega) (by omega)
  exact ⟨x, y, z, evc e1 (evc e2 (evn h e))⟩
theorem drawRun_ok (l : List Int) (hl : Bs l) : ∃ (R : List Int) (b m : Int), Ev (fun k => spec_DrawAddedRun.f k l) (R, b, m) ∧ R.length ≤ 60 := by
 obtain ⟨R, b, p, s, e1, h1, h2, h3⟩ := digits_ok l hl 0 0 6 (by omega) (by omega) (by omega)
 obtain ⟨v, p2, s2, e2⟩ := times_ok l hl p s (by omega) (by omega)
 refine ⟨R, b, v, ?_, h1⟩
 unfold spec_DrawAddedRun.f
 refine evb (a := (R, b, v)) ?_ (Ev.now _)
 unfold spec_DrawStepsToSymmetric.f
 exact evb e1 (evc e2 (Ev.now _))
theorem rvMost_eq (m : Int) : spec_rvMost.f m = some (decide (0 ≤ m ∧ m ≤ 100)) := by
 unfold spec_rvMost.f
 rw [spec_l1In_eq, Option.bind_some]
def asked (w b m : Int) : Prop := (2 ≤ b ∧ b ≤ 16) ∧ (1 ≤ w ∧ w ≤ 14) ∧ (0 ≤ m ∧ m ≤ 100) ∧ tried w.toNat b.toNat
theorem spread_no (w b m : Int) (h : ¬ asked w b m) : (Ev (fun k => impl_StepsSpread.f k w b m) ([], false) ∧ Ev (fun k => spec_StepsSpread.f k w b m) ([], false)) ∧ Ev (fun k => impl_SlowestNumber.f k w b m) (0, 0, false) ∧ Ev (fun k => spec_SlowestNumber.f k w b m) (0, 0, false) := by
 have hi := impl_tried_ev w b m
 unfold asked at h
 rw [decide_eq_false h] at hi
 have J1 : ∀ x y : Int, Ev (fun k => spec_StepsSpread.j0 k b m x y true) ([], false) := fun x y => evs (fun k => by rw [spec_StepsSpread.j0]) (evp rfl (Ev.now _))
 have J2 : ∀ x y : Int, Ev (fun k => spec_SlowestNumber.j0 k b m x y true) (0, 0, false) := fun x y => evs (fun k => by rw [spec_SlowestNumber.j0]) (evp rfl (Ev.now _))
 have hs := spec_from_ev w b
 have both : ∃ x y : Int, Ev (fun k => spec_rvFrom.f k w b) (x, y) ∧ (y = 0 ∨ ¬ (0 ≤ m ∧ m ≤ 100)) := by
  by_cases hq : (2 ≤ b ∧ b ≤ 16) ∧ (1 ≤ w ∧ w ≤ 14) ∧ tried w.toNat b.toNat
  ·rw [if_pos hq] at hs
   exact ⟨_, _, hs, .inr (fun hm => h ⟨hq.1, hq.2.1, hm, hq.2.2⟩)⟩
  ·rw [if_neg hq] at hs
   exact ⟨_, _, hs, .inl rfl⟩
 obtain ⟨x, y, e1, e2⟩ := both
 refine ⟨⟨evb hi (evn (by simp) (Ev.now _)), evb e1 ?_⟩, evb hi (evn (by simp) (Ev.now _)), evb e1 ?_⟩
 ·by_cases hy : y = 0
  ·exact evp hy (J1 x y)
  ·refine evn hy (evc (rvMost_eq m) ?_)
   rw [decide_eq_false (e2.resolve_left hy)]
   exact J1 x y
 ·by_cases hy : y = 0
  ·exact evp hy (J2 x y)
  ·refine evn hy (evc (rvMost_eq m) ?_)
   rw [decide_eq_false (e2.resolve_left hy)]
   exact J2 x y
theorem spread_yes (w b m : Nat) (hb : 2 ≤ b) (hb2 : b ≤ 16) (hw1 : 1 ≤ w) (hw : w ≤ 14) (hm : m ≤ 100) (ht : tried w b) (L : List Nat) (hL : L = List.range' (b ^ (w - 1)) ((b - 1) * b ^ (w - 1))) :
  (Ev (fun k => impl_StepsSpread.f k (w : Int) (b : Int) (m : Int)) (ic (cntl (List.replicate (m + 2) 0) (L.map (stx b m))), true) ∧ Ev (fun k => spec_StepsSpread.f k (w : Int) (b : Int) (m : Int)) (ic (cntl (List.replicate (m + 2) 0) (L.map (stx b m))), true))
  ∧ Ev (fun k => impl_SlowestNumber.f k (w : Int) (b : Int) (m : Int)) (((slw b m L 0 (-1)).1 : Int), mx (slw b m L 0 (-1)).2 0, decide ((slw b m L 0 (-1)).2 ≥ 0)) ∧ Ev (fun k => spec_SlowestNumber.f k (w : Int) (b : Int) (m : Int)) (((slw b m L 0 (-1)).1 : Int), mx (slw b m L 0 (-1)).2 0, decide ((slw b m L 0 (-1)).2 ≥ 0)) := by
 subst hL
 have hi := impl_tried_ev w b m
 rw [decide_eq_true (show _ from ⟨by omega, by omega, by omega, ht⟩)] at hi
 have hs := spec_from_ev w b
 rw [if_pos (show _ from ⟨by omega, by omega, ht⟩)] at hs
 simp only [Int.toNat_natCast] at hs
 have hpow := tried_pow b w hb hw1
 have h1 : 1 ≤ b ^ (w - 1) := Nat.pow_pos (by omega)
 have h2 : 1 * b ^ (w - 1) ≤ (b - 1) * b ^ (w - 1) := Nat.mul_le_mul_right _ (by omega)
 have h3 : (b - 1) * b ^ (w - 1) ≤ 20000 := ht
 have hto := impl_toPower_big b (w - 1) (by omega) (by omega) (by omega)
 have ew : wrap64 ((w : Int) - 1) = ((w - 1 : Nat) : Int) := by rw [w64 (by omega) (by omega)]; omega
 have em : wrap64 ((m : Int) + 2) = ((m + 2 : Nat) : Int) := by rw [w64 (by omega) (by omega)]; omega
 have hz := lsum_zeros (m + 2)
 refine ⟨⟨?_, ?_⟩, ?_, ?_⟩
 ·unfold impl_StepsSpread.f
  rw [ew, em, Int.toNat_natCast, ic_replicate]
  exact evb hi (evp rfl (evp (by omega) (evp (by omega) (evb hto (impl_spread_loop b hb hb2 w m hm (by omega) (by omega) _ _ _ h1 (by omega) (by simp) (by omega))))))
 ·unfold spec_StepsSpread.f
  refine evb hs (evn (by simp only; omega) (evc (rvMost_eq m) ?_))
  rw [decide_eq_true (show _ from ⟨by omega, by omega⟩)]
  refine evs (fun k => by rw [spec_StepsSpread.j0]) ?_
  rw [em, Int.toNat_natCast, ic_replicate]
  exact evn (by simp) (evp (by omega) (evp (by omega) (spec_spread_loop b hb hb2 _ _ m hm (by omega) _ _ _ h1 rfl (by simp) (by omega))))
 ·unfold impl_SlowestNumber.f
  rw [ew]
  exact evb hi (evp rfl (evb hto (impl_slow_loop b hb hb2 w m hm (by omega) (by omega) _ _ 0 (-1) h1 (by omega))))
 ·have hl := spec_slow_loop b hb hb2 (b ^ (w - 1)) ((b - 1) * b ^ (w - 1)) m hm (by omega) ((b - 1) * b ^ (w - 1)) (b ^ (w - 1)) 0 (-1) h1 (by omega) rfl
  obtain ⟨a1, a2, _⟩ := slw_facts b m (List.range' (b ^ (w - 1)) ((b - 1) * b ^ (w - 1))) 0 (-1) (by omega) (fun _ => rfl)
  have e : (if (slw b m (List.range' (b ^ (w - 1)) ((b - 1) * b ^ (w - 1))) 0 (-1)).2 < 0 then ((0 : Int), (0 : Int), false) else (((slw b m (List.range' (b ^ (w - 1)) ((b - 1) * b ^ (w - 1))) 0 (-1)).1 : Int), (slw b m (List.range' (b ^ (w - 1)) ((b - 1) * b ^ (w - 1))) 0 (-1)).2, true)) = (((slw b m (List.range' (b ^ (w - 1)) ((b - 1) * b ^ (w - 1))) 0 (-1)).1 : Int), mx (slw b m (List.range' (b ^ (w - 1)) ((b - 1) * b ^ (w - 1))) 0 (-1)).2 0, decide ((slw b m (List.range' (b ^ (w - 1)) ((b - 1) * b ^ (w - 1))) 0 (-1)).2 ≥ 0)) := by
   generalize slw b m (List.range' (b ^ (w - 1)) ((b - 1) * b ^ (w - 1))) 0 (-1) = q at *
   by_cases h : q.2 < 0
   ·rw [if_pos h, a2 h, decide_eq_false (by omega)]
    have : mx q.2 0 = 0 := by unfold mx; split <;> omega
    rw [this]
    rfl
   ·rw [if_neg h, decide_eq_true (by omega)]
    have : mx q.2 0 = q.2 := by unfold mx; split <;> omega
    rw [this]
  rw [e] at hl
  unfold spec_SlowestNumber.f
  refine evb hs (evn (by simp only; omega) (evc (rvMost_eq m) ?_))
  rw [decide_eq_true (show _ from ⟨by omega, by omega⟩)]
  refine evs (fun k => by rw [spec_SlowestNumber.j0]) ?_
  exact evn (by simp) hl
theorem j3_ok (l : List Int) (hl : Bs l) : Ev (fun k => laws_FnRunsToSymmetric.j3 k l) true := by
 obtain ⟨w, b, m, e⟩ := drawSpread_ok l hl
 have h7 := j7_ok l hl
 refine evs (fun k => by rw [laws_FnRunsToSymmetric.j3]) ?_
 refine evb e ?_
 by_cases h : asked w b m
 ·obtain ⟨q1, q2, q3, q4⟩ := h
  obtain ⟨w, rfl⟩ := natOf (a := w) (by omega)
  obtain ⟨b, rfl⟩ := natOf (a := b) (by omega)
  obtain ⟨m, rfl⟩ := natOf (a := m) (by omega)
  simp only [Int.toNat_natCast] at q4
  obtain ⟨⟨g1, g2⟩, g3, g4⟩ := spread_yes w b m (by omega) (by omega) (by omega) (by omega) (by omega) q4 _ rfl
  obtain ⟨c1, c2, c3, c4⟩ := cnt_facts b m (List.range' (b ^ (w - 1)) ((b - 1) * b ^ (w - 1)))
  obtain ⟨a1, _⟩ := slw_facts b m (List.range' (b ^ (w - 1)) ((b - 1) * b ^ (w - 1))) 0 (-1) (by omega) (fun _ => rfl)
  generalize slw b m (List.range' (b ^ (w - 1)) ((b - 1) * b ^ (w - 1))) 0 (-1) = q at *
  rw [List.length_range'] at c2
  generalize cntl (List.replicate (m + 2) 0) ((List.range' (b ^ (w - 1)) ((b - 1) * b ^ (w - 1))).map (stx b m)) = C at *
  have h3 : (b - 1) * b ^ (w - 1) ≤ 20000 := q4
  have h2 := l2_ok l h7 m (by omega) C q.2 c1 (by omega) a1 c3 c4 (m + 1) 0 (-1) (by omega) (by omega) a1 (fun j hj => by omega)
  rw [c2] at h2
  have h1 := l1_ok l (ic C) (decide (q.2 ≥ 0)) w b (by omega) (by omega) (by omega) q4 m (mx q.2 0) (w - 1) h2 1 (b - 1) (by omega) (by omega) rfl
  have h4 : Ev (fun k => laws_FnRunsToSymmetric.j4 k l (w : Int) (b : Int) (m : Int) (ic C) true (mx q.2 0) (decide (q.2 ≥ 0)) false) true := by
   refine evs (fun k => by rw [laws_FnRunsToSymmetric.j4]) ?_
   rw [w64o (x := (b : Int) - 1), show (b : Int) - 1 = ((b - 1 : Nat) : Int) by omega]
   exact evn (by simp) (evp rfl h1)
  refine evb g1 (evb g2 (evb g3 (evb g4 (evn (by simp) (evb (laws_qSame_self _ (by simp only [ic_length]; omega)) (evp rfl (evn (by simp) (evp rfl (evp rfl ?_)))))))))
  by_cases hT : decide (q.2 ≥ 0) = true
  ·exact evp hT h4
  ·exact evn hT h4
 ·obtain ⟨⟨g1, g2⟩, g3, g4⟩ := spread_no w b m h
  refine evb g1 (evb g2 (evb g3 (evb g4 (evn (by simp) (evb (laws_qSame_self _ (by simp)) (evp rfl (evn (by simp) (evp rfl (evp rfl (evn (by simp) ?_))))))))))
  refine evs (fun k => by rw [laws_FnRunsToSymmetric.j4]) ?_
  exact evn (by simp) (evn (by simp) h7)
theorem steps_both (b : Nat) (hb : 2 ≤ b) (hb2 : b ≤ 16) (m : Nat) (hm : m ≤ 100) (ds : List Nat) (hg : GD b ds) : Ev (fun k => impl_StepsToSymmetric.f k (ic ds) (b : Int) (m : Int)) ((((astep b m ds).getD 0 : Nat) : Int), (astep b m ds).isSome) ∧ Ev (fun k => spec_StepsToSymmetric.f k (ic ds) (b : Int) (m : Int)) ((((astep b m ds).getD 0 : Nat) : Int), (astep b m ds).isSome) := by
 have hgd := hg.gd hb hb2
 have hl := hg.h2
 have hgood := spec_rvGood_ev (ic ds) (b : Int) (by rw [ic_length]; omega)
 rw [hgd] at hgood
 obtain ⟨s1, s2⟩ := stepI_mx (astep b m ds)
 unfold impl_StepsToSymmetric.f spec_StepsToSymmetric.f
 refine ⟨evc (impl_isLong_eq _ _) (evp hgd (evc (impl_in_eq _ 0 100) (evp (decide_eq_true (by omega)) (evb (impl_stepsOf_ev b hb hb2 m hm ds hg) (evr (by rw [s1, s2])))))), evb hgood (evp rfl (evc (rvMost_eq _) (evp (decide_eq_true (by omega)) (evb (spec_rvSteps_ev b hb hb2 m hm ds hg) (evr ?_)))))⟩
 cases astep b m ds with
 | none => rfl
 | some s => rfl
theorem run_no (R : List Int) (b m : Int) (hR : R.length ≤ 60) (h : ¬ (gd R b = true ∧ 0 ≤ m ∧ m ≤ 100)) : (Ev (fun k => impl_AddedRun.f k R b m) ([], false) ∧ Ev (fun k => spec_AddedRun.f k R b m) ([], false)) ∧ Ev (fun k => impl_StepsToSymmetric.f k R b m) (0, false) ∧ Ev (fun k => spec_StepsToSymmetric.f k R b m) (0, false) := by
 have hgood := spec_rvGood_ev R b (by omega)
 unfold impl_AddedRun.f spec_AddedRun.f impl_StepsToSymmetric.f spec_StepsToSymmetric.f
 by_cases h1 : gd R b = true
 ·have h2 : ¬ (0 ≤ m ∧ m ≤ 100) := fun h2 => h ⟨h1, h2⟩
  have h3 : ¬ decide (0 ≤ m ∧ m ≤ 100) = true := by simpa using h2
  exact ⟨⟨evc (impl_isLong_eq _ _) (evp h1 (evc (impl_in_eq _ 0 100) (evn h3 (Ev.now _)))), evb hgood (evp h1 (evc (rvMost_eq _) (evn h3 (Ev.now _))))⟩, evc (impl_isLong_eq _ _) (evp h1 (evc (impl_in_eq _ 0 100) (evn h3 (Ev.now _)))), evb hgood (evp h1 (evc (rvMost_eq _) (evn h3 (Ev.now _))))⟩
 ·exact ⟨⟨evc (impl_isLong_eq _ _) (evn h1 (Ev.now _)), evb hgood (evn h1 (Ev.now _))⟩, evc (impl_isLong_eq _ _) (evn h1 (Ev.now _)), evb hgood (evn h1 (Ev.now _))⟩
theorem FnRunsToSymmetric : laws_FnRunsToSymmetric.Pure := by
 intro l0 l1 _ _ w0 _ _ w1
 have hb : ∀ l : List Int, (∀ x ∈ l, (Lit.int .u8 x).wf = true) → ∀ x ∈ l, 0 ≤ x ∧ x ≤ 255 := by
  intro l h x hx
  have := h x hx
  simpa [Lit.wf, IntKind.min, IntKind.max, IntKind.signed, IntKind.bits] using this
 have hl0 := hb l0 w0
 have hl1 := hb l1 w1
 have h3 := j3_ok l1 hl1
 refine Ev.rounds (g := fun k => laws_FnRunsToSymmetric.f k l0 l1) ?_
 unfold laws_FnRunsToSymmetric.f
 obtain ⟨t, ht⟩ : ∃ t, laws_big.f l0 l1 = some t := by
  unfold laws_big.f
  split <;> exact ⟨_, rfl⟩
 refine evc ht ?_
 cases t with
 | true => exact evp rfl (Ev.now _)
 | false =>
  obtain ⟨R, b, m, e, hR⟩ := drawRun_ok l0 hl0
  refine evn (by simp) (evb e ?_)
  by_cases h : gd R b = true ∧ 0 ≤ m ∧ m ≤ 100
  ·obtain ⟨ds, B, rfl, rfl, q1, q2, q3, q4, q5, q6⟩ := gd_nat h.1
   obtain ⟨m, rfl⟩ := natOf (a := m) (by omega)
   have hm : m ≤ 100 := by omega
   have hg : GD B ds := ⟨q3, q4, q5, q6⟩
   obtain ⟨r1, r2⟩ := run_both B q1 q2 m hm ds hg
   obtain ⟨s1, s2⟩ := steps_both B q1 q2 m hm ds hg
   have hlen := (arun_len B m ds).2
   have hall := arun_all B q1 q2 m ds hg
   have hrows : Ev (fun k => laws_qSameRows.f k (icr (arun B m ds)) (icr (arun B m ds))) true := by
    refine rows_self _ (fun x hx => ?_) (by rw [icr_length]; omega)
    obtain ⟨y, hy, rfl⟩ := List.mem_map.1 hx
    have := (hall y hy).h2
    rw [ic_length]
    omega
   have hj0 : Ev (fun k => laws_FnRunsToSymmetric.j0 k l1 (B : Int) (icr (arun B m ds)) true (((astep B m ds).getD 0 : Nat) : Int) (astep B m ds).isSome false) true := by
    refine evs (fun k => by rw [laws_FnRunsToSymmetric.j0]) ?_
    exact evn (by simp) (evp rfl (l0_ok l1 h3 B q1 q2 (arun B m ds) (astep B m ds) hall (by omega) (arun_at B m ds) (fun s hs => (astep_len B m ds s hs).1) (arun B m ds).length 0 (by omega)))
   refine evb r1 (evb r2 (evb s1 (evb s2 (evn (by simp) (evb hrows (evp rfl (evn (by simp) (evp rfl ?_))))))))
   by_cases hT : (astep B m ds).isSome = true
   ·exact evp hT hj0
   ·exact evn hT hj0
  ·obtain ⟨⟨r1, r2⟩, s1, s2⟩ := run_no R b m hR h
   refine evb r1 (evb r2 (evb s1 (evb s2 (evn (by simp) (evb (rows_self _ (by simp) (by simp)) (evp rfl (evn (by simp) (evp rfl (evn (by simp) ?_)))))))))
   refine evs (fun k => by rw [laws_FnRunsToSymmetric.j0]) ?_
   exact evn (by simp) (evn (by simp) h3)

end Go.Proofs.Ytiheocddlopfcaa.Pure
