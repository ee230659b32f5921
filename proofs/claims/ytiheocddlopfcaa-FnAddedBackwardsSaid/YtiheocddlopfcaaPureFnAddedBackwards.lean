/- For all codes: sums with the same backwards are made place by place; without carries they are symmetric, and differences are told. -/
import Derived.Test.YtiheocddlopfcaaPFnAddedBackwardsx10
import Derived.Test.YtiheocddlopfcaaWMore
set_option linter.unusedVariables false
set_option linter.unusedSimpArgs false
namespace Go.Proofs.Ytiheocddlopfcaa.Pure
open Go.RowKit Go.Proofs.Ytiheocddlopfcaa.PFnAddedBackwards Go.Proofs.YtiheocddlopfcaaW.PrintWords Go.Proofs.YtiheocddlopfcaaW.PrintLast

theorem w64 {x : Int} (h1 : -9223372036854775808 ≤ x) (h2 : x ≤ 9223372036854775807) : wrap64 x = x := by unfold wrap64; omega

theorem w64n (n : Nat) (h : n ≤ 9223372036854775807) : wrap64 (n : Int) = (n : Int) := w64 (by omega) (by omega)

theorem evp {α : Type} {c : Prop} [Decidable c] {a b : Nat → Option α} {r : α} (h : c) (k : Ev a r) : Ev (fun n => if c then a n else b n) r := Ev.congr (fun _ => if_pos h) k
theorem evn {α : Type} {c : Prop} [Decidable c] {a b : Nat → Option α} {r : α} (h : ¬ c) (k : Ev b r) : Ev (fun n => if c then a n else b n) r := Ev.congr (fun _ => if_neg h) k
theorem evr {α : Type} {x r : α} (h : x = r) : Ev (fun _ => some x) r := h ▸ Ev.now x
theorem evb {α β : Type} {g : Nat → Option α} {f : Nat → α → Option β} {a : α} {r : β} (h : Ev g a) (k : Ev (fun n => f n a) r) : Ev (fun n => (g n).bind fun x => f n x) r := Ev.bind h k
theorem evc {α β : Type} {x : Option α} {a : α} {f : Nat → α → Option β} {r : β} (h : x = some a) (k : Ev (fun n => f n a) r) : Ev (fun n => x.bind fun y => f n y) r := by subst h; exact k
theorem evs {α : Type} {g f : Nat → Option α} {r : α} (h : ∀ k, g (k + 1) = f k) (k : Ev f r) : Ev g r := Ev.step h k
theorem rd_mid (pre post : List Int) (x : Int) : rd (pre ++ x :: post) (pre.length : Int) = x := by simp [rd]
theorem set_mid {α : Type} (pre post : List α) (x y : α) : (pre ++ x :: post).set pre.length y = pre ++ y :: post := by simp
theorem rd_get (xs : List Int) (i : Nat) (h : i < xs.length) : rd xs (i : Int) = xs[i] := by simp [rd, h]
theorem rd_mem (xs : List Int) (i : Int) (h0 : 0 ≤ i) (h : i < xs.length) : rd xs i ∈ xs := by
  have hi : i.toNat < xs.length := by omega
  simp only [rd, List.getD_eq_getElem?_getD, List.getElem?_eq_getElem hi, Option.getD_some]
  exact List.getElem_mem hi
def ic (l : List Nat) : List Int := l.map (fun x : Nat => (x : Int))
theorem ic_nil : ic [] = [] := rfl
theorem ic_cons (x : Nat) (l : List Nat) : ic (x :: l) = (x : Int) :: ic l := rfl
theorem ic_append (l m : List Nat) : ic (l ++ m) = ic l ++ ic m := by simp [ic]
theorem ic_length (l : List Nat) : (ic l).length = l.length := by simp [ic]
def lsd (b : Nat) : Nat → Nat → List Nat
  | 0, _ => []
  | f + 1, n => if n = 0 then [] else n % b :: lsd b f (n / b)
def low (b n : Nat) : List Nat := lsd b n n
def dgl (b n : Nat) : List Nat := if n = 0 then [0] else (low b n).reverse
def val (b : Nat) (v : Nat) : List Nat → Nat
  | [] => v
  | d :: l => val b (v * b + d) l
theorem val_append (b v : Nat) (l m : List Nat) : val b v (l ++ m) = val b (val b v l) m := by
  induction l generalizing v with
  | nil => rfl
  | cons d l ih => exact ih _
def lsum : List Nat → Nat
  | [] => 0
  | d :: l => d + lsum l
theorem val_lt {b : Nat} (l : List Nat) : ∀ v : Nat, (∀ d ∈ l, d < b) → val b v l < (v + 1) * b ^ l.length := by
  induction l with
  | nil => intro v _; simp [val]
  | cons d l ih =>
    intro v h
    have h1 := ih (v * b + d) (fun x hx => h x (by simp [hx]))
    have hd := h d (by simp)
    have h2 : (v * b + d + 1) * b ^ l.length ≤ (v + 1) * b * b ^ l.length := Nat.mul_le_mul_right _ (by rw [Nat.add_mul]; omega)
    simp only [val, List.length_cons]
    rw [Nat.pow_succ, Nat.mul_comm (b ^ l.length) b, ← Nat.mul_assoc]
    omega
theorem val_split (b : Nat) (l : List Nat) : ∀ v : Nat, val b v l = v * b ^ l.length + val b 0 l := by
  induction l with
  | nil => intro v; simp [val]
  | cons d l ih =>
    intro v
    simp only [val, List.length_cons]
    rw [ih (v * b + d), ih (0 * b + d), Nat.add_mul, Nat.pow_succ, Nat.mul_comm (b ^ l.length) b, ← Nat.mul_assoc]
    simp only [Nat.zero_mul, Nat.zero_add]
    omega
theorem val_lt0 {b : Nat} (l : List Nat) (h : ∀ d ∈ l, d < b) : val b 0 l < b ^ l.length := by
  have := val_lt l 0 h
  simpa using this
theorem val_cons (b d : Nat) (l : List Nat) : val b 0 (d :: l) = d * b ^ l.length + val b 0 l := by
  simp only [val, Nat.zero_mul, Nat.zero_add]
  exact val_split b l d
theorem ic_reverse (l : List Nat) : ic l.reverse = (ic l).reverse := by simp [ic]
theorem ic_rd (pre post : List Nat) (x : Nat) : rd (ic (pre ++ x :: post)) (pre.length : Int) = (x : Int) := by
  rw [ic_append, ic_cons, show ((pre.length : Nat) : Int) = (((ic pre).length : Nat) : Int) by simp [ic], rd_mid]

def addO (b : Nat) : Nat → List Nat → List Nat
  | c, [] => if 0 < c then [c] else []
  | c, s :: S => (s + c) % b :: addO b ((s + c) / b) S
def addK (b : Nat) : Nat → List Nat → List Nat
  | _, [] => []
  | c, s :: S => (s + c) / b :: addK b ((s + c) / b) S
def addC (b : Nat) : Nat → List Nat → Nat
  | c, [] => c
  | c, s :: S => addC b ((s + c) / b) S
def addP (b : Nat) : Nat → List Nat → List Nat
  | _, [] => []
  | c, s :: S => (s + c) % b :: addP b ((s + c) / b) S
theorem addO_eq (b : Nat) (S : List Nat) : ∀ c, addO b c S = addP b c S ++ (if 0 < addC b c S then [addC b c S] else []) := by
  induction S with
  | nil => intro c; rfl
  | cons s S ih => intro c; exact congrArg (List.cons ((s + c) % b)) (ih ((s + c) / b))
theorem addK_length (b : Nat) (S : List Nat) : ∀ c, (addK b c S).length = S.length := by
  induction S with
  | nil => intro c; rfl
  | cons s S ih => intro c; simp [addK, ih]
theorem addP_length (b : Nat) (S : List Nat) : ∀ c, (addP b c S).length = S.length := by
  induction S with
  | nil => intro c; rfl
  | cons s S ih => intro c; simp [addP, ih]
theorem carry_le {b s c : Nat} (hb : 2 ≤ b) (hs : s ≤ 2 * (b - 1)) (hc : c ≤ 1) : (s + c) / b ≤ 1 := by
  have : (s + c) / b < 2 := Nat.div_lt_of_lt_mul (by omega)
  omega
theorem addK_le {b : Nat} (hb : 2 ≤ b) (S : List Nat) (hS : ∀ s ∈ S, s ≤ 2 * (b - 1)) : ∀ c, c ≤ 1 → ∀ x ∈ addK b c S, x ≤ 1 := by
  induction S with
  | nil => intro c _ x h; simp [addK] at h
  | cons s S ih =>
    intro c hc x h
    have h1 := carry_le hb (hS s (by simp)) hc
    rcases List.mem_cons.1 h with rfl | h
    · exact h1
    · exact ih (fun y hy => hS y (by simp [hy])) _ h1 x h
theorem addC_le {b : Nat} (hb : 2 ≤ b) (S : List Nat) (hS : ∀ s ∈ S, s ≤ 2 * (b - 1)) : ∀ c, c ≤ 1 → addC b c S ≤ 1 := by
  induction S with
  | nil => intro c h; exact h
  | cons s S ih => intro c hc; exact ih (fun y hy => hS y (by simp [hy])) _ (carry_le hb (hS s (by simp)) hc)
theorem addP_lt {b : Nat} (hb : 2 ≤ b) (S : List Nat) : ∀ c, ∀ x ∈ addP b c S, x < b := by
  induction S with
  | nil => intro c x h; simp [addP] at h
  | cons s S ih =>
    intro c x h
    rcases List.mem_cons.1 h with rfl | h
    · exact Nat.mod_lt _ (by omega)
    · exact ih _ x h
theorem addK_last (b : Nat) (S : List Nat) : ∀ c, S ≠ [] → (addK b c S).getD (S.length - 1) 0 = addC b c S := by
  induction S with
  | nil => intro c h; exact absurd rfl h
  | cons s S ih =>
    intro c _
    cases S with
    | nil => simp [addK, addC]
    | cons t S =>
      have h := ih ((s + c) / b) (by simp)
      simp only [List.length_cons, Nat.add_sub_cancel] at h ⊢
      simp only [addK, addC, List.getD_cons_succ] at h ⊢
      exact h
theorem add_at (b : Nat) (S : List Nat) : ∀ c i, i < S.length → S.getD i 0 + (if i = 0 then c else (addK b c S).getD (i - 1) 0) = (addP b c S).getD i 0 + b * (addK b c S).getD i 0 := by
  induction S with
  | nil => intro c i h; simp at h
  | cons s S ih =>
    intro c i h
    cases i with
    | zero =>
      simp only [addK, addP, List.getD_cons_zero, if_true]
      have := Nat.div_add_mod (s + c) b
      omega
    | succ i =>
      have h2 := ih ((s + c) / b) i (by simpa using h)
      simp only [addK, addP, List.getD_cons_succ, Nat.add_sub_cancel]
      rw [if_neg (by omega)]
      rw [← h2]
      by_cases h0 : i = 0
      · subst h0
        simp
      · rw [if_neg h0]
        obtain ⟨j, rfl⟩ : ∃ j, i = j + 1 := ⟨i - 1, by omega⟩
        simp
theorem addK_zero (b : Nat) (S : List Nat) : (∀ x ∈ addK b 0 S, x = 0) → addP b 0 S = S ∧ addC b 0 S = 0 := by
  induction S with
  | nil => intro _; exact ⟨rfl, rfl⟩
  | cons s S ih =>
    intro h
    have h0 : (s + 0) / b = 0 := h _ (by simp [addK])
    simp only [addK, addP, addC] at h ⊢
    rw [h0] at h ⊢
    obtain ⟨h1, h2⟩ := ih (fun x hx => h x (by simp [hx]))
    rw [h1]
    refine ⟨?_, h2⟩
    congr 1
    have := Nat.div_add_mod (s + 0) b
    rw [h0] at this
    omega
def sumsL (ds : List Nat) : List Nat := List.zipWith (· + ·) ds.reverse ds
theorem sumsL_length (ds : List Nat) : (sumsL ds).length = ds.length := by simp [sumsL]
theorem sumsL_rev (ds : List Nat) : sumsL ds.reverse = sumsL ds := by
  unfold sumsL
  rw [List.reverse_reverse]
  exact List.zipWith_comm_of_comm (fun x y => Nat.add_comm x y)
theorem sumsL_sym (ds : List Nat) : (sumsL ds).reverse = sumsL ds := by
  unfold sumsL
  rw [List.reverse_zipWith (by simp), List.reverse_reverse]
  exact List.zipWith_comm_of_comm (fun x y => Nat.add_comm x y)
theorem sumsL_at (ds : List Nat) (i : Nat) (h : i < ds.length) : (sumsL ds).getD i 0 = ds.getD (ds.length - 1 - i) 0 + ds.getD i 0 := by
  unfold sumsL
  have h1 : i < ds.reverse.length := by simpa using h
  simp only [List.getD_eq_getElem?_getD, List.getElem?_zipWith, List.getElem?_eq_getElem h1, List.getElem?_eq_getElem h, List.getElem_reverse]
  rw [List.getElem?_eq_getElem (by omega)]
  rfl
theorem sumsL_le {b : Nat} (hb : 2 ≤ b) (ds : List Nat) (hd : ∀ d ∈ ds, d < b) : ∀ s ∈ sumsL ds, s ≤ 2 * (b - 1) := by
  intro s hs
  obtain ⟨i, hi, rfl⟩ := List.getElem_of_mem hs
  rw [sumsL_length] at hi
  have h1 := sumsL_at ds i hi
  have h2 : (sumsL ds)[i]'(by rw [sumsL_length]; exact hi) = (sumsL ds).getD i 0 := by rw [List.getD_eq_getElem?_getD, List.getElem?_eq_getElem (by rw [sumsL_length]; exact hi)]; rfl
  rw [h2, h1]
  have h3 : ∀ j, j < ds.length → ds.getD j 0 < b := fun j hj => by
    rw [List.getD_eq_getElem?_getD, List.getElem?_eq_getElem hj]
    exact hd _ (List.getElem_mem hj)
  have := h3 (ds.length - 1 - i) (by omega)
  have := h3 i hi
  omega

def subP (b : Nat) : Nat → List Nat → List Nat → List Nat
  | c, x :: X, y :: Y => (if x < y + c then x + b - (y + c) else x - (y + c)) :: subP b (if x < y + c then 1 else 0) X Y
  | _, _, _ => []
def subC : Nat → List Nat → List Nat → Nat
  | c, x :: X, y :: Y => subC (if x < y + c then 1 else 0) X Y
  | c, _, _ => c
def lval (b : Nat) : List Nat → Nat
  | [] => 0
  | x :: X => x + b * lval b X
theorem lval_rev (b : Nat) (X : List Nat) : lval b X = val b 0 X.reverse := by
  induction X with
  | nil => rfl
  | cons x X ih =>
    rw [List.reverse_cons, val_append, ← ih]
    simp only [lval, val]
    rw [Nat.mul_comm (lval b X) b]
    omega
theorem subC_le {b : Nat} (X : List Nat) : ∀ (Y : List Nat) (c : Nat), X.length = Y.length → c ≤ 1 → (∀ x ∈ X, x < b) → (∀ y ∈ Y, y < b) → subC c X Y ≤ 1 ∧ (lval b Y + c ≤ lval b X → subC c X Y = 0) := by
  induction X with
  | nil =>
    intro Y c hl hc _ _
    have : Y = [] := List.eq_nil_of_length_eq_zero hl.symm
    subst this
    simp only [subC, lval]
    exact ⟨hc, fun h => by omega⟩
  | cons x X ih =>
    intro Y c hl hc hX hY
    cases Y with
    | nil => simp at hl
    | cons y Y =>
      have hx := hX x (by simp)
      have hy := hY y (by simp)
      have hl2 : X.length = Y.length := by simpa using hl
      obtain ⟨h1, h2⟩ := ih Y (if x < y + c then 1 else 0) hl2 (by split <;> omega) (fun z hz => hX z (by simp [hz])) (fun z hz => hY z (by simp [hz]))
      simp only [subC, lval]
      refine ⟨h1, fun h => h2 ?_⟩
      split
      · rename_i hlt
        by_cases hh : lval b Y + 1 ≤ lval b X
        · exact hh
        · have : b * lval b X ≤ b * lval b Y := Nat.mul_le_mul_left _ (by omega)
          omega
      · rename_i hlt
        by_cases hh : lval b Y ≤ lval b X
        · omega
        · have h3 : b * (lval b X + 1) ≤ b * lval b Y := Nat.mul_le_mul_left _ (by omega)
          rw [Nat.mul_add, Nat.mul_one] at h3
          omega
theorem subP_length (b : Nat) (X : List Nat) : ∀ (Y : List Nat) (c : Nat), X.length = Y.length → (subP b c X Y).length = X.length := by
  induction X with
  | nil => intro Y c _; cases Y <;> rfl
  | cons x X ih =>
    intro Y c hl
    cases Y with
    | nil => simp at hl
    | cons y Y => simp [subP, ih Y _ (by simpa using hl)]
def strip : List Int → List Int
  | [] => []
  | [x] => [x]
  | x :: y :: l => if x = 0 then strip (y :: l) else x :: y :: l
theorem strip_length (l : List Int) : (strip l).length ≤ l.length := by
  induction l using strip.induct with
  | case1 => simp [strip]
  | case2 x => simp [strip]
  | case3 y l ih => simp [strip] at ih ⊢; omega
  | case4 x y l h => simp [strip, h]

def gd (l : List Int) (b : Int) : Bool := decide (2 ≤ b ∧ b ≤ 16) && (decide (1 ≤ l.length ∧ l.length ≤ 40) && ((l.all fun x => decide (0 ≤ x ∧ x ≤ b - 1)) && (decide (rd l 0 > 0) || decide (l.length = 1))))
theorem gd_nat {l : List Int} {b : Int} (h : gd l b = true) : ∃ (ds : List Nat) (B : Nat), l = ic ds ∧ b = (B : Int) ∧ 2 ≤ B ∧ B ≤ 16 ∧ 1 ≤ ds.length ∧ ds.length ≤ 40 ∧ (∀ d ∈ ds, d < B) ∧ (0 < ds.getD 0 0 ∨ ds.length = 1) := by
  unfold gd at h
  simp only [Bool.and_eq_true, Bool.or_eq_true, decide_eq_true_eq, List.all_eq_true] at h
  obtain ⟨h1, h2, h3, h4⟩ := h
  have e : l = ic (l.map Int.toNat) := by
    unfold ic
    rw [List.map_map]
    refine (List.map_id l).symm.trans (List.map_congr_left fun x hx => ?_)
    have := h3 x hx
    simp only [id, Function.comp]
    omega
  refine ⟨l.map Int.toNat, b.toNat, e, by omega, by omega, by omega, by simpa using h2.1, by simpa using h2.2, fun d hd => ?_, ?_⟩
  · obtain ⟨x, hx, rfl⟩ := List.mem_map.1 hd
    have := h3 x hx
    omega
  · rcases h4 with h4 | h4
    · left
      cases l with
      | nil => simp at h2
      | cons x l =>
        simp [rd] at h4
        simp
        omega
    · right
      simpa using h4
theorem gd_of (ds : List Nat) (B : Nat) (h1 : 2 ≤ B) (h2 : B ≤ 16) (h3 : 1 ≤ ds.length) (h4 : ds.length ≤ 40) (h5 : ∀ d ∈ ds, d < B) (h6 : 0 < ds.getD 0 0 ∨ ds.length = 1) : gd (ic ds) (B : Int) = true := by
  unfold gd
  simp only [Bool.and_eq_true, Bool.or_eq_true, decide_eq_true_eq, List.all_eq_true, ic_length]
  refine ⟨by omega, ⟨h3, h4⟩, fun x hx => ?_, ?_⟩
  · obtain ⟨d, hd, rfl⟩ := List.mem_map.1 hx
    have := h5 d hd
    omega
  · rcases h6 with h6 | h6
    · left
      cases ds with
      | nil => simp at h3
      | cons d ds =>
        simp at h6
        simp [rd, ic]
        omega
    · exact Or.inr h6

def idxI (x : Int) : List Int → Nat → Int
  | [], _ => -1
  | y :: l, i => if x = y then (i : Int) else idxI x l (i + 1)
theorem idxI_ge (x : Int) (l : List Int) : ∀ i : Nat, (0 ≤ idxI x l i ↔ x ∈ l) ∧ -1 ≤ idxI x l i := by
  induction l with
  | nil => intro i; simp [idxI]
  | cons y l ih =>
    intro i
    by_cases h : x = y
    · simp [idxI, h]
      try omega
    · have := ih (i + 1)
      simp [idxI, h, this]

def pal (b n : Nat) : Prop := (dgl b n).reverse = dgl b n
instance (b n : Nat) : Decidable (pal b n) := by unfold pal; infer_instance
theorem ic_inj : ∀ x y : List Nat, ic x = ic y → x = y := by
  intro x
  induction x with
  | nil => intro y h; cases y with
    | nil => rfl
    | cons e y => simp [ic] at h
  | cons d x ih =>
    intro y h
    cases y with
    | nil => simp [ic] at h
    | cons e y =>
      simp only [ic_cons, List.cons.injEq] at h
      rw [ih y h.2]
      congr 1
      omega
theorem symL_eq (l : List Nat) : decide (ic l = ic l.reverse) = decide (l.reverse = l) := by
  by_cases h : l.reverse = l
  · rw [decide_eq_true h, h]
    simp
  · rw [decide_eq_false h]
    exact decide_eq_false (fun h2 => h (ic_inj _ _ h2).symm)
theorem impl_in_eq (a b c : Int) : impl_in.f a b c = some (decide (b ≤ a ∧ a ≤ c)) := by
  unfold impl_in.f
  by_cases h : b ≤ a <;> simp [h]
theorem spec_l1In_eq (a b c : Int) : spec_l1In.f a b c = some (decide (b ≤ a ∧ a ≤ c)) := by
  unfold spec_l1In.f
  by_cases h : b ≤ a <;> simp [h]

theorem impl_isBase_eq (b : Int) : impl_isBase.f b = some (decide (2 ≤ b ∧ b ≤ 16)) := by simp only [impl_isBase.f, impl_in_eq, Option.bind_some]
theorem spec_dgBase_eq (b : Int) : spec_dgBase.f b = some (decide (2 ≤ b ∧ b ≤ 16)) := by simp only [spec_dgBase.f, spec_l1In_eq, Option.bind_some]

theorem tmod_cast (a b : Nat) : Int.tmod (a : Int) (b : Int) = ((a % b : Nat) : Int) := (Int.ofNat_tmod a b).symm
theorem tdiv_cast (a b : Nat) : Int.tdiv (a : Int) (b : Int) = ((a / b : Nat) : Int) := (Int.ofNat_tdiv a b).symm
theorem natOf {a : Int} (h : 0 ≤ a) : ∃ n : Nat, a = (n : Int) := ⟨a.toNat, by omega⟩

theorem l1All_loop (lo hi : Int) (whole : List Int) (post : List Int) : ∀ pre : List Int, whole = pre ++ post → whole.length ≤ 4611686018427387904 →
    Ev (fun k => spec_l1All.l0 k lo hi whole (whole.length : Int) (pre.length : Int)) (post.all fun x => decide (lo ≤ x ∧ x ≤ hi)) := by
  induction post with
  | nil =>
    intro pre hw h
    refine evs (fun k => by rw [spec_l1All.l0]) ?_
    exact evn (by simp [hw]) (evr (by simp))
  | cons y post ih =>
    intro pre hw h
    have hl : whole.length = pre.length + (post.length + 1) := by simp [hw]
    have hx : rd whole (pre.length : Int) = y := by rw [hw, rd_mid]
    refine evs (fun k => by rw [spec_l1All.l0]) ?_
    rw [hx]
    simp only [spec_l1In_eq, Option.bind_some, decide_eq_true_eq]
    refine evp (by omega) (evp (by omega) (evp (by omega) ?_))
    by_cases he : lo ≤ y ∧ y ≤ hi
    · refine evp he ?_
      have h2 := ih (pre ++ [y]) (by simp [hw]) h
      rw [w64 (by omega) (by omega)]
      have e : ((y :: post).all fun x => decide (lo ≤ x ∧ x ≤ hi)) = (post.all fun x => decide (lo ≤ x ∧ x ≤ hi)) := by
        rw [List.all_cons, decide_eq_true he, Bool.true_and]
      rw [e]
      simpa using h2
    · refine evn he (evr ?_)
      rw [List.all_cons, decide_eq_false he, Bool.false_and]
theorem l1All_ev (l : List Int) (lo hi : Int) (h : l.length ≤ 4611686018427387904) : Ev (fun k => spec_l1All.f k l lo hi) (l.all fun x => decide (lo ≤ x ∧ x ≤ hi)) := by
  unfold spec_l1All.f
  simpa using l1All_loop lo hi l l [] rfl h

theorem reverse_loop (n : Nat) : ∀ (mid pre post : List Int), mid.length ≤ n → pre.length = post.length → (pre ++ mid ++ post).length ≤ 1000000000000 →
    Ev (fun k => slices_Reverse_int_int.l0 k (pre ++ mid ++ post) (pre.length : Int) ((pre.length : Int) + (mid.length : Int) - 1)) (pre ++ mid.reverse ++ post) := by
  induction n with
  | zero =>
    intro mid pre post hm _ _
    obtain rfl : mid = [] := List.eq_nil_of_length_eq_zero (by omega)
    refine evs (fun k => by rw [slices_Reverse_int_int.l0]) ?_
    exact evn (by simp; omega) (evr (by simp))
  | succ n ih =>
    intro mid pre post hm hp hl
    cases mid with
    | nil =>
      refine evs (fun k => by rw [slices_Reverse_int_int.l0]) ?_
      exact evn (by simp; omega) (evr (by simp))
    | cons a t =>
      by_cases ht : t = []
      · subst ht
        refine evs (fun k => by rw [slices_Reverse_int_int.l0]) ?_
        exact evn (by simp) (evr (by simp))
      · obtain ⟨m, b, rfl⟩ : ∃ m b, t = m ++ [b] := ⟨t.dropLast, t.getLast ht, (List.dropLast_concat_getLast ht).symm⟩
        simp only [List.length_append, List.length_cons, List.length_nil] at hm hl
        have e0 : pre ++ (a :: (m ++ [b])) ++ post = pre ++ a :: (m ++ b :: post) := by simp
        have e1 : pre ++ (a :: (m ++ [b])) ++ post = (pre ++ a :: m) ++ b :: post := by simp
        have hj : ((pre.length : Int) + (((a :: (m ++ [b])).length : Nat) : Int) - 1) = (((pre ++ a :: m).length : Nat) : Int) := by simp; omega
        have r1 : rd (pre ++ (a :: (m ++ [b])) ++ post) (((pre ++ a :: m).length : Nat) : Int) = b := by rw [e1, rd_mid]
        have r0 : rd (pre ++ (a :: (m ++ [b])) ++ post) ((pre.length : Nat) : Int) = a := by rw [e0, rd_mid]
        have hset : ((pre ++ (a :: (m ++ [b])) ++ post).set (pre.length : Int).toNat b).set (((pre ++ a :: m).length : Nat) : Int).toNat a = (pre ++ [b]) ++ m ++ (a :: post) := by
          rw [e0, Int.toNat_natCast, Int.toNat_natCast, set_mid]
          have e2 : pre ++ b :: (m ++ b :: post) = (pre ++ b :: m) ++ b :: post := by simp
          have e3 : (pre ++ a :: m).length = (pre ++ b :: m).length := by simp
          rw [e2, e3, set_mid]
          simp
        have h := ih m (pre ++ [b]) (a :: post) (by omega) (by simp; omega) (by simp; omega)
        have hj2 : (((pre ++ a :: m).length : Nat) : Int) = (pre.length : Int) + (m.length : Int) + 1 := by simp; omega
        have hlen : (((pre ++ (a :: (m ++ [b])) ++ post).length : Nat) : Int) = (pre.length : Int) + (m.length : Int) + 2 + (post.length : Int) := by simp; omega
        refine evs (fun k => by rw [slices_Reverse_int_int.l0]) ?_
        rw [hj, r1, r0, hset, hlen, hj2, w64 (x := (pre.length : Int) + 1) (by omega) (by omega), w64 (x := (pre.length : Int) + (m.length : Int) + 1 - 1) (by omega) (by omega)]
        refine evp (by omega) (evp (by omega) (evp (by omega) (evp (by omega) (evp (by omega) ?_))))
        have e4 : (((pre ++ [b]).length : Nat) : Int) = (pre.length : Int) + 1 := by simp
        rw [e4, show (pre.length : Int) + 1 + (m.length : Int) - 1 = (pre.length : Int) + (m.length : Int) + 1 - 1 by omega] at h
        have e5 : (pre ++ [b]) ++ m.reverse ++ (a :: post) = pre ++ (a :: (m ++ [b])).reverse ++ post := by simp
        rw [e5] at h
        exact h
theorem reverse_ev (l : List Int) (h : l.length ≤ 1000000000000) : Ev (fun k => slices_Reverse_int_int.f k l) l.reverse := by
  unfold slices_Reverse_int_int.f
  rw [w64 (by omega) (by omega)]
  have := reverse_loop l.length l [] [] (Nat.le_refl _) rfl (by simpa using h)
  simpa using this

theorem l1Own_ev (l : List Int) (h : l.length ≤ 1000000) : spec_l1Own.f l = some l := by
  unfold spec_l1Own.f
  simp only [Option.bind_some, List.nil_append, List.length_nil]
  rw [if_pos (by omega)]
theorem clone_ev (l : List Int) (h : l.length ≤ 1000000) : slices_Clone_int_int.f l = some l := by
  unfold slices_Clone_int_int.f
  rw [if_pos (by omega)]

theorem dgBack_loop (n : Nat) : ∀ (pre post out : List Int), pre.length = n → (pre ++ post).length ≤ 1000000000000 → out.length + pre.length ≤ 1000000000000 → Ev (fun k => spec_dgBack.l0 k (pre ++ post) out ((pre.length : Int) - 1)) (out ++ pre.reverse) := by
  induction n with
  | zero =>
    intro pre post out hn _ _
    obtain rfl : pre = [] := List.eq_nil_of_length_eq_zero hn
    refine evs (fun k => by rw [spec_dgBack.l0]) ?_
    exact evn (by simp) (evr (by simp))
  | succ n ih =>
    intro pre post out hn hl ho
    have h0 : pre ≠ [] := fun h => by subst h; simp at hn
    obtain ⟨p, x, rfl⟩ : ∃ p x, pre = p ++ [x] := ⟨pre.dropLast, pre.getLast h0, (List.dropLast_concat_getLast h0).symm⟩
    have hp : p.length = n := by simpa using hn
    have e0 : (p ++ [x]) ++ post = p ++ x :: post := by simp
    have e1 : (((p ++ [x]).length : Nat) : Int) - 1 = (p.length : Int) := by simp
    have hl2 : (p ++ x :: post).length = p.length + (post.length + 1) := by simp
    rw [e0] at hl
    rw [hl2] at hl
    have h := ih p (x :: post) (out ++ [x]) hp (by rw [hl2]; exact hl) (by simp at ho ⊢; omega)
    refine evs (fun k => by rw [spec_dgBack.l0]) ?_
    rw [e1, e0, rd_mid, hl2, w64 (x := (p.length : Int) - 1) (by omega) (by omega)]
    refine evp (by omega) (evp (by omega) (evp (by omega) (evp (by simp at ho; omega) ?_)))
    have e2 : out ++ (p ++ [x]).reverse = (out ++ [x]) ++ p.reverse := by simp
    rw [e2]
    exact h
theorem dgBack_ev (l : List Int) (h : l.length ≤ 1000000000000) : Ev (fun k => spec_dgBack.f k l) l.reverse := by
  unfold spec_dgBack.f
  rw [w64 (by omega) (by omega)]
  have := dgBack_loop l.length l [] [] rfl (by simpa using h) (by simpa using h)
  simpa using this

theorem spec_rvGood_ev (l : List Int) (b : Int) (hl : l.length ≤ 1000000000) : Ev (fun k => spec_rvGood.f k l b) (gd l b) := by
  unfold spec_rvGood.f gd
  simp only [spec_dgBase_eq, spec_l1In_eq, Option.bind_some, decide_eq_true_eq]
  by_cases h1 : 2 ≤ b ∧ b ≤ 16
  · refine evp h1 ?_
    by_cases h2 : 1 ≤ (l.length : Int) ∧ (l.length : Int) ≤ 40
    · rw [w64 (x := b - 1) (by omega) (by omega)]
      refine evp h2 (evb (l1All_ev l 0 (b - 1) (by omega)) ?_)
      have e2 : decide (1 ≤ l.length ∧ l.length ≤ 40) = true := decide_eq_true (by omega)
      by_cases h3 : (l.all fun x => decide (0 ≤ x ∧ x ≤ b - 1)) = true
      · refine evp h3 (evp (by omega) ?_)
        by_cases h4 : rd l 0 > 0
        · exact evp h4 (evr (by rw [decide_eq_true h1, e2, h3, decide_eq_true h4]; rfl))
        · refine evn h4 (evr ?_)
          rw [decide_eq_true h1, e2, h3, decide_eq_false h4]
          simp only [Bool.true_and, Bool.false_or]
          by_cases h5 : l.length = 1
          · rw [decide_eq_true h5, h5]; rfl
          · rw [decide_eq_false h5]
            exact beq_eq_false_iff_ne.2 (by omega)
      · refine evn h3 (evr ?_)
        simp only [Bool.not_eq_true] at h3
        rw [h3]
        simp
    · refine evn h2 (evr ?_)
      have e2 : decide (1 ≤ l.length ∧ l.length ≤ 40) = false := decide_eq_false (by omega)
      rw [e2]
      simp
  · exact evn h1 (evr (by rw [decide_eq_false h1]; rfl))
theorem impl_isLong_eq (l : List Int) (b : Int) : impl_isLong.f l b = some (gd l b) := by
  unfold impl_isLong.f impl_areDigits.f impl_areIn.f gd
  rw [impl_isBase_eq]
  simp only [Option.bind_some, decide_eq_true_eq]
  by_cases h1 : 2 ≤ b ∧ b ≤ 16
  · rw [if_pos h1, decide_eq_true h1, w64 (x := b - 1) (by omega) (by omega)]
    by_cases h2 : 1 ≤ (l.length : Int) ∧ (l.length : Int) ≤ 40
    · have e2 : decide (1 ≤ l.length ∧ l.length ≤ 40) = true := decide_eq_true (by omega)
      rw [decide_eq_true h2, e2]
      simp only [Bool.true_and]
      by_cases h3 : (l.all fun x => decide (0 ≤ x ∧ x ≤ b - 1)) = true
      · rw [if_pos h3, if_pos (by omega : 0 < (l.length : Int)), h3]
        by_cases h4 : rd l 0 > 0
        · rw [if_pos h4, decide_eq_true h4]
          simp only [Option.bind_some, if_true]
          rw [decide_eq_true (by omega)]
          rfl
        · rw [if_neg h4, decide_eq_false h4]
          simp only [Option.bind_some, Bool.true_and, Bool.false_or]
          by_cases h5 : l.length = 1
          · have e5 : ((l.length : Int) == 1) = true := by rw [h5]; rfl
            rw [e5, if_pos rfl, decide_eq_true h5, decide_eq_true (by omega)]
          · have e5 : ((l.length : Int) == 1) = false := beq_eq_false_iff_ne.2 (by omega)
            rw [e5, if_neg (by simp), decide_eq_false h5]
      · rw [if_neg h3]
        simp only [Bool.not_eq_true] at h3
        rw [h3]
        simp
    · have e2 : decide (1 ≤ l.length ∧ l.length ≤ 40) = false := decide_eq_false (by omega)
      rw [decide_eq_false h2, e2]
      simp
  · rw [if_neg h1, decide_eq_false h1]
    rfl

theorem ds_rd (ds : List Nat) (i : Nat) (h : i < ds.length) : rd (ic ds) (i : Int) = ((ds.getD i 0 : Nat) : Int) := by
  rw [rd_get _ _ (by rw [ic_length]; exact h)]
  simp [ic, List.getD_eq_getElem?_getD, h]
theorem drop_sums (ds : List Nat) (i : Nat) (h : i < ds.length) : (sumsL ds).drop i = (ds.getD (ds.length - 1 - i) 0 + ds.getD i 0) :: (sumsL ds).drop (i + 1) := by
  have hl : i < (sumsL ds).length := by rw [sumsL_length]; exact h
  rw [List.drop_eq_getElem_cons hl]
  congr 1
  rw [← sumsL_at ds i h, List.getD_eq_getElem?_getD, List.getElem?_eq_getElem hl]
  rfl
theorem getD_lt {b : Nat} (ds : List Nat) (hd : ∀ d ∈ ds, d < b) (i : Nat) (h : i < ds.length) : ds.getD i 0 < b := by
  rw [List.getD_eq_getElem?_getD, List.getElem?_eq_getElem h]
  exact hd _ (List.getElem_mem h)
theorem reversed_ev0 (l : List Nat) (h : l.length ≤ 1000000) : Ev (fun k => impl_reversed.f k (ic l)) (ic l.reverse) := by
  unfold impl_reversed.f
  rw [clone_ev _ (by rw [ic_length]; exact h)]
  simp only [Option.bind_some]
  refine evb (reverse_ev (ic l) (by rw [ic_length]; omega)) (evr ?_)
  rw [ic_reverse]
theorem summed_loop (ds : List Nat) (b : Nat) (hb : 2 ≤ b) (hb2 : b ≤ 16) (hl : ds.length ≤ 40) (hd : ∀ d ∈ ds, d < b) (e : Nat) : ∀ (i c : Nat) (O K : List Nat), i + e = ds.length → c ≤ 1 → O.length ≤ 100 → O.length = i → K.length = i →
    Ev (fun k => impl_summed.l0 k (ic ds) (b : Int) (ic O) (ic K) (c : Int) (ds.length : Int) (i : Int)) (ic (O ++ addO b c ((sumsL ds).drop i)).reverse, ic (K ++ addK b c ((sumsL ds).drop i))) := by
  induction e with
  | zero =>
    intro i c O K hi hc hO hOl hKl
    have hdr : (sumsL ds).drop i = [] := List.drop_of_length_le (by rw [sumsL_length]; omega)
    rw [hdr]
    refine evs (fun k => by rw [impl_summed.l0]) ?_
    refine evn (by omega) ?_
    simp only [addK, List.append_nil]
    by_cases h : 0 < c
    · have ea : addO b c [] = [c] := if_pos h
      rw [ea]
      have h2 := reversed_ev0 (O ++ [c]) (by simp; omega)
      rw [ic_append, ic_cons, ic_nil] at h2
      exact evp (by omega) (evp (by rw [ic_length]; omega) (evb h2 (Ev.now _)))
    · have ea : addO b c [] = [] := if_neg h
      rw [ea, List.append_nil]
      exact evn (by omega) (evb (reversed_ev0 O (by omega)) (Ev.now _))
  | succ e ih =>
    intro i c O K hi hc hO hOl hKl
    have hdr := drop_sums ds i (by omega)
    have g1 := getD_lt ds hd i (by omega)
    have g2 := getD_lt ds hd (ds.length - 1 - i) (by omega)
    have r1 := ds_rd ds i (by omega)
    have r2 := ds_rd ds (ds.length - 1 - i) (by omega)
    obtain ⟨p, hp⟩ : ∃ p, ds.getD i 0 = p := ⟨_, rfl⟩
    obtain ⟨q, hq⟩ : ∃ q, ds.getD (ds.length - 1 - i) 0 = q := ⟨_, rfl⟩
    rw [hp] at g1 r1
    rw [hq] at g2 r2
    rw [hp, hq] at hdr
    have hc2 : (q + p + c) / b ≤ 1 := carry_le hb (by omega) hc
    have hdv : (q + p + c) / b ≤ q + p + c := Nat.div_le_self _ _
    have h1 := ih (i + 1) ((q + p + c) / b) (O ++ [(q + p + c) % b]) (K ++ [(q + p + c) / b]) (by omega) hc2 (by simp; omega) (by simp; omega) (by simp; omega)
    rw [hdr]
    simp only [addO, addK]
    have e1 : (ds.length : Int) - 1 - (i : Int) = ((ds.length - 1 - i : Nat) : Int) := by omega
    have e2 : (q : Int) + (p : Int) + (c : Int) = ((q + p + c : Nat) : Int) := by omega
    refine evs (fun k => by rw [impl_summed.l0]) ?_
    rw [ic_length, w64 (x := (ds.length : Int) - 1) (by omega) (by omega), e1, w64n (ds.length - 1 - i) (by omega), r1, r2, w64 (x := (q : Int) + (p : Int)) (by omega) (by omega), e2, w64n (q + p + c) (by omega), tmod_cast, tdiv_cast, w64n ((q + p + c) / b) (by omega), w64 (x := (i : Int) + 1) (by omega) (by omega), show (i : Int) + 1 = ((i + 1 : Nat) : Int) by omega]
    clear e1 e2
    refine evp (by omega) (evp (by omega) (evp (by omega) (evp (by omega) (evp (by omega) (evn (by omega) (evp (by rw [ic_length]; omega) (evp (by rw [ic_length]; omega) ?_)))))))
    simp only [ic_append, ic_cons, ic_nil, List.append_assoc, List.singleton_append] at h1
    simpa [ic_append, ic_cons, ic_nil] using h1
def addSum (b : Nat) (ds : List Nat) : List Nat := (addO b 0 (sumsL ds)).reverse
def addCar (b : Nat) (ds : List Nat) : List Nat := addK b 0 (sumsL ds)
theorem summed_ev (ds : List Nat) (b : Nat) (hb : 2 ≤ b) (hb2 : b ≤ 16) (hl : ds.length ≤ 40) (hd : ∀ d ∈ ds, d < b) : Ev (fun k => impl_summed.f k (ic ds) (b : Int)) (ic (addSum b ds), ic (addCar b ds)) := by
  have h := summed_loop ds b hb hb2 hl hd ds.length 0 0 [] [] (by omega) (by omega) (by simp) rfl rfl
  unfold impl_summed.f
  rw [ic_length]
  simpa [addSum, addCar, ic_nil] using h
theorem rvAdd_loop (ds : List Nat) (b : Nat) (hb : 2 ≤ b) (hb2 : b ≤ 16) (hl : ds.length ≤ 40) (hd : ∀ d ∈ ds, d < b) (e : Nat) : ∀ (i c : Nat) (O K : List Nat), i + e = ds.length → c ≤ 1 → O.length = i → K.length = i →
    Ev (fun k => spec_rvAdd.l0 k (ic ds) (b : Int) (ds.length : Int) (ic O) (ic K) (c : Int) ((ds.length : Int) - 1 - (i : Int))) (ic ((addO b c ((sumsL ds).drop i)).reverse ++ O), ic (K ++ addK b c ((sumsL ds).drop i))) := by
  induction e with
  | zero =>
    intro i c O K hi hc hOl hKl
    have hdr : (sumsL ds).drop i = [] := List.drop_of_length_le (by rw [sumsL_length]; omega)
    rw [hdr]
    refine evs (fun k => by rw [spec_rvAdd.l0]) ?_
    refine evn (by omega) ?_
    simp only [addK, List.append_nil]
    by_cases h : 0 < c
    · have ea : addO b c [] = [c] := if_pos h
      rw [ea]
      simp only [Option.bind_some]
      exact evp (by omega) (evp (by simp only [List.length_cons, List.length_nil, ic_length]; omega) (evr (by simp [ic])))
    · have ea : addO b c [] = [] := if_neg h
      rw [ea]
      exact evn (by omega) (evr (by simp))
  | succ e ih =>
    intro i c O K hi hc hOl hKl
    have hdr := drop_sums ds i (by omega)
    have g1 := getD_lt ds hd i (by omega)
    have g2 := getD_lt ds hd (ds.length - 1 - i) (by omega)
    have r1 := ds_rd ds i (by omega)
    have r2 := ds_rd ds (ds.length - 1 - i) (by omega)
    obtain ⟨p, hp⟩ : ∃ p, ds.getD i 0 = p := ⟨_, rfl⟩
    obtain ⟨q, hq⟩ : ∃ q, ds.getD (ds.length - 1 - i) 0 = q := ⟨_, rfl⟩
    rw [hp] at g1 r1
    rw [hq] at g2 r2
    rw [hp, hq] at hdr
    have hc2 : (q + p + c) / b ≤ 1 := carry_le hb (by omega) hc
    have hdv : (q + p + c) / b ≤ q + p + c := Nat.div_le_self _ _
    have h1 := ih (i + 1) ((q + p + c) / b) ((q + p + c) % b :: O) (K ++ [(q + p + c) / b]) (by omega) hc2 (by simp; omega) (by simp; omega)
    rw [hdr]
    simp only [addO, addK]
    have e1 : (ds.length : Int) - 1 - (i : Int) = ((ds.length - 1 - i : Nat) : Int) := by omega
    have e3 : (ds.length : Int) - 1 - ((ds.length - 1 - i : Nat) : Int) = (i : Int) := by omega
    have e2 : (q : Int) + (p : Int) + (c : Int) = ((q + p + c : Nat) : Int) := by omega
    have e4 : ((ds.length - 1 - i : Nat) : Int) - 1 = (ds.length : Int) - 1 - ((i + 1 : Nat) : Int) := by omega
    refine evs (fun k => by rw [spec_rvAdd.l0]) ?_
    rw [e1, ic_length, w64 (x := (ds.length : Int) - 1) (by omega) (by omega), e3, w64 (x := (i : Int)) (by omega) (by omega), r1, r2, w64 (x := (q : Int) + (p : Int)) (by omega) (by omega), e2, w64n (q + p + c) (by omega), tmod_cast, tdiv_cast, w64n ((q + p + c) / b) (by omega), w64 (x := ((ds.length - 1 - i : Nat) : Int) - 1) (by omega) (by omega), e4]
    clear e1 e2 e3 e4
    refine evp (by omega) (evp (by omega) (evp (by omega) (evp (by omega) (evp (by omega) (evn (by omega) (evp (by rw [ic_length]; omega) ?_))))))
    simp only [Option.bind_some]
    refine evp (by simp only [List.length_cons, List.length_nil, ic_length]; omega) ?_
    simp only [ic_append, ic_cons, ic_nil] at h1
    simpa [ic_append, ic_cons, ic_nil, ic_reverse] using h1
theorem rvAdd_ev (ds : List Nat) (b : Nat) (hb : 2 ≤ b) (hb2 : b ≤ 16) (hl : ds.length ≤ 40) (hd : ∀ d ∈ ds, d < b) : Ev (fun k => spec_rvAdd.f k (ic ds) (b : Int)) (ic (addSum b ds), ic (addCar b ds)) := by
  have h := rvAdd_loop ds b hb hb2 hl hd ds.length 0 0 [] [] (by omega) (by omega) rfl rfl
  unfold spec_rvAdd.f
  rw [ic_length, w64 (x := (ds.length : Int) - 1) (by omega) (by omega)]
  simpa [addSum, addCar, ic_nil] using h

theorem compare_loop (b : Nat) (hb : 2 ≤ b) (post : List Nat) : ∀ (pre post' : List Nat), post'.length = post.length → (pre ++ post).length ≤ 1000000000000 → (∀ d ∈ post, d < b) → (∀ d ∈ post', d < b) →
    ∃ c : Int, (c < 0 ↔ val b 0 post < val b 0 post') ∧ Ev (fun k => slices_Compare_int_int.l0 k (ic (pre ++ post)) (ic (pre ++ post')) (ic (pre ++ post)) ((pre ++ post).length : Int) (pre.length : Int)) c := by
  induction post with
  | nil =>
    intro pre post' hl h _ _
    obtain rfl : post' = [] := List.eq_nil_of_length_eq_zero hl
    refine ⟨0, by simp, evs (fun k => by rw [slices_Compare_int_int.l0]) ?_⟩
    exact evn (by simp) (evn (by simp) (Ev.now _))
  | cons x post ih =>
    intro pre post' hl h hd hd'
    obtain ⟨y, post', rfl⟩ : ∃ y z, post' = y :: z := by cases post' with
      | nil => simp at hl
      | cons y z => exact ⟨y, z, rfl⟩
    have hl2 : post'.length = post.length := by simpa using hl
    have hA : (pre ++ x :: post).length = pre.length + (post.length + 1) := by simp
    have hB : (pre ++ y :: post').length = pre.length + (post.length + 1) := by simp; omega
    have hv := val_lt0 (b := b) post (fun d h => hd d (by simp [h]))
    have hv' := val_lt0 (b := b) post' (fun d h => hd' d (by simp [h]))
    rw [hl2] at hv'
    have hc : cmp_Compare_int.f (x : Int) (y : Int) = some (if x < y then -1 else if x > y then 1 else 0) := by
      unfold cmp_Compare_int.f cmp_isNaN_int.f
      simp only [bne_self_eq_false, Option.bind_some]
      by_cases h1 : x < y
      · rw [if_neg (by simp), if_neg (by simp), if_pos (by omega), if_pos h1]
      · by_cases h2 : x > y
        · rw [if_neg (by simp), if_neg (by simp), if_neg (by omega), if_pos (by omega), if_neg h1, if_pos h2]
        · rw [if_neg (by simp), if_neg (by simp), if_neg (by omega), if_neg (by omega), if_neg h1, if_neg h2]
    rw [val_cons, val_cons, hl2]
    by_cases h1 : x < y
    · have h5 : (x + 1) * b ^ post.length ≤ y * b ^ post.length := Nat.mul_le_mul_right _ h1
      rw [Nat.add_mul, Nat.one_mul] at h5
      refine ⟨-1, by constructor <;> intro _ <;> omega, evs (fun k => by rw [slices_Compare_int_int.l0]) ?_⟩
      rw [ic_rd, ic_rd, hc, ic_length, ic_length, hA, hB, if_pos h1]
      simp only [Option.bind_some]
      exact evp (by omega) (evp (by omega) (evp (by omega) (evn (by omega) (evp (by omega) (evn (by omega) (Ev.now _))))))
    · by_cases h2 : x > y
      · have h5 : (y + 1) * b ^ post.length ≤ x * b ^ post.length := Nat.mul_le_mul_right _ h2
        rw [Nat.add_mul, Nat.one_mul] at h5
        refine ⟨1, by constructor <;> intro _ <;> omega, evs (fun k => by rw [slices_Compare_int_int.l0]) ?_⟩
        rw [ic_rd, ic_rd, hc, ic_length, ic_length, hA, hB, if_neg h1, if_pos h2]
        simp only [Option.bind_some]
        exact evp (by omega) (evp (by omega) (evp (by omega) (evn (by omega) (evp (by omega) (evn (by omega) (Ev.now _))))))
      · obtain rfl : x = y := by omega
        obtain ⟨c, h3, h4⟩ := ih (pre ++ [x]) post' hl2 (by simp at h ⊢; omega) (fun d h => hd d (by simp [h])) (fun d h => hd' d (by simp [h]))
        refine ⟨c, by rw [h3]; omega, evs (fun k => by rw [slices_Compare_int_int.l0]) ?_⟩
        rw [List.append_assoc, List.singleton_append, List.append_assoc, List.singleton_append, hA] at h4
        have e3 : (((pre ++ [x]).length : Nat) : Int) = (pre.length : Int) + 1 := by simp
        rw [e3] at h4
        rw [ic_rd, ic_rd, hc, ic_length, ic_length, hA, hB, if_neg h1, if_neg h2, w64 (x := (pre.length : Int) + 1) (by omega) (by omega)]
        simp only [Option.bind_some]
        exact evp (by omega) (evp (by omega) (evp (by omega) (evn (by omega) (evp (by omega) (evp trivial h4)))))
theorem compare_ev (b : Nat) (hb : 2 ≤ b) (x y : List Nat) (hl : y.length = x.length) (h : x.length ≤ 1000000) (hx : ∀ d ∈ x, d < b) (hy : ∀ d ∈ y, d < b) : ∃ c : Int, (c < 0 ↔ val b 0 x < val b 0 y) ∧ Ev (fun k => slices_Compare_int_int.f k (ic x) (ic y)) c := by
  obtain ⟨c, h1, h2⟩ := compare_loop b hb x [] y hl (by simpa using (by omega : x.length ≤ 1000000000000)) hx hy
  refine ⟨c, h1, ?_⟩
  unfold slices_Compare_int_int.f
  rw [ic_length]
  simpa using h2

theorem rvLess_loop (b : Nat) (post : List Nat) : ∀ (pre post' : List Nat), post'.length = post.length → (pre ++ post).length ≤ 1000000000000 → (∀ d ∈ post, d < b) → (∀ d ∈ post', d < b) →
    Ev (fun k => spec_rvLess.l0 k (ic (pre ++ post)) (ic (pre ++ post')) ((pre ++ post).length : Int) (pre.length : Int)) (decide (val b 0 post < val b 0 post')) := by
  induction post with
  | nil =>
    intro pre post' hl h _ _
    obtain rfl : post' = [] := List.eq_nil_of_length_eq_zero hl
    refine evs (fun k => by rw [spec_rvLess.l0]) ?_
    exact evn (by simp) (evr (by simp))
  | cons x post ih =>
    intro pre post' hl h hd hd'
    obtain ⟨y, post', rfl⟩ : ∃ y z, post' = y :: z := by cases post' with
      | nil => simp at hl
      | cons y z => exact ⟨y, z, rfl⟩
    have hl2 : post'.length = post.length := by simpa using hl
    have hA : (pre ++ x :: post).length = pre.length + (post.length + 1) := by simp
    have hB : (pre ++ y :: post').length = pre.length + (post.length + 1) := by simp; omega
    have hv := val_lt0 (b := b) post (fun d h => hd d (by simp [h]))
    have hv' := val_lt0 (b := b) post' (fun d h => hd' d (by simp [h]))
    rw [hl2] at hv'
    rw [val_cons, val_cons, hl2]
    refine evs (fun k => by rw [spec_rvLess.l0]) ?_
    rw [ic_rd, ic_rd, ic_length, ic_length, hA, hB, w64 (x := (pre.length : Int) + 1) (by omega) (by omega)]
    refine evp (by omega) (evp (by omega) (evp (by omega) (evp (by omega) ?_)))
    by_cases h1 : x = y
    · subst h1
      have h4 := ih (pre ++ [x]) post' hl2 (by simp at h ⊢; omega) (fun d h => hd d (by simp [h])) (fun d h => hd' d (by simp [h]))
      rw [List.append_assoc, List.singleton_append, List.append_assoc, List.singleton_append, hA] at h4
      have e3 : (((pre ++ [x]).length : Nat) : Int) = (pre.length : Int) + 1 := by simp
      rw [e3] at h4
      have e4 : decide (x * b ^ post.length + val b 0 post < x * b ^ post.length + val b 0 post') = decide (val b 0 post < val b 0 post') := by
        by_cases h5 : val b 0 post < val b 0 post'
        · rw [decide_eq_true h5, decide_eq_true (by omega)]
        · rw [decide_eq_false h5, decide_eq_false (by omega)]
      rw [e4]
      exact evp rfl h4
    · refine evn (by omega) (evr ?_)
      by_cases h2 : x < y
      · have h5 : (x + 1) * b ^ post.length ≤ y * b ^ post.length := Nat.mul_le_mul_right _ h2
        rw [Nat.add_mul, Nat.one_mul] at h5
        rw [decide_eq_true (by omega), decide_eq_true (by omega)]
      · have h5 : (y + 1) * b ^ post.length ≤ x * b ^ post.length := Nat.mul_le_mul_right _ (by omega)
        rw [Nat.add_mul, Nat.one_mul] at h5
        rw [decide_eq_false (by omega), decide_eq_false (by omega)]
theorem strip_spec (post : List Int) : ∀ pre : List Int, post ≠ [] → (pre ++ post).length ≤ 1000 → Ev (fun k => spec_SubtractReversed.l1 k (pre ++ post) (pre.length : Int)) (strip post, true) := by
  induction post using strip.induct with
  | case1 => intro pre h; exact absurd rfl h
  | case2 x =>
    intro pre _ hl
    simp only [List.length_append, List.length_cons, List.length_nil] at hl
    refine evs (fun k => by rw [spec_SubtractReversed.l1]) ?_
    have hL : (((pre ++ [x]).length : Nat) : Int) = (pre.length : Int) + 1 := by simp
    rw [hL, w64 (by omega) (by omega)]
    refine evn (by omega) (evp (by omega) (evp (by omega) (evr ?_)))
    simp [strip]
  | case3 y l ih =>
    intro pre _ hl
    have h := ih (pre ++ [0]) (by simp) (by simpa using hl)
    have hx : rd (pre ++ 0 :: y :: l) (pre.length : Int) = 0 := rd_mid _ _ _
    simp only [List.length_append, List.length_cons] at hl
    refine evs (fun k => by rw [spec_SubtractReversed.l1]) ?_
    rw [hx, w64 (x := (((pre ++ 0 :: y :: l).length : Nat) : Int) - 1) (by simp; omega) (by simp; omega), w64 (x := (pre.length : Int) + 1) (by omega) (by omega)]
    refine evp (by simp; omega) (evp (by omega) (evp (by simp; omega) (evp rfl ?_)))
    have e3 : (((pre ++ [(0 : Int)]).length : Nat) : Int) = (pre.length : Int) + 1 := by simp
    rw [List.append_assoc, List.singleton_append, e3] at h
    simpa [strip] using h
  | case4 x y l hne =>
    intro pre _ hl
    have hx : rd (pre ++ x :: y :: l) (pre.length : Int) = x := rd_mid _ _ _
    simp only [List.length_append, List.length_cons] at hl
    refine evs (fun k => by rw [spec_SubtractReversed.l1]) ?_
    rw [hx, w64 (x := (((pre ++ x :: y :: l).length : Nat) : Int) - 1) (by simp; omega) (by simp; omega)]
    refine evp (by simp; omega) (evp (by omega) (evp (by simp; omega) (evn hne (evp (by simp; omega) (evr ?_)))))
    simp [strip, hne]
theorem strip_impl (l : List Int) : l ≠ [] → l.length ≤ 1000 → Ev (fun k => impl_SubtractReversed.l1 k l) (strip l, true) := by
  induction l using strip.induct with
  | case1 => intro h; exact absurd rfl h
  | case2 x =>
    intro _ hl
    refine evs (fun k => by rw [impl_SubtractReversed.l1]) ?_
    refine evn (by simp) ?_
    rw [clone_ev _ (by simp)]
    exact Ev.now _
  | case3 y l ih =>
    intro _ hl
    have h := ih (by simp) (by simp at hl ⊢; omega)
    refine evs (fun k => by rw [impl_SubtractReversed.l1]) ?_
    refine evp (by simp; omega) (evp (by simp; omega) (evp rfl (evp (by simp; omega) ?_)))
    simpa [strip] using h
  | case4 x y l hne =>
    intro _ hl
    have hx : rd (x :: y :: l) 0 = x := rfl
    refine evs (fun k => by rw [impl_SubtractReversed.l1]) ?_
    rw [hx]
    refine evp (by simp; omega) (evp (by simp; omega) (evn hne ?_))
    rw [clone_ev _ (by omega)]
    simp only [strip, if_neg hne]
    exact Ev.now _
theorem sub_spec (b : Nat) (hb2 : b ≤ 16) (r : List Int × Bool) (X : List Nat) : ∀ (Y TA TB : List Nat) (D : List Int) (c : Nat), X.length = Y.length → TA.length = TB.length → D.length = TA.length → X.length + TA.length ≤ 100 → c ≤ 1 → (∀ x ∈ X, x < b) → (∀ y ∈ Y, y < b) →
    Ev (fun k => spec_SubtractReversed.l1 k (ic (subP b c X Y).reverse ++ D) 0) r →
    Ev (fun k => spec_SubtractReversed.l0 k (b : Int) (ic (X.reverse ++ TA)) (ic (Y.reverse ++ TB)) (List.replicate X.length 0 ++ D) (c : Int) ((X.length : Int) - 1)) r := by
  induction X with
  | nil =>
    intro Y TA TB D c hl hT hD hn hc _ _ h
    obtain rfl : Y = [] := List.eq_nil_of_length_eq_zero hl.symm
    refine evs (fun k => by rw [spec_SubtractReversed.l0]) ?_
    refine evn (by simp) ?_
    simpa [subP, ic_nil] using h
  | cons x X ih =>
    intro Y TA TB D c hl hT hD hn hc hX hY h
    cases Y with
    | nil => simp at hl
    | cons y Y =>
      have hx := hX x (by simp)
      have hy := hY y (by simp)
      have hl2 : X.length = Y.length := by simpa using hl
      simp only [List.length_cons] at hn
      have ea : (x :: X).reverse ++ TA = X.reverse ++ x :: TA := by simp
      have eb : (y :: Y).reverse ++ TB = Y.reverse ++ y :: TB := by simp
      have ra : rd (ic (X.reverse ++ x :: TA)) (X.length : Int) = (x : Int) := by
        have := ic_rd X.reverse TA x
        rwa [List.length_reverse] at this
      have rb : rd (ic (Y.reverse ++ y :: TB)) (X.length : Int) = (y : Int) := by
        have := ic_rd Y.reverse TB y
        rwa [List.length_reverse, ← hl2] at this
      have eo : ∀ v : Int, (List.replicate (X.length + 1) (0 : Int) ++ D).set X.length v = List.replicate X.length 0 ++ v :: D := by
        intro v
        rw [List.replicate_succ', List.append_assoc, List.singleton_append]
        have := set_mid (List.replicate X.length (0 : Int)) D 0 v
        rwa [List.length_replicate] at this
      have e1 : ((((x :: X).length : Nat)) : Int) - 1 = (X.length : Int) := by simp
      have lA : (((ic (X.reverse ++ x :: TA)).length : Nat) : Int) = (X.length : Int) + 1 + (TA.length : Int) := by rw [ic_length]; simp; omega
      have lB : (((ic (Y.reverse ++ y :: TB)).length : Nat) : Int) = (X.length : Int) + 1 + (TA.length : Int) := by rw [ic_length]; simp; omega
      have lO : (((List.replicate (X.length + 1) (0 : Int) ++ D).length : Nat) : Int) = (X.length : Int) + 1 + (TA.length : Int) := by simp; omega
      refine evs (fun k => by rw [spec_SubtractReversed.l0]) ?_
      rw [e1, ea, eb, ra, rb, w64 (x := (x : Int) - (y : Int)) (by omega) (by omega), w64 (x := (x : Int) - (y : Int) - (c : Int)) (by omega) (by omega), w64 (x := (x : Int) - (y : Int) - (c : Int) + (b : Int)) (by omega) (by omega), w64 (x := (X.length : Int) - 1) (by omega) (by omega), Int.toNat_natCast, List.length_cons, eo, eo, lA, lB, lO]
      refine evp (by omega) (evp (by omega) (evp (by omega) (evp (by omega) ?_)))
      by_cases hlt : x < y + c
      · simp only [subP, if_pos hlt, List.reverse_cons, ic_append, ic_cons, ic_nil, List.append_assoc, List.singleton_append] at h
        have hv : (((x + b - (y + c) : Nat)) : Int) = (x : Int) - (y : Int) - (c : Int) + (b : Int) := by omega
        rw [hv] at h
        have h2 := ih Y (x :: TA) (y :: TB) (((x : Int) - (y : Int) - (c : Int) + (b : Int)) :: D) 1 hl2 (by simp; omega) (by simp; omega) (by simp; omega) (by omega) (fun z hz => hX z (by simp [hz])) (fun z hz => hY z (by simp [hz])) h
        exact evp (by omega) (evp (by omega) h2)
      · simp only [subP, if_neg hlt, List.reverse_cons, ic_append, ic_cons, ic_nil, List.append_assoc, List.singleton_append] at h
        have hv : (((x - (y + c) : Nat)) : Int) = (x : Int) - (y : Int) - (c : Int) := by omega
        rw [hv] at h
        have h2 := ih Y (x :: TA) (y :: TB) (((x : Int) - (y : Int) - (c : Int)) :: D) 0 hl2 (by simp; omega) (by simp; omega) (by simp; omega) (by omega) (fun z hz => hX z (by simp [hz])) (fun z hz => hY z (by simp [hz])) h
        exact evn (by omega) (evp (by omega) h2)
def preA (c : Nat) (D : List Int) : List Nat → List Int
  | [] => D
  | x :: X => ic X.reverse ++ ((x : Int) - (c : Int)) :: D
theorem sub_impl (b : Nat) (hb2 : b ≤ 16) (r : List Int × Bool) (X : List Nat) : ∀ (Y TB : List Nat) (D : List Int) (c : Nat), X.length = Y.length → D.length = TB.length → X.length + TB.length ≤ 100 → c ≤ 1 → (∀ x ∈ X, x < b) → (∀ y ∈ Y, y < b) → subC c X Y = 0 →
    Ev (fun k => impl_SubtractReversed.l1 k (ic (subP b c X Y).reverse ++ D)) r →
    Ev (fun k => impl_SubtractReversed.l0 k (b : Int) (preA c D X) (ic (Y.reverse ++ TB)) ((X.length : Int) - 1)) r := by
  induction X with
  | nil =>
    intro Y TB D c hl hD hn hc _ _ hs h
    obtain rfl : Y = [] := List.eq_nil_of_length_eq_zero hl.symm
    refine evs (fun k => by rw [impl_SubtractReversed.l0]) ?_
    refine evn (by simp) ?_
    simpa [subP, ic_nil, preA] using h
  | cons x X ih =>
    intro Y TB D c hl hD hn hc hX hY hs h
    cases Y with
    | nil => simp at hl
    | cons y Y =>
      have hx := hX x (by simp)
      have hy := hY y (by simp)
      have hl2 : X.length = Y.length := by simpa using hl
      simp only [List.length_cons] at hn
      have eb : (y :: Y).reverse ++ TB = Y.reverse ++ y :: TB := by simp
      have lR : (ic X.reverse).length = X.length := by rw [ic_length, List.length_reverse]
      have ra : rd (ic X.reverse ++ ((x : Int) - (c : Int)) :: D) (X.length : Int) = (x : Int) - (c : Int) := by
        have := rd_mid (ic X.reverse) D ((x : Int) - (c : Int))
        rwa [lR] at this
      have rb : rd (ic (Y.reverse ++ y :: TB)) (X.length : Int) = (y : Int) := by
        have := ic_rd Y.reverse TB y
        rwa [List.length_reverse, ← hl2] at this
      have es : ∀ u v : Int, (ic X.reverse ++ u :: D).set X.length v = ic X.reverse ++ v :: D := by
        intro u v
        have := set_mid (ic X.reverse) D u v
        rwa [lR] at this
      have e1 : ((((x :: X).length : Nat)) : Int) - 1 = (X.length : Int) := by simp
      have lA : (((ic X.reverse ++ ((x : Int) - (c : Int)) :: D).length : Nat) : Int) = (X.length : Int) + 1 + (TB.length : Int) := by rw [List.length_append, lR, List.length_cons]; omega
      have lB : (((ic (Y.reverse ++ y :: TB)).length : Nat) : Int) = (X.length : Int) + 1 + (TB.length : Int) := by rw [ic_length]; simp; omega
      refine evs (fun k => by rw [impl_SubtractReversed.l0]) ?_
      rw [e1]
      rw [show preA c D (x :: X) = ic X.reverse ++ ((x : Int) - (c : Int)) :: D from rfl]
      simp only [Option.bind_some]
      rw [eb, ra, rb, w64 (x := (x : Int) - (c : Int) - (y : Int)) (by omega) (by omega), w64 (x := (x : Int) - (c : Int) - (y : Int) + (b : Int)) (by omega) (by omega), w64 (x := (X.length : Int) - 1) (by omega) (by omega), Int.toNat_natCast, es, es, lA, lB]
      refine evp (by omega) (evp (by omega) (evp (by omega) (evp (by omega) ?_)))
      by_cases hlt : x < y + c
      · simp only [subC, if_pos hlt] at hs
        simp only [subP, if_pos hlt, List.reverse_cons, ic_append, ic_cons, ic_nil, List.append_assoc, List.singleton_append] at h
        have hv : (((x + b - (y + c) : Nat)) : Int) = (x : Int) - (c : Int) - (y : Int) + (b : Int) := by omega
        rw [hv] at h
        cases X with
        | nil =>
          obtain rfl : Y = [] := List.eq_nil_of_length_eq_zero hl2.symm
          simp [subC] at hs
        | cons x2 X2 =>
          have h2 := ih Y (y :: TB) (((x : Int) - (c : Int) - (y : Int) + (b : Int)) :: D) 1 hl2 (by simp; omega) (by simp at hn ⊢; omega) (by omega) (fun z hz => hX z (by simp [hz])) (fun z hz => hY z (by simp [hz])) hs h
          have hx2 := hX x2 (by simp)
          have e2 : ic (x2 :: X2).reverse ++ ((x : Int) - (c : Int) - (y : Int) + (b : Int)) :: D = ic X2.reverse ++ (x2 : Int) :: (((x : Int) - (c : Int) - (y : Int) + (b : Int)) :: D) := by simp [ic]
          have e3 : ((((x2 :: X2).length : Nat)) : Int) - 1 = (X2.length : Int) := by simp
          have lR2 : (ic X2.reverse).length = X2.length := by rw [ic_length, List.length_reverse]
          have r2 : rd (ic X2.reverse ++ (x2 : Int) :: (((x : Int) - (c : Int) - (y : Int) + (b : Int)) :: D)) (X2.length : Int) = (x2 : Int) := by
            have := rd_mid (ic X2.reverse) (((x : Int) - (c : Int) - (y : Int) + (b : Int)) :: D) (x2 : Int)
            rwa [lR2] at this
          have s2 : (ic X2.reverse ++ (x2 : Int) :: (((x : Int) - (c : Int) - (y : Int) + (b : Int)) :: D)).set X2.length ((x2 : Int) - 1) = ic X2.reverse ++ ((x2 : Int) - 1) :: (((x : Int) - (c : Int) - (y : Int) + (b : Int)) :: D) := by
            have := set_mid (ic X2.reverse) (((x : Int) - (c : Int) - (y : Int) + (b : Int)) :: D) (x2 : Int) ((x2 : Int) - 1)
            rwa [lR2] at this
          rw [e3] at h2 ⊢
          rw [e2, r2, w64 (x := (x2 : Int) - 1) (by omega) (by omega), Int.toNat_natCast, s2]
          simp only [preA] at h2
          simp only [List.length_cons] at hn ⊢
          exact evp (by omega) (evp (by omega) (evp (by omega) (by simpa using h2)))
      · simp only [subC, if_neg hlt] at hs
        simp only [subP, if_neg hlt, List.reverse_cons, ic_append, ic_cons, ic_nil, List.append_assoc, List.singleton_append] at h
        have hv : (((x - (y + c) : Nat)) : Int) = (x : Int) - (c : Int) - (y : Int) := by omega
        rw [hv] at h
        have h2 := ih Y (y :: TB) (((x : Int) - (c : Int) - (y : Int)) :: D) 0 hl2 (by simp; omega) (by simp; omega) (by omega) (fun z hz => hX z (by simp [hz])) (fun z hz => hY z (by simp [hz])) hs h
        have ep : preA 0 (((x : Int) - (c : Int) - (y : Int)) :: D) X = ic X.reverse ++ ((x : Int) - (c : Int) - (y : Int)) :: D := by
          cases X with
          | nil => rfl
          | cons x2 X2 => simp [preA, ic]
        rw [ep] at h2
        exact evn (by omega) h2
theorem sub_j0 (b : Nat) (hb2 : b ≤ 16) (A B : List Nat) (hl : A.length = B.length) (h1 : 1 ≤ A.length) (h2 : A.length ≤ 40) (hA : ∀ x ∈ A, x < b) (hB : ∀ x ∈ B, x < b) (hv : val b 0 B ≤ val b 0 A) :
    ∃ r : List Int × Bool, r.2 = true ∧ r.1.length ≤ 40 ∧ Ev (fun k => spec_SubtractReversed.j0 k (b : Int) (ic A) (ic B)) r ∧ Ev (fun k => impl_SubtractReversed.j0 k (b : Int) (ic A) (ic B)) r := by
  have hlr : A.reverse.length = B.reverse.length := by simp [hl]
  have hs : subC 0 A.reverse B.reverse = 0 := by
    refine (subC_le (b := b) A.reverse B.reverse 0 hlr (by omega) (fun x hx => hA x (List.mem_reverse.1 hx)) (fun x hx => hB x (List.mem_reverse.1 hx))).2 ?_
    rw [lval_rev, lval_rev, List.reverse_reverse, List.reverse_reverse]
    omega
  have hpl := subP_length b A.reverse B.reverse 0 hlr
  have hne : ic (subP b 0 A.reverse B.reverse).reverse ≠ [] := by
    intro h
    have := congrArg List.length h
    rw [ic_length, List.length_reverse, hpl, List.length_reverse] at this
    have h9 : A.length = 0 := this
    omega
  have hlen : (ic (subP b 0 A.reverse B.reverse).reverse).length ≤ 40 := by rw [ic_length, List.length_reverse, hpl, List.length_reverse]; omega
  have hst := strip_length (ic (subP b 0 A.reverse B.reverse).reverse)
  refine ⟨(strip (ic (subP b 0 A.reverse B.reverse).reverse), true), rfl, by simp only; omega, ?_, ?_⟩
  · have h3 := strip_spec (ic (subP b 0 A.reverse B.reverse).reverse) [] hne (by simpa using (by omega : (ic (subP b 0 A.reverse B.reverse).reverse).length ≤ 1000))
    have h4 := sub_spec b hb2 _ A.reverse B.reverse [] [] [] 0 hlr rfl rfl (by simp; omega) (by omega) (fun x hx => hA x (List.mem_reverse.1 hx)) (fun x hx => hB x (List.mem_reverse.1 hx)) (by simpa using h3)
    refine evs (fun k => by rw [spec_SubtractReversed.j0]) ?_
    rw [ic_length, Int.toNat_natCast, w64 (x := (A.length : Int) - 1) (by omega) (by omega)]
    refine evp (by omega) (evp (by omega) ?_)
    simpa using h4
  · have h3 := strip_impl (ic (subP b 0 A.reverse B.reverse).reverse) hne (by omega)
    have h4 := sub_impl b hb2 _ A.reverse B.reverse [] [] 0 hlr rfl (by simp; omega) (by omega) (fun x hx => hA x (List.mem_reverse.1 hx)) (fun x hx => hB x (List.mem_reverse.1 hx)) hs (by simpa using h3)
    have hp : preA 0 [] A.reverse = ic A := by
      cases hc : A.reverse with
      | nil =>
        have := congrArg List.length hc
        rw [List.length_reverse] at this
        have h9 : A.length = 0 := this
        omega
      | cons x X =>
        have e : A = X.reverse ++ [x] := by rw [← List.reverse_reverse A, hc]; simp
        rw [e]
        simp [preA, ic]
    refine evs (fun k => by rw [impl_SubtractReversed.j0]) ?_
    rw [ic_length, w64 (x := (A.length : Int) - 1) (by omega) (by omega)]
    rw [hp] at h4
    simpa using h4
theorem sub_both (l : List Int) (b : Int) (hl : l.length ≤ 1000000) : ∃ r : List Int × Bool, r.2 = gd l b ∧ r.1.length ≤ 40 ∧ Ev (fun k => spec_SubtractReversed.f k l b) r ∧ Ev (fun k => impl_SubtractReversed.f k l b) r := by
  by_cases hg : gd l b = true
  · obtain ⟨ds, B, rfl, rfl, g1, g2, g3, g4, g5, g6⟩ := gd_nat hg
    have hr : ∀ x ∈ ds.reverse, x < B := fun x hx => g5 x (List.mem_reverse.1 hx)
    obtain ⟨c, c1, c2⟩ := compare_ev B g1 ds ds.reverse (by simp) (by omega) g5 hr
    have hless : Ev (fun k => spec_rvLess.f k (ic ds) (ic ds.reverse)) (decide (val B 0 ds < val B 0 ds.reverse)) := by
      unfold spec_rvLess.f
      rw [ic_length]
      simpa using rvLess_loop B ds [] ds.reverse (by simp) (by simpa using (by omega : ds.length ≤ 1000000000000)) g5 hr
    have hback : Ev (fun k => spec_dgBack.f k (ic ds)) (ic ds.reverse) := by
      rw [ic_reverse]
      exact dgBack_ev (ic ds) (by rw [ic_length]; omega)
    have key : ∃ r : List Int × Bool, r.2 = true ∧ r.1.length ≤ 40 ∧ Ev (fun k => if decide (val B 0 ds < val B 0 ds.reverse) = true then spec_SubtractReversed.j0 k (B : Int) (ic ds.reverse) (ic ds) else spec_SubtractReversed.j0 k (B : Int) (ic ds) (ic ds.reverse)) r ∧ Ev (fun k => if c < 0 then impl_SubtractReversed.j0 k (B : Int) (ic ds.reverse) (ic ds) else impl_SubtractReversed.j0 k (B : Int) (ic ds) (ic ds.reverse)) r := by
      by_cases h : val B 0 ds < val B 0 ds.reverse
      · obtain ⟨r, r1, r2, r3, r4⟩ := sub_j0 B g2 ds.reverse ds (by simp) (by simpa using g3) (by simpa using g4) hr g5 (by omega)
        exact ⟨r, r1, r2, evp (decide_eq_true h) r3, evp (c1.2 h) r4⟩
      · obtain ⟨r, r1, r2, r3, r4⟩ := sub_j0 B g2 ds ds.reverse (by simp) g3 g4 g5 hr (by omega)
        exact ⟨r, r1, r2, evn (by rw [decide_eq_true_eq]; exact h) r3, evn (fun hx => h (c1.1 hx)) r4⟩
    obtain ⟨r, r1, r2, r3, r4⟩ := key
    refine ⟨r, by rw [r1, hg], r2, ?_, ?_⟩
    · unfold spec_SubtractReversed.f
      refine evb (spec_rvGood_ev _ _ (by rw [ic_length]; omega)) (evp hg ?_)
      exact evc (l1Own_ev _ (by rw [ic_length]; omega)) (evb hback (evb hless r3))
    · unfold impl_SubtractReversed.f
      exact evc (impl_isLong_eq _ _) (evp hg (evc (clone_ev _ (by rw [ic_length]; omega)) (evb (reversed_ev0 ds (by omega)) (evb c2 r4))))
  · refine ⟨([], false), by simp only [Bool.not_eq_true] at hg; rw [hg], by simp, ?_, ?_⟩
    · unfold spec_SubtractReversed.f
      exact evb (spec_rvGood_ev _ _ (by omega)) (evn hg (Ev.now _))
    · unfold impl_SubtractReversed.f
      exact evc (impl_isLong_eq _ _) (evn hg (Ev.now _))

theorem low_byte (x : Int) : 0 ≤ Go.bits .and .u64 ((IntKind.u64.wrap x) / 1099511627776) 255 ∧ Go.bits .and .u64 ((IntKind.u64.wrap x) / 1099511627776) 255 ≤ 255 := by
  have h0 : 0 ≤ IntKind.u64.wrap x ∧ IntKind.u64.wrap x < 18446744073709551616 := by rw [IntKind.wrap_u64]; omega
  obtain ⟨y, hy⟩ := Int.eq_ofNat_of_zero_le (show 0 ≤ IntKind.u64.wrap x / 1099511627776 by omega)
  rw [hy]
  have h1 := bits_and_u64_nat y 255 (by omega) (by omega)
  have e : y &&& 255 = y % 256 := Nat.and_two_pow_sub_one_eq_mod y 8
  rw [e] at h1
  rw [show ((255 : Int)) = ((255 : Nat) : Int) from rfl, h1]
  omega
theorem next_ok (l : List Int) (hl : ∀ x ∈ l, 0 ≤ x ∧ x ≤ 255) (p s : Int) (h0 : 0 ≤ p) (h1 : p ≤ 1000000000000) :
    ∃ v s' : Int, spec_l1Cur_next.f l p s = some (v, p + 1, s') ∧ 0 ≤ v ∧ v ≤ 255 := by
  unfold spec_l1Cur_next.f
  rw [w64 (x := p + 1) (by omega) (by omega)]
  by_cases hp : p < (l.length : Int)
  · have hm := hl _ (rd_mem l p h0 hp)
    rw [if_pos hp, if_pos h0]
    by_cases hq : p + 1 ≤ (l.length : Int)
    · rw [if_pos hq]
      refine ⟨_, _, rfl, ?_⟩
      rw [w64 (by omega) (by omega)]
      exact hm
    · omega
  · rw [if_neg hp]
    by_cases hq : p + 1 ≤ (l.length : Int)
    · omega
    · rw [if_neg hq]
      refine ⟨_, _, rfl, ?_⟩
      have h := low_byte (IntKind.u64.wrap (IntKind.u64.wrap (s * 6364136223846793005)) + 1442695040888963407)
      rw [w64 (by omega) (by omega)]
      exact h
theorem pick_ok (l : List Int) (hl : ∀ x ∈ l, 0 ≤ x ∧ x ≤ 255) (p s n : Int) (h0 : 0 ≤ p) (h1 : p ≤ 999999999990) (hn : n ≤ 1000000) :
    ∃ v p' s' : Int, spec_l1Cur_pick.f l p s n = some (v, p', s') ∧ 0 ≤ v ∧ v ≤ 1000000 ∧ (v = 0 ∨ v < n) ∧ p ≤ p' ∧ p' ≤ p + 2 := by
  unfold spec_l1Cur_pick.f
  by_cases h : n ≤ 1
  · rw [if_pos h]
    exact ⟨0, p, s, rfl, by omega, by omega, by omega, by omega, by omega⟩
  · rw [if_neg h]
    obtain ⟨v, s1, e1, h2, h3⟩ := next_ok l hl p s h0 (by omega)
    rw [e1]
    simp only [Option.bind_some]
    by_cases h4 : n > 200
    · rw [if_pos h4]
      obtain ⟨v2, s2, e2, h5, h6⟩ := next_ok l hl (p + 1) s1 (by omega) (by omega)
      rw [e2]
      simp only [Option.bind_some]
      rw [if_neg (by omega), w64 (x := v * 256) (by omega) (by omega), w64 (by omega) (by omega)]
      have h7 := Int.tmod_nonneg n (show 0 ≤ v * 256 + v2 by omega)
      have h8 := Int.tmod_lt_of_pos (v * 256 + v2) (show 0 < n by omega)
      exact ⟨_, _, _, rfl, h7, by omega, Or.inr h8, by omega, by omega⟩
    · rw [if_neg h4, if_neg (by omega)]
      have h7 := Int.tmod_nonneg n (show 0 ≤ v by omega)
      have h8 := Int.tmod_lt_of_pos v (show 0 < n by omega)
      exact ⟨_, _, _, rfl, h7, by omega, Or.inr h8, by omega, by omega⟩
theorem among_ok (l : List Int) (hl : ∀ x ∈ l, 0 ≤ x ∧ x ≤ 255) (p s : Int) (m : List Int) (hm : m ≠ []) (hm2 : m.length ≤ 1000000) (h0 : 0 ≤ p) (h1 : p ≤ 999999999990) :
    ∃ v p' s' : Int, spec_l1Cur_among.f l p s m = some (v, p', s') ∧ v ∈ m ∧ p ≤ p' ∧ p' ≤ p + 2 := by
  unfold spec_l1Cur_among.f
  have hpos := List.length_pos_iff.2 hm
  obtain ⟨v, p', s', e1, h2, h3, h4, h5, h6⟩ := pick_ok l hl p s m.length h0 h1 (by omega)
  rw [e1]
  simp only [Option.bind_some]
  rw [if_pos h2, if_pos (by omega)]
  exact ⟨_, _, _, rfl, rd_mem m v h2 (by omega), h5, h6⟩

theorem most_eq (a : Int) : spec_l1Most.f 1 a = some (if 1 > a then 1 else a) := by
  unfold spec_l1Most.f
  by_cases h : 1 > a
  · rw [if_pos h, if_pos h]
  · rw [if_neg h, if_neg h]
theorem digits_loop (l : List Int) (hl : ∀ x ∈ l, 0 ≤ x ∧ x ≤ 255) (b : Int) (hb : b ≤ 100) (d : Nat) : ∀ (L : List Int) (p s : Int), 0 ≤ p → p + 2 * (d : Int) ≤ 1000 → 1 ≤ L.length → L.length + d ≤ 60 →
    ∃ (R : List Int) (p' s' : Int), Ev (fun k => spec_l1Cur_digits.l0 k b L (d : Int) l p s) (R, b, p', s') ∧ R.length ≤ 60 ∧ p ≤ p' ∧ p' ≤ p + 2 * (d : Int) + 10 := by
  induction d with
  | zero =>
    intro L p s h0 h1 hL1 hL
    obtain ⟨v, p1, s1, e1, a1, _, c1, d1, f1⟩ := pick_ok l hl p s 16 h0 (by omega) (by omega)
    by_cases g0 : v = 0
    · obtain ⟨w, p2, s2, e2, a2, _, c2, d2, f2⟩ := pick_ok l hl p1 s1 (L.length : Int) (by omega) (by omega) (by omega)
      obtain ⟨x, p3, s3, e3, _, d3, f3⟩ := among_ok l hl p2 s2 [(-1), 0, b, 4611686018427387904] (by simp) (by simp) (by omega) (by omega)
      refine ⟨L.set w.toNat x, p3, s3, evs (fun k => by rw [spec_l1Cur_digits.l0]) (evn (by omega) ?_), by simp; omega, by omega, by omega⟩
      simp only [e1, e2, e3, Option.bind_some]
      exact evp g0 (evp a2 (evp (by omega) (Ev.now _)))
    · by_cases g1 : v = 1
      · obtain ⟨x, p3, s3, e3, hx, d3, f3⟩ := among_ok l hl p1 s1 [0, 1, 2] (by simp) (by simp) (by omega) (by omega)
        have hx2 : 0 ≤ x ∧ x ≤ 2 := by
          simp only [List.mem_cons, List.not_mem_nil, or_false] at hx
          omega
        refine ⟨List.replicate x.toNat 0, p3, s3, evs (fun k => by rw [spec_l1Cur_digits.l0]) (evn (by omega) ?_), by simp; omega, by omega, by omega⟩
        simp only [e1, e3, Option.bind_some]
        exact evn g0 (evp g1 (evp hx2.1 (evp (by omega) (Ev.now _))))
      · by_cases g2 : v = 2
        · obtain ⟨w, p2, s2, e2, a2, _, c2, d2, f2⟩ := pick_ok l hl p1 s1 2 (by omega) (by omega) (by omega)
          refine ⟨(List.replicate (40 + w).toNat 0).set 0 1, p2, s2, evs (fun k => by rw [spec_l1Cur_digits.l0]) (evn (by omega) ?_), by simp; omega, by omega, by omega⟩
          simp only [e1, e2, Option.bind_some]
          rw [w64 (x := (40 : Int) + w) (by omega) (by omega)]
          exact evn g0 (evn g1 (evp g2 (evp (by omega) (evp (by omega) (evp (by simp; omega) (Ev.now _))))))
        · refine ⟨L, p1, s1, evs (fun k => by rw [spec_l1Cur_digits.l0]) (evn (by omega) ?_), by omega, by omega, by omega⟩
          simp only [e1, Option.bind_some]
          exact evn g0 (evn g1 (evn g2 (Ev.now _)))
  | succ d ih =>
    intro L p s h0 h1 hL1 hL
    obtain ⟨v, p1, s1, e1, a1, _, c1, d1, f1⟩ := pick_ok l hl p s (if 1 > b then 1 else b) h0 (by omega) (by split <;> omega)
    obtain ⟨R, p2, s2, e2, g1, g2, g3⟩ := ih (L ++ [v]) p1 s1 (by omega) (by omega) (by simp) (by simp; omega)
    refine ⟨R, p2, s2, evs (fun k => by rw [spec_l1Cur_digits.l0]) (evp (by omega) ?_), g1, by omega, by omega⟩
    simp only [most_eq, e1, Option.bind_some]
    rw [w64 (x := (((d + 1 : Nat)) : Int) - 1) (by omega) (by omega), show (((d + 1 : Nat)) : Int) - 1 = (d : Int) by omega]
    exact evp (by omega) e2
theorem base_le (l : List Int) (hl : ∀ x ∈ l, 0 ≤ x ∧ x ≤ 255) (p s : Int) (h0 : 0 ≤ p) (h1 : p ≤ 999999999990) : ∃ v p' s' : Int, spec_l1Cur_base.f l p s = some (v, p', s') ∧ 0 ≤ v ∧ v ≤ 17 ∧ p ≤ p' ∧ p' ≤ p + 2 := by
  unfold spec_l1Cur_base.f
  obtain ⟨v, p', s', e, hm, h2, h3⟩ := among_ok l hl p s [10, 10, 10, 2, 3, 5, 7, 16, 12, 10, 10, 16, 1, 17, 0] (by simp) (by simp) h0 h1
  have hv : 0 ≤ v ∧ v ≤ 17 := by
    simp only [List.mem_cons, List.not_mem_nil, or_false] at hm
    omega
  rw [e]
  exact ⟨_, _, _, rfl, hv.1, hv.2, h2, h3⟩
theorem digits_ok (l : List Int) (hl : ∀ x ∈ l, 0 ≤ x ∧ x ≤ 255) (p s m : Int) (h0 : 0 ≤ p) (h1 : p ≤ 100) (hm : m ≤ 20) : ∃ (R : List Int) (b p' s' : Int), Ev (fun k => spec_l1Cur_digits.f k l p s m) (R, b, p', s') ∧ R.length ≤ 60 ∧ p ≤ p' ∧ p' ≤ p + 200 := by
  obtain ⟨b, p1, s1, e1, a1, b1, d1, f1⟩ := base_le l hl p s h0 (by omega)
  obtain ⟨v, p2, s2, e2, a2, _, c2, d2, f2⟩ := pick_ok l hl p1 s1 (if 1 > wrap64 (b - 1) then 1 else wrap64 (b - 1)) (by omega) (by omega) (by rw [w64 (by omega) (by omega)]; split <;> omega)
  obtain ⟨w, p3, s3, e3, a3, _, c3, d3, f3⟩ := pick_ok l hl p2 s2 m (by omega) (by omega) (by omega)
  obtain ⟨d, rfl⟩ := natOf (a := w) a3
  obtain ⟨R, p4, s4, e4, g1, g2, g3⟩ := digits_loop l hl b (by omega) d [wrap64 (1 + v)] p3 s3 (by omega) (by omega) (by simp) (by simp; omega)
  refine ⟨R, b, p4, s4, ?_, g1, by omega, by omega⟩
  simp only [spec_l1Cur_digits.f, e1, most_eq, e2, e3, Option.bind_some]
  exact e4
theorem added_ok (l : List Int) (hl : ∀ x ∈ l, 0 ≤ x ∧ x ≤ 255) : ∃ (R : List Int) (b p s : Int), Ev (fun k => spec_l1Cur_added.f k l 0 0) (R, b, p, s) ∧ R.length ≤ 60 := by
  obtain ⟨L, b, p, s, e, h1, h2, h3⟩ := digits_ok l hl 0 0 7 (by omega) (by omega) (by omega)
  have no : ∀ p s : Int, Ev (fun k => spec_l1Cur_added.j0 k L b false l p s) (L, b, p, s) := by
    intro p s
    refine evs (fun k => by rw [spec_l1Cur_added.j0]) ?_
    exact evn (by simp) (Ev.now _)
  unfold spec_l1Cur_added.f
  have hgood := spec_rvGood_ev L b (by omega)
  by_cases hg : gd L b = true
  · obtain ⟨v, p1, s1, e1, _⟩ := pick_ok l hl p s 2 (by omega) (by omega) (by omega)
    have hj : ∀ t : Bool, ∃ (R : List Int) (b' p' s' : Int), Ev (fun k => spec_l1Cur_added.j0 k L b t l p1 s1) (R, b', p', s') ∧ R.length ≤ 60 := by
      intro t
      cases t with
      | false => exact ⟨L, b, p1, s1, no _ _, h1⟩
      | true =>
        obtain ⟨ds, B, rfl, rfl, g1, g2, g3, g4, g5, g6⟩ := gd_nat hg
        have hadd := rvAdd_ev ds B g1 g2 g4 g5
        by_cases hc : ((ic (addSum B ds)).length : Int) ≤ 40
        · refine ⟨ic (addSum B ds), B, p1, s1, ?_, by omega⟩
          refine evs (fun k => by rw [spec_l1Cur_added.j0]) ?_
          exact evp rfl (evb hadd (evp hc (Ev.now _)))
        · refine ⟨ic ds, B, p1, s1, ?_, h1⟩
          refine evs (fun k => by rw [spec_l1Cur_added.j0]) ?_
          exact evp rfl (evb hadd (evn hc (Ev.now _)))
    obtain ⟨R, b', p', s', hj1, hj2⟩ := hj (v == 0)
    refine ⟨R, b', p', s', evb e (evb hgood (evp hg ?_)), hj2⟩
    simp only [spec_l1Cur_one.f, e1, Option.bind_some]
    exact hj1
  · exact ⟨L, b, p, s, evb e (evb hgood (evn hg (no _ _))), h1⟩

theorem slices_Index_int_int_loop (x : Int) (whole : List Int) (post : List Int) : ∀ pre : List Int, whole = pre ++ post → whole.length ≤ 4611686018427387904 →
    Ev (fun k => slices_Index_int_int.l0 k whole x (whole.length : Int) (pre.length : Int)) (idxI x post pre.length) := by
  induction post with
  | nil =>
    intro pre hw h
    refine evs (fun k => by rw [slices_Index_int_int.l0]) ?_
    exact evn (by simp [hw]) (Ev.now _)
  | cons y post ih =>
    intro pre hw h
    have hl : whole.length = pre.length + (post.length + 1) := by simp [hw]
    have hx : rd whole (pre.length : Int) = y := by rw [hw, rd_mid]
    refine evs (fun k => by rw [slices_Index_int_int.l0]) ?_
    rw [hx]
    refine evp (by omega) (evp (by omega) (evp (by omega) ?_))
    by_cases he : x = y
    · exact evp he (evr (by simp [idxI, he]))
    · refine evn he ?_
      have h2 := ih (pre ++ [y]) (by simp [hw]) h
      rw [w64 (by omega) (by omega)]
      simpa [idxI, he] using h2
theorem slices_Index_int_int_ev (l : List Int) (x : Int) (h : l.length ≤ 4611686018427387904) : Ev (fun k => slices_Index_int_int.f k l x) (idxI x l 0) := by
  unfold slices_Index_int_int.f
  simpa using slices_Index_int_int_loop x l l [] rfl h

theorem contains_ev (l : List Int) (x : Int) (h : l.length ≤ 4611686018427387904) : Ev (fun k => slices_Contains_int_int.f k l x) (decide (x ∈ l)) := by
  unfold slices_Contains_int_int.f
  refine evb (slices_Index_int_int_ev l x h) (evr ?_)
  have := (idxI_ge x l 0).1
  by_cases hm : x ∈ l <;> simp [hm, this] <;> omega

theorem laws_qSum_loop (post : List Nat) : ∀ (pre : List Nat) (a : Nat), (pre ++ post).length ≤ 1000000000000 → a + lsum post ≤ 1000000000000000000 →
    Ev (fun k => laws_qSum.l0 k (a : Int) (ic (pre ++ post)) ((pre ++ post).length : Int) (pre.length : Int)) ((a + lsum post : Nat) : Int) := by
  induction post with
  | nil =>
    intro pre a h1 h2
    refine evs (fun k => by rw [laws_qSum.l0]) ?_
    exact evn (by simp) (evr (by simp [lsum]))
  | cons d post ih =>
    intro pre a h1 h2
    simp only [lsum] at h2
    have hl : (pre ++ d :: post).length = pre.length + (post.length + 1) := by simp
    have h3 := ih (pre ++ [d]) (a + d) (by simp at h1 ⊢; omega) (by omega)
    rw [List.append_assoc, List.singleton_append] at h3
    refine evs (fun k => by rw [laws_qSum.l0]) ?_
    rw [ic_rd, ic_length, hl, w64 (x := (a : Int) + (d : Int)) (by omega) (by omega), w64 (x := (pre.length : Int) + 1) (by omega) (by omega)]
    refine evp (by omega) (evp (by omega) (evp (by omega) ?_))
    rw [hl] at h3
    have e1 : (((pre ++ [d]).length : Nat) : Int) = (pre.length : Int) + 1 := by simp
    have e2 : ((a + d : Nat) : Int) = (a : Int) + (d : Int) := by omega
    rw [e1, e2] at h3
    have e3 : a + lsum (d :: post) = a + d + lsum post := by simp only [lsum]; omega
    rw [e3]
    exact h3
theorem laws_qSum_all (l : List Nat) (h1 : l.length ≤ 1000000000000) (h2 : lsum l ≤ 1000000000000000000) : Ev (fun k => laws_qSum.l0 k 0 (ic l) ((ic l).length : Int) 0) ((lsum l : Nat) : Int) := by
  have h := laws_qSum_loop l [] 0 (by simpa using h1) (by omega)
  rw [ic_length]
  simpa using h

theorem laws_qBack_loop (n : Nat) : ∀ (pre post out : List Int), pre.length = n → (pre ++ post).length ≤ 1000000000000 → out.length + pre.length ≤ 1000000000000 → Ev (fun k => laws_qBack.l0 k (pre ++ post) out ((pre.length : Int) - 1)) (out ++ pre.reverse) := by
  induction n with
  | zero =>
    intro pre post out hn _ _
    obtain rfl : pre = [] := List.eq_nil_of_length_eq_zero hn
    refine evs (fun k => by rw [laws_qBack.l0]) ?_
    exact evn (by simp) (evr (by simp))
  | succ n ih =>
    intro pre post out hn hl ho
    have h0 : pre ≠ [] := fun h => by subst h; simp at hn
    obtain ⟨p, x, rfl⟩ : ∃ p x, pre = p ++ [x] := ⟨pre.dropLast, pre.getLast h0, (List.dropLast_concat_getLast h0).symm⟩
    have hp : p.length = n := by simpa using hn
    have e0 : (p ++ [x]) ++ post = p ++ x :: post := by simp
    have e1 : (((p ++ [x]).length : Nat) : Int) - 1 = (p.length : Int) := by simp
    have hl2 : (p ++ x :: post).length = p.length + (post.length + 1) := by simp
    rw [e0] at hl
    rw [hl2] at hl
    have h := ih p (x :: post) (out ++ [x]) hp (by rw [hl2]; exact hl) (by simp at ho ⊢; omega)
    refine evs (fun k => by rw [laws_qBack.l0]) ?_
    rw [e1, e0, rd_mid, hl2, w64 (x := (p.length : Int) - 1) (by omega) (by omega)]
    refine evp (by omega) (evp (by omega) (evp (by omega) (evp (by simp at ho; omega) ?_)))
    have e2 : out ++ (p ++ [x]).reverse = (out ++ [x]) ++ p.reverse := by simp
    rw [e2]
    exact h
theorem laws_qBack_ev (l : List Int) (h : l.length ≤ 1000000000000) : Ev (fun k => laws_qBack.f k l) l.reverse := by
  unfold laws_qBack.f
  rw [w64 (by omega) (by omega)]
  have := laws_qBack_loop l.length l [] [] rfl (by simpa using h) (by simpa using h)
  simpa using this

theorem laws_qSame_loop (post : List Int) : ∀ (pre post' : List Int), post'.length = post.length → (pre ++ post).length ≤ 4611686018427387904 →
    Ev (fun k => laws_qSame.l0 k (pre ++ post) (pre ++ post') ((pre ++ post).length : Int) (pre.length : Int)) (decide (post = post')) := by
  induction post with
  | nil =>
    intro pre post' hl h
    obtain rfl : post' = [] := List.eq_nil_of_length_eq_zero hl
    refine evs (fun k => by rw [laws_qSame.l0]) ?_
    exact evn (by simp) (evr (by simp))
  | cons x post ih =>
    intro pre post' hl h
    obtain ⟨y, post', rfl⟩ : ∃ y z, post' = y :: z := by cases post' with
      | nil => simp at hl
      | cons y z => exact ⟨y, z, rfl⟩
    refine evs (fun k => by rw [laws_qSame.l0]) ?_
    refine evp (by simp; omega) (evp (by omega) (evp (by simp; omega) (evp (by simp; omega) ?_)))
    rw [rd_mid, rd_mid]
    by_cases he : x = y
    · subst he
      refine evp rfl ?_
      have h2 := ih (pre ++ [x]) post' (by simpa using hl) (by simpa using h)
      simp only [List.append_assoc, List.singleton_append] at h2
      rw [w64 (by omega) (by simp at h; omega)]
      simpa using h2
    · exact evn he (evr (by simp [he]))
theorem laws_qSame_ev (l l' : List Int) (h : l.length ≤ 4611686018427387904) : Ev (fun k => laws_qSame.f k l l') (decide (l = l')) := by
  unfold laws_qSame.f
  by_cases hl : l.length = l'.length
  · exact evp (by omega) (by simpa using laws_qSame_loop l [] l' hl.symm (by simpa using h))
  · exact evn (by omega) (evr (by symm; rw [decide_eq_false_iff_not]; exact fun e => hl (by rw [e])))
theorem laws_qSame_self (l : List Int) (h : l.length ≤ 4611686018427387904) : Ev (fun k => laws_qSame.f k l l) true := by simpa using laws_qSame_ev l l h

theorem slices_Equal_int_int_loop (post : List Int) : ∀ (pre post' : List Int), post'.length = post.length → (pre ++ post).length ≤ 4611686018427387904 →
    Ev (fun k => slices_Equal_int_int.l0 k (pre ++ post) (pre ++ post') ((pre ++ post).length : Int) (pre.length : Int)) (decide (post = post')) := by
  induction post with
  | nil =>
    intro pre post' hl h
    obtain rfl : post' = [] := List.eq_nil_of_length_eq_zero hl
    refine evs (fun k => by rw [slices_Equal_int_int.l0]) ?_
    exact evn (by simp) (evr (by simp))
  | cons x post ih =>
    intro pre post' hl h
    obtain ⟨y, post', rfl⟩ : ∃ y z, post' = y :: z := by cases post' with
      | nil => simp at hl
      | cons y z => exact ⟨y, z, rfl⟩
    refine evs (fun k => by rw [slices_Equal_int_int.l0]) ?_
    refine evp (by simp; omega) (evp (by omega) (evp (by simp; omega) (evp (by simp; omega) ?_)))
    rw [rd_mid, rd_mid]
    by_cases he : x = y
    · subst he
      refine evp rfl ?_
      have h2 := ih (pre ++ [x]) post' (by simpa using hl) (by simpa using h)
      simp only [List.append_assoc, List.singleton_append] at h2
      rw [w64 (by omega) (by simp at h; omega)]
      simpa using h2
    · exact evn he (evr (by simp [he]))
theorem slices_Equal_int_int_ev (l l' : List Int) (h : l.length ≤ 4611686018427387904) : Ev (fun k => slices_Equal_int_int.f k l l') (decide (l = l')) := by
  unfold slices_Equal_int_int.f
  by_cases hl : l.length = l'.length
  · exact evp (by omega) (by simpa using slices_Equal_int_int_loop l [] l' hl.symm (by simpa using h))
  · exact evn (by omega) (evr (by symm; rw [decide_eq_false_iff_not]; exact fun e => hl (by rw [e])))
theorem spec_l1Same_loop (post : List Int) : ∀ (pre post' : List Int), post'.length = post.length → (pre ++ post).length ≤ 4611686018427387904 →
    Ev (fun k => spec_l1Same.l0 k (pre ++ post) (pre ++ post') ((pre ++ post).length : Int) (pre.length : Int)) (decide (post = post')) := by
  induction post with
  | nil =>
    intro pre post' hl h
    obtain rfl : post' = [] := List.eq_nil_of_length_eq_zero hl
    refine evs (fun k => by rw [spec_l1Same.l0]) ?_
    exact evn (by simp) (evr (by simp))
  | cons x post ih =>
    intro pre post' hl h
    obtain ⟨y, post', rfl⟩ : ∃ y z, post' = y :: z := by cases post' with
      | nil => simp at hl
      | cons y z => exact ⟨y, z, rfl⟩
    refine evs (fun k => by rw [spec_l1Same.l0]) ?_
    refine evp (by simp; omega) (evp (by omega) (evp (by simp; omega) (evp (by simp; omega) ?_)))
    rw [rd_mid, rd_mid]
    by_cases he : x = y
    · subst he
      refine evp rfl ?_
      have h2 := ih (pre ++ [x]) post' (by simpa using hl) (by simpa using h)
      simp only [List.append_assoc, List.singleton_append] at h2
      rw [w64 (by omega) (by simp at h; omega)]
      simpa using h2
    · exact evn he (evr (by simp [he]))
theorem spec_l1Same_ev (l l' : List Int) (h : l.length ≤ 4611686018427387904) : Ev (fun k => spec_l1Same.f k l l') (decide (l = l')) := by
  unfold spec_l1Same.f
  by_cases hl : l.length = l'.length
  · exact evp (by omega) (by simpa using spec_l1Same_loop l [] l' hl.symm (by simpa using h))
  · exact evn (by omega) (evr (by symm; rw [decide_eq_false_iff_not]; exact fun e => hl (by rw [e])))
theorem sym_both (l : List Int) (b : Int) (hl : l.length ≤ 1000000) : ∃ r : Bool × Bool, (r.2 = true → ∃ ds : List Nat, l = ic ds ∧ r.1 = decide (ds.reverse = ds)) ∧ Ev (fun k => spec_IsSymmetric.f k l b) r ∧ Ev (fun k => impl_IsSymmetric.f k l b) r ∧ r.2 = gd l b := by
  unfold spec_IsSymmetric.f impl_IsSymmetric.f
  have hgood := spec_rvGood_ev l b (by omega)
  by_cases hg : gd l b = true
  · obtain ⟨ds, B, rfl, rfl, g1, g2, g3, g4, g5, g6⟩ := gd_nat hg
    have hs := symL_eq ds
    refine ⟨(decide (ds.reverse = ds), true), fun _ => ⟨ds, rfl, rfl⟩, evb hgood (evp hg (evb (a := decide (ds.reverse = ds)) ?_ (Ev.now _))), evc (impl_isLong_eq _ _) (evp hg (evb (a := decide (ds.reverse = ds)) ?_ (Ev.now _))), hg.symm⟩
    · unfold spec_dgPalindrome.f
      refine evb (dgBack_ev (ic ds) (by rw [ic_length]; omega)) ?_
      rw [← ic_reverse]
      exact evb (spec_l1Same_ev _ _ (by rw [ic_length]; omega)) (evr (by rw [hs]))
    · unfold impl_isSymmetric.f
      exact evb (reversed_ev0 ds (by omega)) (evb (slices_Equal_int_int_ev _ _ (by rw [ic_length]; omega)) (evr (by rw [hs])))
  · refine ⟨(false, false), fun h => by simp at h, evb hgood (evn hg (Ev.now _)), evc (impl_isLong_eq _ _) (evn hg (Ev.now _)), ?_⟩
    simp only [Bool.not_eq_true] at hg
    rw [hg]
theorem j4_ok (l : List Int) (hl : ∀ x ∈ l, 0 ≤ x ∧ x ≤ 255) : Ev (fun k => laws_FnAddedBackwards.j4 k l) true := by
  obtain ⟨R, b, p, s, e, hR⟩ := added_ok l hl
  obtain ⟨r, h1, h2, h3, _⟩ := sym_both R b (by omega)
  refine evs (fun k => by rw [laws_FnAddedBackwards.j4]) ?_
  refine evb (a := (R, b)) (evb e (Ev.now _)) (evb h3 (evb h2 (evn (by simp) ?_)))
  refine evs (fun k => by rw [laws_FnAddedBackwards.j5]) ?_
  refine evn (by simp) ?_
  by_cases hr : r.2 = true
  · obtain ⟨ds, rfl, h4⟩ := h1 hr
    rw [ic_length] at hR
    refine evp hr (evb (laws_qBack_ev (ic ds) (by rw [ic_length]; omega)) ?_)
    rw [← ic_reverse]
    refine evb (laws_qSame_ev _ _ (by rw [ic_length]; omega)) (evr ?_)
    rw [symL_eq, h4]
    simp
  · exact evn hr (Ev.now _)
theorem add_facts (ds : List Nat) (b : Nat) (hb : 2 ≤ b) (h1 : 1 ≤ ds.length) (hd : ∀ d ∈ ds, d < b) : ∃ over, over ≤ 1 ∧ (addCar b ds).length = ds.length ∧ (addCar b ds).getD (ds.length - 1) 0 = over ∧ addC b 0 (sumsL ds) = over ∧ (addSum b ds).length = ds.length + over ∧ (∀ x ∈ addCar b ds, x ≤ 1) ∧
    addSum b ds = (if 0 < over then [over] else []) ++ (addP b 0 (sumsL ds)).reverse := by
  have hS := sumsL_le hb ds hd
  have hl := sumsL_length ds
  have hc := addC_le hb (sumsL ds) hS 0 (by omega)
  have hlast := addK_last b (sumsL ds) 0 (by intro h; rw [h] at hl; simp at hl; omega)
  rw [hl] at hlast
  have hsum : addSum b ds = (if 0 < addC b 0 (sumsL ds) then [addC b 0 (sumsL ds)] else []) ++ (addP b 0 (sumsL ds)).reverse := by
    unfold addSum
    rw [addO_eq, List.reverse_append]
    congr 1
    split <;> rfl
  refine ⟨addC b 0 (sumsL ds), hc, by unfold addCar; rw [addK_length, hl], hlast, rfl, ?_, addK_le hb _ hS 0 (by omega), hsum⟩
  rw [hsum, List.length_append, List.length_reverse, addP_length, hl]
  split
  · simp only [List.length_cons, List.length_nil]; omega
  · simp only [List.length_nil]; omega
theorem getD_append_right (x y : List Nat) (i : Nat) : (x ++ y).getD (x.length + i) 0 = y.getD i 0 := by
  simp only [List.getD_eq_getElem?_getD]
  rw [List.getElem?_append_right (by omega)]
  congr 2
  omega
theorem getD_rev (x : List Nat) (i : Nat) (h : i < x.length) : x.reverse.getD i 0 = x.getD (x.length - 1 - i) 0 := by
  simp only [List.getD_eq_getElem?_getD]
  rw [List.getElem?_reverse h]
theorem sum_good (ds : List Nat) (b : Nat) (hb : 2 ≤ b) (hb2 : b ≤ 16) (h1 : 1 ≤ ds.length) (hd : ∀ d ∈ ds, d < b) (h0 : 0 < ds.getD 0 0 ∨ ds.length = 1) (h40 : (addSum b ds).length ≤ 40) : gd (ic (addSum b ds)) (b : Int) = true := by
  obtain ⟨over, o1, o2, o3, o4, o5, o6, o7⟩ := add_facts ds b hb h1 hd
  have hP := addP_lt hb (sumsL ds) 0
  have hPl : (addP b 0 (sumsL ds)).length = ds.length := by rw [addP_length, sumsL_length]
  refine gd_of _ b hb hb2 (by omega) h40 (fun d h => ?_) ?_
  · rw [o7] at h
    rcases List.mem_append.1 h with h | h
    · split at h
      · rw [List.mem_singleton.1 h]; omega
      · simp at h
    · exact hP d (List.mem_reverse.1 h)
  · by_cases hov : 0 < over
    · left
      rw [o7, if_pos hov]
      simpa using hov
    · rcases h0 with h0 | h0
      · left
        rw [o7, if_neg hov, List.nil_append, getD_rev _ _ (by omega), hPl]
        have ha := add_at b (sumsL ds) 0 (ds.length - 1) (by rw [sumsL_length]; omega)
        have hs := sumsL_at ds (ds.length - 1) (by omega)
        rw [show ds.length - 1 - (ds.length - 1) = 0 by omega] at hs
        have hk : (addK b 0 (sumsL ds)).getD (ds.length - 1) 0 = 0 := by
          have : (addCar b ds).getD (ds.length - 1) 0 = 0 := by omega
          exact this
        rw [hk, Nat.mul_zero] at ha
        rw [show ds.length - 1 - 0 = ds.length - 1 by omega]
        omega
      · right
        omega
theorem add_impl (ds : List Nat) (b : Nat) (hb : 2 ≤ b) (hb2 : b ≤ 16) (h1 : 1 ≤ ds.length) (h2 : ds.length ≤ 40) (hd : ∀ d ∈ ds, d < b) (hg : gd (ic ds) (b : Int) = true) : Ev (fun k => impl_AddReversed.f k (ic ds) (b : Int)) (if (addSum b ds).length ≤ 40 then (ic (addSum b ds), true) else ([], false)) ∧ Ev (fun k => spec_AddReversed.f k (ic ds) (b : Int)) (if (addSum b ds).length ≤ 40 then (ic (addSum b ds), true) else ([], false)) := by
  have hs := summed_ev ds b hb hb2 h2 hd
  have hr := rvAdd_ev ds b hb hb2 h2 hd
  unfold impl_AddReversed.f spec_AddReversed.f
  have hgood := spec_rvGood_ev (ic ds) (b : Int) (by rw [ic_length]; omega)
  by_cases h : (addSum b ds).length ≤ 40
  · rw [if_pos h]
    exact ⟨evc (impl_isLong_eq _ _) (evp hg (evb hs (evn (by simp only [ic_length]; omega) (Ev.now _)))), evb hgood (evp hg (evb hr (evn (by simp only [ic_length]; omega) (Ev.now _))))⟩
  · rw [if_neg h]
    exact ⟨evc (impl_isLong_eq _ _) (evp hg (evb hs (evp (by simp only [ic_length]; omega) (Ev.now _)))), evb hgood (evp hg (evb hr (evp (by simp only [ic_length]; omega) (Ev.now _))))⟩
theorem j3_ok (l : List Int) (hl : ∀ x ∈ l, 0 ≤ x ∧ x ≤ 255) (ds : List Nat) (b : Nat) (hb : 2 ≤ b) (hb2 : b ≤ 16) (h1 : 1 ≤ ds.length) (h2 : ds.length ≤ 40) (hd : ∀ d ∈ ds, d < b) (h40 : (addSum b ds).length ≤ 40) : Ev (fun k => laws_FnAddedBackwards.j3 k l (ic ds) (b : Int) (ic (addSum b ds)) (ds.length : Int) (ic ds.reverse) false) true := by
  have hr := ds_rd ds (ds.length - 1) (by omega)
  refine evs (fun k => by rw [laws_FnAddedBackwards.j3]) ?_
  rw [w64 (x := (ds.length : Int) - 1) (by omega) (by omega), show (ds.length : Int) - 1 = ((ds.length - 1 : Nat) : Int) by omega, hr, ic_length]
  refine evn (by simp) (evp (by omega) (evp (by omega) ?_))
  by_cases h : ((ds.getD (ds.length - 1) 0 : Nat) : Int) > 0
  · have hdr : ∀ d ∈ ds.reverse, d < b := fun d h => hd d (List.mem_reverse.1 h)
    have hgr : gd (ic ds.reverse) (b : Int) = true := gd_of _ b hb hb2 (by simpa using h1) (by simpa using h2) hdr (Or.inl (by rw [getD_rev ds 0 (by omega), Nat.sub_zero]; omega))
    have ha := (add_impl ds.reverse b hb hb2 (by simpa using h1) (by simpa using h2) hdr hgr).1
    have hsame : addSum b ds.reverse = addSum b ds := by unfold addSum; rw [sumsL_rev]
    rw [hsame, if_pos h40] at ha
    exact evp h (evb ha (evp rfl (evb (laws_qSame_self _ (by simp only [ic_length]; omega)) (evp rfl (j4_ok l hl)))))
  · exact evn h (j4_ok l hl)
theorem l0_ok (l : List Int) (hl : ∀ x ∈ l, 0 ≤ x ∧ x ≤ 255) (ds : List Nat) (b : Nat) (hb : 2 ≤ b) (hb2 : b ≤ 16) (h1 : 1 ≤ ds.length) (h2 : ds.length ≤ 40) (hd : ∀ d ∈ ds, d < b) (h0 : 0 < ds.getD 0 0 ∨ ds.length = 1) (h40 : (addSum b ds).length ≤ 40) (over : Nat) (ho : over ≤ 1) (hov : addC b 0 (sumsL ds) = over) (none_ : Bool) (hn : none_ = decide (∀ x ∈ addCar b ds, x = 0)) (e : Nat) : ∀ j : Nat, j + e = ds.length →
    Ev (fun k => laws_FnAddedBackwards.l0 k l (ic ds) (b : Int) (ic (addSum b ds)) (ic (addCar b ds)) none_ (ds.length : Int) (ic ds.reverse) (over : Int) ((if j = 0 then 0 else (addCar b ds).getD (j - 1) 0 : Nat) : Int) ((ds.length : Int) - 1 - (j : Int))) true := by
  obtain ⟨ov, o1, o2, o3, o4, o5, o6, o7⟩ := add_facts ds b hb h1 hd
  obtain rfl : ov = over := by omega
  have hPl : (addP b 0 (sumsL ds)).length = ds.length := by rw [addP_length, sumsL_length]
  induction e with
  | zero =>
    intro j hj
    have hgs := sum_good ds b hb hb2 h1 hd h0 h40
    obtain ⟨r, s1, s2, s3, s4⟩ := sym_both (ic (addSum b ds)) (b : Int) (by rw [ic_length]; omega)
    rw [hgs] at s4
    obtain ⟨ds2, hds2, hr1⟩ := s1 s4
    have hds3 := ic_inj _ _ hds2
    subst hds3
    refine evs (fun k => by rw [laws_FnAddedBackwards.l0]) ?_
    refine evn (by omega) (evb s3 (evp s4 ?_))
    have j3 := j3_ok l hl ds b hb hb2 h1 h2 hd h40
    by_cases hnn : none_ = true
    · refine evp hnn ?_
      have hz : ∀ x ∈ addCar b ds, x = 0 := by rw [hn, decide_eq_true_eq] at hnn; exact hnn
      obtain ⟨z1, z2⟩ := addK_zero b (sumsL ds) hz
      have hS : addSum b ds = sumsL ds := by
        have : ov = 0 := by rw [← o4, z2]
        rw [o7, this, if_neg (by omega), List.nil_append, z1, sumsL_sym]
      have hsym : decide ((addSum b ds).reverse = addSum b ds) = true := by rw [hS]; exact decide_eq_true (sumsL_sym ds)
      rw [hr1, hsym]
      exact j3
    · exact evn hnn j3
  | succ e ih =>
    intro j hj
    have h3 := ih (j + 1) (by omega)
    rw [if_neg (by omega : ¬ j + 1 = 0), Nat.add_sub_cancel] at h3
    have hjl : j < ds.length := by omega
    have ha := add_at b (sumsL ds) 0 j (by rw [sumsL_length]; exact hjl)
    rw [sumsL_at ds j hjl] at ha
    have r1 := ds_rd ds (ds.length - 1 - j) (by omega)
    have r2 : rd (ic ds.reverse) ((ds.length - 1 - j : Nat) : Int) = ((ds.getD j 0 : Nat) : Int) := by
      rw [ds_rd ds.reverse _ (by rw [List.length_reverse]; omega), getD_rev ds _ (by omega)]
      congr 2
      omega
    have r3 : rd (ic (addSum b ds)) ((ov + (ds.length - 1 - j) : Nat) : Int) = (((addP b 0 (sumsL ds)).getD j 0 : Nat) : Int) := by
      rw [ds_rd _ _ (by omega)]
      congr 1
      have hx : (if 0 < ov then [ov] else ([] : List Nat)).length = ov := by
        split
        · simp; omega
        · simp; omega
      rw [o7]
      conv => lhs; arg 2; rw [← hx]
      rw [getD_append_right, getD_rev _ _ (by omega), hPl]
      congr 1
      omega
    have r4 := ds_rd (addCar b ds) j (by omega)
    have g1 := getD_lt ds hd j hjl
    have g2 := getD_lt ds hd (ds.length - 1 - j) (by omega)
    have g3 := getD_lt (addP b 0 (sumsL ds)) (addP_lt hb _ 0) j (by omega)
    have g4 : (addCar b ds).getD j 0 < 2 := getD_lt (addCar b ds) (fun x hx => by have := o6 x hx; omega) j (by omega)
    have g5 : (if j = 0 then 0 else (addCar b ds).getD (j - 1) 0) < 2 := by
      split
      · omega
      · exact getD_lt (addCar b ds) (fun x hx => by have := o6 x hx; omega) (j - 1) (by omega)
    have ha2 : ds.getD (ds.length - 1 - j) 0 + ds.getD j 0 + (if j = 0 then 0 else (addCar b ds).getD (j - 1) 0) = (addP b 0 (sumsL ds)).getD j 0 + b * (addCar b ds).getD j 0 := ha
    obtain ⟨A, hA⟩ : ∃ A, ds.getD (ds.length - 1 - j) 0 = A := ⟨_, rfl⟩
    obtain ⟨B, hB⟩ : ∃ B, ds.getD j 0 = B := ⟨_, rfl⟩
    obtain ⟨C, hC⟩ : ∃ C, (if j = 0 then 0 else (addCar b ds).getD (j - 1) 0) = C := ⟨_, rfl⟩
    obtain ⟨Q, hQ⟩ : ∃ Q, (addP b 0 (sumsL ds)).getD j 0 = Q := ⟨_, rfl⟩
    obtain ⟨K, hK⟩ : ∃ K, (addCar b ds).getD j 0 = K := ⟨_, rfl⟩
    rw [hA] at r1 g2 ha2
    rw [hB] at r2 g1 ha2
    rw [hC] at g5 ha2 ⊢
    rw [hQ] at r3 g3 ha2
    rw [hK] at r4 g4 ha2 h3
    have hbK : b * K ≤ 16 * 1 := Nat.mul_le_mul hb2 (by omega)
    have e1 : (ds.length : Int) - 1 - (j : Int) = ((ds.length - 1 - j : Nat) : Int) := by omega
    have e2 : (ov : Int) + ((ds.length - 1 - j : Nat) : Int) = ((ov + (ds.length - 1 - j) : Nat) : Int) := by omega
    have e3 : (ds.length : Int) - 1 - ((ds.length - 1 - j : Nat) : Int) = (j : Int) := by omega
    have e4 : (b : Int) * (K : Int) = ((b * K : Nat) : Int) := (Int.natCast_mul _ _).symm
    have e5 : ((ds.length - 1 - j : Nat) : Int) - 1 = (ds.length : Int) - 1 - ((j + 1 : Nat) : Int) := by omega
    refine evs (fun k => by rw [laws_FnAddedBackwards.l0]) ?_
    rw [e1, e2, w64n (ov + (ds.length - 1 - j)) (by omega), w64 (x := (ds.length : Int) - 1) (by omega) (by omega), e3, w64 (x := (j : Int)) (by omega) (by omega), r1, r2, r3, r4, e4, w64n (b * K) (by omega), w64 (x := (A : Int) + (B : Int)) (by omega) (by omega), w64 (x := (A : Int) + (B : Int) + (C : Int)) (by omega) (by omega), w64 (x := (Q : Int) + ((b * K : Nat) : Int)) (by omega) (by omega), w64 (x := ((ds.length - 1 - j : Nat) : Int) - 1) (by omega) (by omega), e5]
    clear e1 e2 e3 e4 e5
    simp only [ic_length, List.length_reverse]
    refine evp (by omega) (evp (by omega) (evp (by omega) (evp (by omega) (evp (by omega) (evp (by omega) (evp (by omega) (evp (by omega) (evp (by omega) h3))))))))
theorem lsum_zero_iff (L : List Nat) : lsum L = 0 ↔ ∀ x ∈ L, x = 0 := by
  induction L with
  | nil => simp [lsum]
  | cons y L ih =>
    simp only [lsum, List.mem_cons]
    constructor
    · intro h x hx
      rcases hx with rfl | hx
      · omega
      · exact ih.1 (by omega) x hx
    · intro h
      have h1 := h y (Or.inl rfl)
      have h2 := ih.2 (fun x hx => h x (Or.inr hx))
      omega
theorem lsum_le_len (L : List Nat) (h : ∀ x ∈ L, x ≤ 1) : lsum L ≤ L.length := by
  induction L with
  | nil => simp [lsum]
  | cons y L ih =>
    have h1 := h y (by simp)
    have h2 := ih (fun x hx => h x (by simp [hx]))
    simp only [lsum, List.length_cons]
    omega
theorem j1_ok (l : List Int) (hl : ∀ x ∈ l, 0 ≤ x ∧ x ≤ 255) (ds : List Nat) (b : Nat) (hb : 2 ≤ b) (hb2 : b ≤ 16) (h1 : 1 ≤ ds.length) (h2 : ds.length ≤ 40) (hd : ∀ d ∈ ds, d < b) (h0 : 0 < ds.getD 0 0 ∨ ds.length = 1) (none_ : Bool) (hn : none_ = decide (∀ x ∈ addCar b ds, x = 0)) (r : List Int × Bool) (hr : r = if (addSum b ds).length ≤ 40 then (ic (addSum b ds), true) else ([], false)) :
    Ev (fun k => laws_FnAddedBackwards.j1 k l (ic ds) (b : Int) r.1 r.2 (ic (addCar b ds)) none_ (ds.length : Int) false) true := by
  obtain ⟨over, o1, o2, o3, o4, o5, o6, o7⟩ := add_facts ds b hb h1 hd
  refine evs (fun k => by rw [laws_FnAddedBackwards.j1]) ?_
  refine evn (by simp) (evb (laws_qBack_ev (ic ds) (by rw [ic_length]; omega)) ?_)
  by_cases h40 : (addSum b ds).length ≤ 40
  · rw [if_pos h40] at hr
    subst hr
    have rl := ds_rd (addCar b ds) (ds.length - 1) (by omega)
    rw [o3] at rl
    have h3 := l0_ok l hl ds b hb hb2 h1 h2 hd h0 h40 over o1 o4 none_ hn ds.length 0 (by omega)
    rw [if_pos rfl] at h3
    have e1 : (ds.length : Int) - 1 = ((ds.length - 1 : Nat) : Int) := by omega
    rw [w64 (x := (ds.length : Int) - 1) (by omega) (by omega)]
    simp only [e1, rl, ic_length, o2, o5]
    rw [w64 (x := (ds.length : Int) + (over : Int)) (by omega) (by omega)]
    refine evp trivial (evp (by omega) (evp (by omega) (evp (by omega) ?_)))
    have e2 : (ds.length : Int) - 1 - ((0 : Nat) : Int) = ((ds.length - 1 : Nat) : Int) := by omega
    rw [e2, ic_reverse] at h3
    exact h3
  · rw [if_neg h40] at hr
    subst hr
    exact evn (by simp) (j4_ok l hl)
theorem FnAddedBackwards : laws_FnAddedBackwards.Pure := by
  intro l0 l1 _ _ w0 _ _ w1
  have hb : ∀ l : List Int, (∀ x ∈ l, (Lit.int .u8 x).wf = true) → ∀ x ∈ l, 0 ≤ x ∧ x ≤ 255 := by
    intro l h x hx
    have := h x hx
    simpa [Lit.wf, IntKind.min, IntKind.max, IntKind.signed, IntKind.bits] using this
  have hl0 := hb l0 w0
  have hl1 := hb l1 w1
  refine Ev.rounds (g := fun k => laws_FnAddedBackwards.f k l0 l1) ?_
  unfold laws_FnAddedBackwards.f
  obtain ⟨t, ht⟩ : ∃ t, laws_big.f l0 l1 = some t := by
    unfold laws_big.f
    split <;> exact ⟨_, rfl⟩
  refine evc ht ?_
  cases t with
  | true => exact evp rfl (Ev.now _)
  | false =>
    refine evn (by simp) ?_
    obtain ⟨L, b, p, s, e, hL, _⟩ := digits_ok l0 hl0 0 0 9 (by omega) (by omega) (by omega)
    refine evb (a := (L, b)) (evb e (Ev.now _)) ?_
    obtain ⟨r, r1, r2, r3, r4⟩ := sub_both L b (by omega)
    have hgood := spec_rvGood_ev L b (by omega)
    by_cases hg : gd L b = true
    · obtain ⟨ds, B, rfl, rfl, g1, g2, g3, g4, g5, g6⟩ := gd_nat hg
      obtain ⟨over, o1, o2, o3, o4, o5, o6, o7⟩ := add_facts ds B g1 g3 g5
      obtain ⟨a1, a2⟩ := add_impl ds B g1 g2 g3 g4 g5 hg
      have hs := summed_ev ds B g1 g2 g4 g5
      have hr := rvAdd_ev ds B g1 g2 g4 g5
      obtain ⟨none_, hn⟩ : ∃ n, n = decide (∀ x ∈ addCar B ds, x = 0) := ⟨_, rfl⟩
      have k1 : Ev (fun k => impl_CarriesOf.f k (ic ds) (B : Int)) (ic (addCar B ds), true) := evc (impl_isLong_eq _ _) (evp hg (evb hs (Ev.now _)))
      have k2 : Ev (fun k => spec_CarriesOf.f k (ic ds) (B : Int)) (ic (addCar B ds), true) := evb hgood (evp hg (evb hr (Ev.now _)))
      have hc1 : decide ((1 : Int) ∈ ic (addCar B ds)) = !none_ := by
        rw [hn]
        by_cases h : ∀ x ∈ addCar B ds, x = 0
        · rw [decide_eq_true h]
          refine decide_eq_false fun hm => ?_
          obtain ⟨x, hx, he⟩ := List.mem_map.1 hm
          have := h x hx
          omega
        · rw [decide_eq_false h]
          refine decide_eq_true ?_
          have : ∃ x, x ∈ addCar B ds ∧ x ≠ 0 := by
            by_cases hh : ∃ x, x ∈ addCar B ds ∧ x ≠ 0
            · exact hh
            · exact absurd (fun x hx => by
                by_cases h0 : x = 0
                · exact h0
                · exact absurd ⟨x, hx, h0⟩ hh) h
          obtain ⟨x, hx, h0⟩ := this
          have := o6 x hx
          exact List.mem_map.2 ⟨x, hx, by omega⟩
      have hc2 : ((ic (addCar B ds)).all fun x => decide (0 ≤ x ∧ x ≤ 0)) = none_ := by
        rw [hn]
        by_cases h : ∀ x ∈ addCar B ds, x = 0
        · rw [decide_eq_true h, List.all_eq_true]
          intro x hx
          obtain ⟨y, hy, rfl⟩ := List.mem_map.1 hx
          have := h y hy
          exact decide_eq_true (by omega)
        · rw [decide_eq_false h]
          refine Bool.eq_false_iff.2 fun ha => h fun x hx => ?_
          rw [List.all_eq_true] at ha
          have := of_decide_eq_true (ha (x : Int) (List.mem_map.2 ⟨x, hx, rfl⟩))
          omega
      have k3 : Ev (fun k => impl_HasNoCarry.f k (ic ds) (B : Int)) (none_, true) := by
        refine evc (impl_isLong_eq _ _) (evp hg (evb hs (evb (contains_ev (ic (addCar B ds)) 1 (by rw [ic_length]; omega)) (evr ?_))))
        rw [hc1]
        simp
      have k4 : Ev (fun k => spec_HasNoCarry.f k (ic ds) (B : Int)) (none_, true) := by
        refine evb hgood (evp hg (evb hr (evb (l1All_ev (ic (addCar B ds)) 0 0 (by rw [ic_length]; omega)) (evr ?_))))
        rw [hc2]
      obtain ⟨ar, har⟩ : ∃ ar : List Int × Bool, ar = if (addSum B ds).length ≤ 40 then (ic (addSum B ds), true) else ([], false) := ⟨_, rfl⟩
      rw [← har] at a1 a2
      have harl : ar.1.length ≤ 100 := by
        rw [har]
        split
        · simp only [ic_length]; omega
        · simp
      have hj0 : Ev (fun k => laws_FnAddedBackwards.j0 k l1 (ic ds) (B : Int) ar.1 ar.2 (ic (addCar B ds)) true none_ false) true := by
        have hsm := lsum_le_len (addCar B ds) o6
        have hq : Ev (fun k => laws_qSum.f k (ic (addCar B ds))) ((lsum (addCar B ds) : Nat) : Int) := laws_qSum_all (addCar B ds) (by omega) (by omega)
        have he : (none_ != (((lsum (addCar B ds) : Nat) : Int) == 0)) = false := by
          rw [hn]
          by_cases h : ∀ x ∈ addCar B ds, x = 0
          · rw [decide_eq_true h, (lsum_zero_iff _).2 h]; rfl
          · have : lsum (addCar B ds) ≠ 0 := fun hz => h ((lsum_zero_iff _).1 hz)
            rw [decide_eq_false h, beq_eq_false_iff_ne.2 (by omega)]; rfl
        refine evs (fun k => by rw [laws_FnAddedBackwards.j0]) ?_
        refine evn (by simp) (evp rfl (evp (by rw [ic_length, ic_length, o2]) (evb hq ?_)))
        rw [he, ic_length]
        exact j1_ok l1 hl1 ds B g1 g2 g3 g4 g5 g6 none_ hn ar har
      rw [hg] at r1
      refine evb a1 (evb a2 (evb k1 (evb k2 (evb k3 (evb k4 (evb r4 (evb r3 ?_)))))))
      refine evn (by simp) (evb (laws_qSame_self _ (by omega)) (evp rfl (evn (by simp) (evb (laws_qSame_self _ (by simp only [ic_length]; omega)) (evp rfl (evn (by simp) (evn (by simp) (evn (by simp) (evb (laws_qSame_self _ (by omega)) (evp rfl (evn (by simp) (evn (by rw [r1]; simp) ?_))))))))))))
      by_cases h : ar.2 = true
      · exact evp h hj0
      · exact evn h hj0
    · have q1 : Ev (fun k => impl_AddReversed.f k L b) ([], false) := evc (impl_isLong_eq _ _) (evn hg (Ev.now _))
      have q2 : Ev (fun k => spec_AddReversed.f k L b) ([], false) := evb hgood (evn hg (Ev.now _))
      have q3 : Ev (fun k => impl_CarriesOf.f k L b) ([], false) := evc (impl_isLong_eq _ _) (evn hg (Ev.now _))
      have q4 : Ev (fun k => spec_CarriesOf.f k L b) ([], false) := evb hgood (evn hg (Ev.now _))
      have q5 : Ev (fun k => impl_HasNoCarry.f k L b) (false, false) := evc (impl_isLong_eq _ _) (evn hg (Ev.now _))
      have q6 : Ev (fun k => spec_HasNoCarry.f k L b) (false, false) := evb hgood (evn hg (Ev.now _))
      have hgf : gd L b = false := by simpa using hg
      rw [hgf] at r1
      refine evb q1 (evb q2 (evb q3 (evb q4 (evb q5 (evb q6 (evb r4 (evb r3 ?_)))))))
      refine evn (by simp) (evb (laws_qSame_self _ (by simp)) (evp rfl (evn (by simp) (evb (laws_qSame_self _ (by simp)) (evp rfl (evn (by simp) (evn (by simp) (evn (by simp) (evb (laws_qSame_self _ (by omega)) (evp rfl (evn (by simp) (evn (by rw [r1]; simp) ?_))))))))))))
      refine evn (by simp) ?_
      refine evs (fun k => by rw [laws_FnAddedBackwards.j0]) ?_
      exact evn (by simp) (evn (by simp) (j4_ok l1 hl1))

end Go.Proofs.Ytiheocddlopfcaa.Pure
