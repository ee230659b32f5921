/- For all codes: sources are counted, and the first one adds to what it is a source of. -/
import Derived.Test.YtiheocddlopfcaaPFnSourcesOfSumsx10
import Derived.Test.YtiheocddlopfcaaWMore
set_option linter.unusedVariables false
set_option linter.unusedSimpArgs false
namespace Go.Proofs.Ytiheocddlopfcaa.Pure
open Go.RowKit Go.Proofs.Ytiheocddlopfcaa.PFnSourcesOfSums Go.Proofs.YtiheocddlopfcaaW.PrintWords Go.Proofs.YtiheocddlopfcaaW.PrintLast

theorem w64 {x : Int} (h1 : -9223372036854775808 ≤ x) (h2 : x ≤ 9223372036854775807) : wrap64 x = x := by unfold wrap64; omega
theorem w64o {x : Int} (h1 : -9223372036854775808 ≤ x := by omega) (h2 : x ≤ 9223372036854775807 := by omega) : wrap64 x = x := w64 h1 h2
abbrev Bs (l : List Int) : Prop := ∀ x ∈ l, 0 ≤ x ∧ x ≤ 255

theorem w64n (n : Nat) (h : n ≤ 9223372036854775807) : wrap64 (n : Int) = (n : Int) := w64 (by omega) (by omega)

theorem evp {α : Type} {c : Prop} [Decidable c] {a b : Nat → Option α} {r : α} (h : c) (k : Ev a r) : Ev (fun n => if c then a n else b n) r := Ev.congr (fun _ => if_pos h) k
theorem evn {α : Type} {c : Prop} [Decidable c] {a b : Nat → Option α} {r : α} (h : ¬ c) (k : Ev b r) : Ev (fun n => if c then a n else b n) r := Ev.congr (fun _ => if_neg h) k
theorem evr {α : Type} {x r : α} (h : x = r) : Ev (fun _ => some x) r := h ▸ Ev.now x
theorem evb {α β : Type} {g : Nat → Option α} {f : Nat → α → Option β} {a : α} {r : β} (h : Ev g a) (k : Ev (fun n => f n a) r) : Ev (fun n => (g n).bind fun x => f n x) r := Ev.bind h k
theorem evc {α β : Type} {x : Option α} {a : α} {f : Nat → α → Option β} {r : β} (h : x = some a) (k : Ev (fun n => f n a) r) : Ev (fun n => x.bind fun y => f n y) r := by subst h; exact k
theorem evs {α : Type} {g f : Nat → Option α} {r : α} (h : ∀ k, g (k + 1) = f k) (k : Ev f r) : Ev g r := Ev.step h k
theorem rd_mid (pre post : List Int) (x : Int) : rd (pre ++ x :: post) (pre.length : Int) = x := by simp [rd]
theorem set_mid {α : Type} (pre post : List α) (x y : α) : (pre ++ x :: post).set pre.length y = pre ++ y :: post := by simp
theorem rd_get (xs : List Int) (i : Nat) (h : i < xs.length) : rd xs (i : Int) = xs[i] := by simp [rd, h]
theorem rd_mem (xs : List Int) (i : Int) (h0 : 0 ≤ i) (h : i < xs.length) : rd xs i ∈ xs := by
 have hi : i.toNat < xs.length := by omega
 simp only [rd, List.getD_eq_getElem?_getD, List.getElem?_eq_getElem hi, Option.getD_some]
 exact List.getElem_mem hi
def ic (l : List Nat) : List Int := l.map (fun x : Nat => (x : Int))
theorem ic_nil : ic [] = [] := rfl
theorem ic_cons (x : Nat) (l : List Nat) : ic (x :: l) = (x : Int) :: ic l := rfl
theorem ic_append (l m : List Nat) : ic (l ++ m) = ic l ++ ic m := by simp [ic]
theorem ic_length (l : List Nat) : (ic l).length = l.length := by simp [ic]
def val (b : Nat) (v : Nat) : List Nat → Nat
 | [] => v
 | d :: l => val b (v * b + d) l
theorem val_lt {b : Nat} (l : List Nat) : ∀ v : Nat, (∀ d ∈ l, d < b) → val b v l < (v + 1) * b ^ l.length := by
 induction l with
 | nil => intro v _; simp [val]
 | cons d l ih =>
  intro v h
  have h1 := ih (v * b + d) (fun x hx => h x (by simp [hx]))
  have hd := h d (by simp)
  have h2 : (v * b + d + 1) * b ^ l.length ≤ (v + 1) * b * b ^ l.length := Nat.mul_le_mul_right _ (by rw [Nat.add_mul]; omega)
  simp only [val, List.length_cons]
  rw [Nat.pow_succ, Nat.mul_comm (b ^ l.length) b, ← Nat.mul_assoc]
  omega
theorem val_split (b : Nat) (l : List Nat) : ∀ v : Nat, val b v l = v * b ^ l.length + val b 0 l := by
 induction l with
 | nil => intro v; simp [val]
 | cons d l ih =>
  intro v
  simp only [val, List.length_cons]
  rw [ih (v * b + d), ih (0 * b + d), Nat.add_mul, Nat.pow_succ, Nat.mul_comm (b ^ l.length) b, ← Nat.mul_assoc]
  simp only [Nat.zero_mul, Nat.zero_add]
  omega
theorem val_lt0 {b : Nat} (l : List Nat) (h : ∀ d ∈ l, d < b) : val b 0 l < b ^ l.length := by
 have := val_lt l 0 h
 simpa using this
theorem val_cons (b d : Nat) (l : List Nat) : val b 0 (d :: l) = d * b ^ l.length + val b 0 l := by
 simp only [val, Nat.zero_mul, Nat.zero_add]
 exact val_split b l d
theorem div_unique {E a r c s : Nat} (hr : r < E) (hs : s < E) (h : a * E + r = c * E + s) : a = c ∧ r = s := by
 have h1 : (a * E + r) / E = a := by rw [Nat.mul_comm, Nat.mul_add_div (by omega), Nat.div_eq_of_lt hr, Nat.add_zero]
 have h2 : (c * E + s) / E = c := by rw [Nat.mul_comm, Nat.mul_add_div (by omega), Nat.div_eq_of_lt hs, Nat.add_zero]
 have h3 : a = c := by rw [← h1, h, h2]
 subst h3
 exact ⟨rfl, by omega⟩
theorem val_inj {b : Nat} (x : List Nat) : ∀ y : List Nat, x.length = y.length → (∀ d ∈ x, d < b) → (∀ d ∈ y, d < b) → val b 0 x = val b 0 y → x = y := by
 induction x with
 | nil =>
  intro y hl _ _ _
  exact (List.eq_nil_of_length_eq_zero hl.symm).symm
 | cons d x ih =>
  intro y hl hx hy h
  cases y with
  | nil => simp at hl
  | cons e y =>
   have hl2 : x.length = y.length := by simpa using hl
   rw [val_cons, val_cons, hl2] at h
   have hx2 : ∀ d ∈ x, d < b := fun z hz => hx z (by simp [hz])
   have hy2 : ∀ d ∈ y, d < b := fun z hz => hy z (by simp [hz])
   obtain ⟨h1, h2⟩ := div_unique (by have := val_lt0 x hx2; rw [hl2] at this; exact this) (val_lt0 y hy2) h
   rw [h1, ih y hl2 hx2 hy2 h2]
theorem ic_reverse (l : List Nat) : ic l.reverse = (ic l).reverse := by simp [ic]
theorem ic_rd (pre post : List Nat) (x : Nat) : rd (ic (pre ++ x :: post)) (pre.length : Int) = (x : Int) := by
 rw [ic_append, ic_cons, show ((pre.length : Nat) : Int) = (((ic pre).length : Nat) : Int) by simp [ic], rd_mid]

def addO (b : Nat) : Nat → List Nat → List Nat
 | c, [] => if 0 < c then [c] else []
 | c, s :: S => (s + c) % b :: addO b ((s + c) / b) S
def addK (b : Nat) : Nat → List Nat → List Nat
 | _, [] => []
 | c, s :: S => (s + c) / b :: addK b ((s + c) / b) S
def addC (b : Nat) : Nat → List Nat → Nat
 | c, [] => c
 | c, s :: S => addC b ((s + c) / b) S
def addP (b : Nat) : Nat → List Nat → List Nat
 | _, [] => []
 | c, s :: S => (s + c) % b :: addP b ((s + c) / b) S
theorem addO_eq (b : Nat) (S : List Nat) : ∀ c, addO b c S = addP b c S ++ (if 0 < addC b c S then [addC b c S] else []) := by
 induction S with
 | nil => intro c; rfl
 | cons s S ih => intro c; exact congrArg (List.cons ((s + c) % b)) (ih ((s + c) / b))
theorem addK_length (b : Nat) (S : List Nat) : ∀ c, (addK b c S).length = S.length := by
 induction S with
 | nil => intro c; rfl
 | cons s S ih => intro c; simp [addK, ih]
theorem addP_length (b : Nat) (S : List Nat) : ∀ c, (addP b c S).length = S.length := by
 induction S with
 | nil => intro c; rfl
 | cons s S ih => intro c; simp [addP, ih]
theorem carry_le {b s c : Nat} (hb : 2 ≤ b) (hs : s ≤ 2 * (b - 1)) (hc : c ≤ 1) : (s + c) / b ≤ 1 := by
 have : (s + c) / b < 2 := Nat.div_lt_of_lt_mul (by omega)
 omega
theorem addK_le {b : Nat} (hb : 2 ≤ b) (S : List Nat) (hS : ∀ s ∈ S, s ≤ 2 * (b - 1)) : ∀ c, c ≤ 1 → ∀ x ∈ addK b c S, x ≤ 1 := by
 induction S with
 | nil => intro c _ x h; simp [addK] at h
 | cons s S ih =>
  intro c hc x h
  have h1 := carry_le hb (hS s (by simp)) hc
  rcases List.mem_cons.1 h with rfl | h
  ·exact h1
  ·exact ih (fun y hy => hS y (by simp [hy])) _ h1 x h
theorem addC_le {b : Nat} (hb : 2 ≤ b) (S : List Nat) (hS : ∀ s ∈ S, s ≤ 2 * (b - 1)) : ∀ c, c ≤ 1 → addC b c S ≤ 1 := by
 induction S with
 | nil => intro c h; exact h
 | cons s S ih => intro c hc; exact ih (fun y hy => hS y (by simp [hy])) _ (carry_le hb (hS s (by simp)) hc)
theorem addP_lt {b : Nat} (hb : 2 ≤ b) (S : List Nat) : ∀ c, ∀ x ∈ addP b c S, x < b := by
 induction S with
 | nil => intro c x h; simp [addP] at h
 | cons s S ih =>
  intro c x h
  rcases List.mem_cons.1 h with rfl | h
  ·exact Nat.mod_lt _ (by omega)
  ·exact ih _ x h
theorem addK_last (b : Nat) (S : List Nat) : ∀ c, S ≠ [] → (addK b c S).getD (S.length - 1) 0 = addC b c S := by
 induction S with
 | nil => intro c h; exact absurd rfl h
 | cons s S ih =>
  intro c _
  cases S with
  | nil => simp [addK, addC]
  | cons t S =>
   have h := ih ((s + c) / b) (by simp)
   simp only [List.length_cons, Nat.add_sub_cancel] at h ⊢
   simp only [addK, addC, List.getD_cons_succ] at h ⊢
   exact h
theorem add_at (b : Nat) (S : List Nat) : ∀ c i, i < S.length → S.getD i 0 + (if i = 0 then c else (addK b c S).getD (i - 1) 0) = (addP b c S).getD i 0 + b * (addK b c S).getD i 0 := by
 induction S with
 | nil => intro c i h; simp at h
 | cons s S ih =>
  intro c i h
  cases i with
  | zero =>
   simp only [addK, addP, List.getD_cons_zero, if_true]
   have := Nat.div_add_mod (s + c) b
   omega
  | succ i =>
   have h2 := ih ((s + c) / b) i (by simpa using h)
   simp only [addK, addP, List.getD_cons_succ, Nat.add_sub_cancel]
   rw [if_neg (by omega)]
   rw [← h2]
   by_cases h0 : i = 0
   ·subst h0
    simp
   ·rw [if_neg h0]
    obtain ⟨j, rfl⟩ : ∃ j, i = j + 1 := ⟨i - 1, by omega⟩
    simp
def sumsL (ds : List Nat) : List Nat := List.zipWith (· + ·) ds.reverse ds
theorem sumsL_length (ds : List Nat) : (sumsL ds).length = ds.length := by simp [sumsL]
theorem sumsL_at (ds : List Nat) (i : Nat) (h : i < ds.length) : (sumsL ds).getD i 0 = ds.getD (ds.length - 1 - i) 0 + ds.getD i 0 := by
 unfold sumsL
 have h1 : i < ds.reverse.length := by simpa using h
 simp only [List.getD_eq_getElem?_getD, List.getElem?_zipWith, List.getElem?_eq_getElem h1, List.getElem?_eq_getElem h, List.getElem_reverse]
 rw [List.getElem?_eq_getElem (by omega)]
 rfl
theorem sumsL_le {b : Nat} (hb : 2 ≤ b) (ds : List Nat) (hd : ∀ d ∈ ds, d < b) : ∀ s ∈ sumsL ds, s ≤ 2 * (b - 1) := by
 intro s hs
 obtain ⟨i, hi, rfl⟩ := List.getElem_of_mem hs
 rw [sumsL_length] at hi
 have h1 := sumsL_at ds i hi
 have h2 : (sumsL ds)[i]'(by rw [sumsL_length]; exact hi) = (sumsL ds).getD i 0 := by rw [List.getD_eq_getElem?_getD, List.getElem?_eq_getElem (by rw [sumsL_length]; exact hi)]; rfl
 rw [h2, h1]
 have h3 : ∀ j, j < ds.length → ds.getD j 0 < b := fun j hj => by
  rw [List.getD_eq_getElem?_getD, List.getElem?_eq_getElem hj]
  exact hd _ (List.getElem_mem hj)
 have := h3 (ds.length - 1 - i) (by omega)
 have := h3 i hi
 omega

def gd (l : List Int) (b : Int) : Bool := decide (2 ≤ b ∧ b ≤ 16) && (decide (1 ≤ l.length ∧ l.length ≤ 40) && ((l.all fun x => decide (0 ≤ x ∧ x ≤ b - 1)) && (decide (rd l 0 > 0) || decide (l.length = 1))))
theorem gd_nat {l : List Int} {b : Int} (h : gd l b = true) : ∃ (ds : List Nat) (B : Nat), l = ic ds ∧ b = (B : Int) ∧ 2 ≤ B ∧ B ≤ 16 ∧ 1 ≤ ds.length ∧ ds.length ≤ 40 ∧ (∀ d ∈ ds, d < B) ∧ (0 < ds.getD 0 0 ∨ ds.length = 1) := by
 unfold gd at h
 simp only [Bool.and_eq_true, Bool.or_eq_true, decide_eq_true_eq, List.all_eq_true] at h
 obtain ⟨h1, h2, h3, h4⟩ := h
 have e : l = ic (l.map Int.toNat) := by
  unfold ic
  rw [List.map_map]
  refine (List.map_id l).symm.trans (List.map_congr_left fun x hx => ?_)
  have := h3 x hx
  simp only [id, Function.comp]
  omega
 refine ⟨l.map Int.toNat, b.toNat, e, by omega, by omega, by omega, by simpa using h2.1, by simpa using h2.2, fun d hd => ?_, ?_⟩
 ·obtain ⟨x, hx, rfl⟩ := List.mem_map.1 hd
  have := h3 x hx
  omega
 ·rcases h4 with h4 | h4
  ·left
   cases l with
   | nil => simp at h2
   | cons x l =>
    simp [rd] at h4
    simp
    omega
  ·right
   simpa using h4
theorem gd_of (ds : List Nat) (B : Nat) (h1 : 2 ≤ B) (h2 : B ≤ 16) (h3 : 1 ≤ ds.length) (h4 : ds.length ≤ 40) (h5 : ∀ d ∈ ds, d < B) (h6 : 0 < ds.getD 0 0 ∨ ds.length = 1) : gd (ic ds) (B : Int) = true := by
 unfold gd
 simp only [Bool.and_eq_true, Bool.or_eq_true, decide_eq_true_eq, List.all_eq_true, ic_length]
 refine ⟨by omega, ⟨h3, h4⟩, fun x hx => ?_, ?_⟩
 ·obtain ⟨d, hd, rfl⟩ := List.mem_map.1 hx
  have := h5 d hd
  omega
 ·rcases h6 with h6 | h6
  ·left
   cases ds with
   | nil => simp at h3
   | cons d ds =>
    simp at h6
    simp [rd, ic]
    omega
  ·exact Or.inr h6

theorem impl_in_eq (a b c : Int) : impl_in.f a b c = some (decide (b ≤ a ∧ a ≤ c)) := by
 unfold impl_in.f
 by_cases h : b ≤ a <;> simp [h]
theorem spec_l1In_eq (a b c : Int) : spec_l1In.f a b c = some (decide (b ≤ a ∧ a ≤ c)) := by
 unfold spec_l1In.f
 by_cases h : b ≤ a <;> simp [h]

theorem impl_isBase_eq (b : Int) : impl_isBase.f b = some (decide (2 ≤ b ∧ b ≤ 16)) := by simp only [impl_isBase.f, impl_in_eq, Option.bind_some]
theorem spec_dgBase_eq (b : Int) : spec_dgBase.f b = some (decide (2 ≤ b ∧ b ≤ 16)) := by simp only [spec_dgBase.f, spec_l1In_eq, Option.bind_some]

theorem tmod_cast (a b : Nat) : Int.tmod (a : Int) (b : Int) = ((a % b : Nat) : Int) := (Int.ofNat_tmod a b).symm
theorem tdiv_cast (a b : Nat) : Int.tdiv (a : Int) (b : Int) = ((a / b : Nat) : Int) := (Int.ofNat_tdiv a b).symm
theorem natOf {a : Int} (h : 0 ≤ a) : ∃ n : Nat, a = (n : Int) := ⟨a.toNat, by omega⟩

theorem l1All_loop (lo hi : Int) (whole : List Int) (post : List Int) : ∀ pre : List Int, whole = pre ++ post → whole.length ≤ 4611686018427387904 →
  Ev (fun k => spec_l1All.l0 k lo hi whole (whole.length : Int) (pre.length : Int)) (post.all fun x => decide (lo ≤ x ∧ x ≤ hi)) := by
 induction post with
 | nil =>
  intro pre hw h
  refine evs (fun k => by rw [spec_l1All.l0]) ?_
  exact evn (by simp [hw]) (evr (by simp))
 | cons y post ih =>
  intro pre hw h
  have hl : whole.length = pre.length + (post.length + 1) := by simp [hw]
  have hx : rd whole (pre.length : Int) = y := by rw [hw, rd_mid]
  refine evs (fun k => by rw [spec_l1All.l0]) ?_
  rw [hx]
  simp only [spec_l1In_eq, Option.bind_some, decide_eq_true_eq]
  refine evp (by omega) (evp (by omega) (evp (by omega) ?_))
  by_cases he : lo ≤ y ∧ y ≤ hi
  ·refine evp he ?_
   have h2 := ih (pre ++ [y]) (by simp [hw]) h
   rw [w64 (by omega) (by omega)]
   have e : ((y :: post).all fun x => decide (lo ≤ x ∧ x ≤ hi)) = (post.all fun x => decide (lo ≤ x ∧ x ≤ hi)) := by
    rw [List.all_cons, decide_eq_true he, Bool.true_and]
   rw [e]
   simpa using h2
  ·refine evn he (evr ?_)
   rw [List.all_cons, decide_eq_false he, Bool.false_and]
theorem l1All_ev (l : List Int) (lo hi : Int) (h : l.length ≤ 4611686018427387904) : Ev (fun k => spec_l1All.f k l lo hi) (l.all fun x => decide (lo ≤ x ∧ x ≤ hi)) := by
 unfold spec_l1All.f
 simpa using l1All_loop lo hi l l [] rfl h

theorem reverse_loop (n : Nat) : ∀ (mid pre post : List Int), mid.length ≤ n → pre.length = post.length → (pre ++ mid ++ post).length ≤ 1000000000000 →
  Ev (fun k => slices_Reverse_int_int.l0 k (pre ++ mid ++ post) (pre.length : Int) ((pre.length : Int) + (mid.length : Int) - 1)) (pre ++ mid.reverse ++ post) := by
 induction n with
 | zero =>
  intro mid pre post hm _ _
  obtain rfl : mid = [] := List.eq_nil_of_length_eq_zero (by omega)
  refine evs (fun k => by rw [slices_Reverse_int_int.l0]) ?_
  exact evn (by simp; omega) (evr (by simp))
 | succ n ih =>
  intro mid pre post hm hp hl
  cases mid with
  | nil =>
   refine evs (fun k => by rw [slices_Reverse_int_int.l0]) ?_
   exact evn (by simp; omega) (evr (by simp))
  | cons a t =>
   by_cases ht : t = []
   ·subst ht
    refine evs (fun k => by rw [slices_Reverse_int_int.l0]) ?_
    exact evn (by simp) (evr (by simp))
   ·obtain ⟨m, b, rfl⟩ : ∃ m b, t = m ++ [b] := ⟨t.dropLast, t.getLast ht, (List.dropLast_concat_getLast ht).symm⟩
    simp only [List.length_append, List.length_cons, List.length_nil] at hm hl
    have e0 : pre ++ (a :: (m ++ [b])) ++ post = pre ++ a :: (m ++ b :: post) := by simp
    have e1 : pre ++ (a :: (m ++ [b])) ++ post = (pre ++ a :: m) ++ b :: post := by simp
    have hj : ((pre.length : Int) + (((a :: (m ++ [b])).length : Nat) : Int) - 1) = (((pre ++ a :: m).length : Nat) : Int) := by simp; omega
    have r1 : rd (pre ++ (a :: (m ++ [b])) ++ post) (((pre ++ a :: m).length : Nat) : Int) = b := by rw [e1, rd_mid]
    have r0 : rd (pre ++ (a :: (m ++ [b])) ++ post) ((pre.length : Nat) : Int) = a := by rw [e0, rd_mid]
    have hset : ((pre ++ (a :: (m ++ [b])) ++ post).set (pre.length : Int).toNat b).set (((pre ++ a :: m).length : Nat) : Int).toNat a = (pre ++ [b]) ++ m ++ (a :: post) := by
     rw [e0, Int.toNat_natCast, Int.toNat_natCast, set_mid]
     have e2 : pre ++ b :: (m ++ b :: post) = (pre ++ b :: m) ++ b :: post := by simp
     have e3 : (pre ++ a :: m).length = (pre ++ b :: m).length := by simp
     rw [e2, e3, set_mid]
     simp
    have h := ih m (pre ++ [b]) (a :: post) (by omega) (by simp; omega) (by simp; omega)
    have hj2 : (((pre ++ a :: m).length : Nat) : Int) = (pre.length : Int) + (m.length : Int) + 1 := by simp; omega
    have hlen : (((pre ++ (a :: (m ++ [b])) ++ post).length : Nat) : Int) = (pre.length : Int) + (m.length : Int) + 2 + (post.length : Int) := by simp; omega
    refine evs (fun k => by rw [slices_Reverse_int_int.l0]) ?_
    rw [hj, r1, r0, hset, hlen, hj2, w64o (x := (pre.length : Int) + 1), w64o (x := (pre.length : Int) + (m.length : Int) + 1 - 1)]
    refine evp (by omega) (evp (by omega) (evp (by omega) (evp (by omega) (evp (by omega) ?_))))
    have e4 : (((pre ++ [b]).length : Nat) : Int) = (pre.length : Int) + 1 := by simp
    rw [e4, show (pre.length : Int) + 1 + (m.length : Int) - 1 = (pre.length : Int) + (m.length : Int) + 1 - 1 by omega] at h
    have e5 : (pre ++ [b]) ++ m.reverse ++ (a :: post) = pre ++ (a :: (m ++ [b])).reverse ++ post := by simp
    rw [e5] at h
    exact h
theorem reverse_ev (l : List Int) (h : l.length ≤ 1000000000000) : Ev (fun k => slices_Reverse_int_int.f k l) l.reverse := by
 unfold slices_Reverse_int_int.f
 rw [w64 (by omega) (by omega)]
 have := reverse_loop l.length l [] [] (Nat.le_refl _) rfl (by simpa using h)
 simpa using this

theorem clone_ev (l : List Int) (h : l.length ≤ 1000000) : slices_Clone_int_int.f l = some l := by
 unfold slices_Clone_int_int.f
 rw [if_pos (by omega)]

def srcDfs (b : Nat) : Nat → List Nat → List (List Nat)
 | _, [] => [[]]
 | c, r :: R => (if c ≤ r then (srcDfs b 0 R).map (fun S => (r - c) :: S) else []) ++ (if r + b - c ≤ 2 * (b - 1) then (srcDfs b 1 R).map (fun S => (r + b - c) :: S) else [])
def srcSpec (b : Nat) : Nat → List Nat → Nat → Option (List Nat)
 | _, [], _ => some []
 | c, r :: R, n => if c ≤ r + b * (n % 2) ∧ r + b * (n % 2) - c ≤ 2 * (b - 1) then (srcSpec b (n % 2) R (n / 2)).map (fun S => (r + b * (n % 2) - c) :: S) else none
theorem range_two (N : Nat) : (List.range (2 * N)).Perm ((List.range N).map (2 * ·) ++ (List.range N).map (fun n => 2 * n + 1)) := by
 induction N with
 | zero => simp
 | succ N ih =>
  rw [show 2 * (N + 1) = 2 * N + 1 + 1 by omega, List.range_succ, List.range_succ, List.range_succ (n := N)]
  simp only [List.map_append, List.map_cons, List.map_nil]
  refine ((ih.append_right [2 * N]).append_right [2 * N + 1]).trans ?_
  simp only [List.append_assoc]
  refine List.Perm.append_left _ ?_
  simp only [← List.append_assoc]
  exact List.Perm.append_right _ List.perm_append_comm
theorem filterMap_map_some {α β : Type} (f : Nat → Option α) (g : α → β) (l : List Nat) : l.filterMap (fun n => (f n).map g) = (l.filterMap f).map g := by
 induction l with
 | nil => rfl
 | cons x l ih =>
  simp only [List.filterMap_cons, ih]
  cases f x <;> rfl
theorem src_perm (b : Nat) (hb : 2 ≤ b) (R : List Nat) : ∀ c, c ≤ 1 → (∀ r ∈ R, r < b) → ((List.range (2 ^ R.length)).filterMap (srcSpec b c R)).Perm (srcDfs b c R) := by
 induction R with
 | nil => intro c _ _; exact List.Perm.refl _
 | cons r R ih =>
  intro c hc hR
  have hr := hR r (by simp)
  have hR2 : ∀ x ∈ R, x < b := fun x hx => hR x (by simp [hx])
  rw [List.length_cons, Nat.pow_succ, Nat.mul_comm]
  refine ((range_two _).filterMap _).trans ?_
  rw [List.filterMap_append, List.filterMap_map, List.filterMap_map, srcDfs]
  refine List.Perm.append ?_ ?_
  ·have e : (srcSpec b c (r :: R) ∘ (2 * ·)) = fun n => if c ≤ r then (srcSpec b 0 R n).map (fun S => (r - c) :: S) else none := by
    funext n
    simp only [Function.comp, srcSpec]
    rw [show 2 * n % 2 = 0 by omega, show 2 * n / 2 = n by omega, Nat.mul_zero, Nat.add_zero]
    by_cases h : c ≤ r
    ·rw [if_pos h, if_pos ⟨h, by omega⟩]
    ·rw [if_neg h, if_neg (fun h2 => h h2.1)]
   rw [e]
   by_cases h : c ≤ r
   ·simp only [h, if_true]
    rw [filterMap_map_some]
    exact (ih 0 (by omega) hR2).map _
   ·simp [h]
  ·have e : (srcSpec b c (r :: R) ∘ fun n => 2 * n + 1) = fun n => if r + b - c ≤ 2 * (b - 1) then (srcSpec b 1 R n).map (fun S => (r + b - c) :: S) else none := by
    funext n
    simp only [Function.comp, srcSpec]
    rw [show (2 * n + 1) % 2 = 1 by omega, show (2 * n + 1) / 2 = n by omega, Nat.mul_one]
    by_cases h : r + b - c ≤ 2 * (b - 1)
    ·rw [if_pos h, if_pos ⟨by omega, h⟩]
    ·rw [if_neg h, if_neg (fun h2 => h h2.2)]
   rw [e]
   by_cases h : r + b - c ≤ 2 * (b - 1)
   ·simp only [h, if_true]
    rw [filterMap_map_some]
    exact (ih 1 (by omega) hR2).map _
   ·simp [h]
theorem srcDfs_facts (b : Nat) (hb : 2 ≤ b) (R : List Nat) : ∀ c, c ≤ 1 → (∀ r ∈ R, r < b) → ((srcDfs b c R).length ≤ 2 ^ R.length ∧ ∀ S ∈ srcDfs b c R, S.length = R.length ∧ ∀ s ∈ S, s ≤ 2 * (b - 1)) := by
 induction R with
 | nil => intro c _ _; simp [srcDfs]
 | cons r R ih =>
  intro c hc hR
  have hr := hR r (by simp)
  have hR2 : ∀ x ∈ R, x < b := fun x hx => hR x (by simp [hx])
  obtain ⟨h0, f0⟩ := ih 0 (by omega) hR2
  obtain ⟨h1, f1⟩ := ih 1 (by omega) hR2
  have e0 : (if c ≤ r then (srcDfs b 0 R).map (fun S => (r - c) :: S) else []).length ≤ 2 ^ R.length := by split <;> simp [h0]
  have e1 : (if r + b - c ≤ 2 * (b - 1) then (srcDfs b 1 R).map (fun S => (r + b - c) :: S) else []).length ≤ 2 ^ R.length := by split <;> simp [h1]
  rw [srcDfs]
  refine ⟨by rw [List.length_append, List.length_cons, Nat.pow_succ]; omega, fun S hS => ?_⟩
  rcases List.mem_append.1 hS with h | h
  ·split at h
   ·obtain ⟨T, hT, rfl⟩ := List.mem_map.1 h
    obtain ⟨g1, g2⟩ := f0 T hT
    refine ⟨by simp [g1], fun s hs => ?_⟩
    rcases List.mem_cons.1 hs with rfl | hs
    ·omega
    ·exact g2 s hs
   ·simp at h
  ·split at h
   ·obtain ⟨T, hT, rfl⟩ := List.mem_map.1 h
    obtain ⟨g1, g2⟩ := f1 T hT
    refine ⟨by simp [g1], fun s hs => ?_⟩
    rcases List.mem_cons.1 hs with rfl | hs
    ·omega
    ·exact g2 s hs
   ·simp at h
theorem srcDfs_mem (b : Nat) (hb : 2 ≤ b) (S : List Nat) : ∀ c, c ≤ 1 → (∀ s ∈ S, s ≤ 2 * (b - 1)) → S ∈ srcDfs b c (addP b c S) := by
 induction S with
 | nil => intro c _ _; simp [addP, srcDfs]
 | cons s S ih =>
  intro c hc hS
  have hs := hS s (by simp)
  have hS2 : ∀ x ∈ S, x ≤ 2 * (b - 1) := fun x hx => hS x (by simp [hx])
  have hd := carry_le hb hs hc
  have hm := Nat.div_add_mod (s + c) b
  have i := ih ((s + c) / b) hd hS2
  simp only [addP, srcDfs]
  refine List.mem_append.2 ?_
  rcases Nat.le_one_iff_eq_zero_or_eq_one.1 hd with h | h
  ·left
   rw [h] at i hm ⊢
   rw [if_pos (by omega)]
   exact List.mem_map.2 ⟨S, i, by congr 1; omega⟩
  ·right
   rw [h] at i hm ⊢
   rw [if_pos (by omega)]
   exact List.mem_map.2 ⟨S, i, by congr 1; omega⟩
def srcLo (b i s : Nat) : Nat := max (if i = 0 then 1 else 0) (s - (b - 1))
def srcWy (b i s : Nat) : Nat := min s (b - 1) + 1 - srcLo b i s
def srcFac (b m i s : Nat) : Nat := if 2 * i + 1 = m then (if s % 2 = 1 ∨ i = 0 ∧ s = 0 then 0 else 1) else srcWy b i s
def srcCnt (b m : Nat) : Nat → List Nat → Nat
 | _, [] => 1
 | i, s :: S => srcFac b m i s * srcCnt b m (i + 1) S
def srcMir (m : Nat) (S : List Nat) : List Nat := (List.range m).map (fun i => S.getD (min i (m - 1 - i)) 0)
def srcAt (b m : Nat) (S : List Nat) (i : Nat) : Nat := if 2 * i + 1 = m then S.getD i 0 / 2 else if 2 * i + 1 < m then srcLo b i (S.getD i 0) else S.getD (m - 1 - i) 0 - srcLo b (m - 1 - i) (S.getD (m - 1 - i) 0)
def srcFst (b m : Nat) (S : List Nat) : List Nat := (List.range m).map (srcAt b m S)
theorem srcCnt_at (b m : Nat) (S : List Nat) : ∀ i, srcCnt b m i S ≠ 0 ↔ ∀ j, j < S.length → srcFac b m (i + j) (S.getD j 0) ≠ 0 := by
 induction S with
 | nil => intro i; simp [srcCnt]
 | cons s S ih =>
  intro i
  rw [srcCnt, Nat.mul_ne_zero_iff, ih (i + 1)]
  constructor
  ·rintro ⟨h1, h2⟩ j hj
   cases j with
   | zero => simpa using h1
   | succ j =>
    have := h2 j (by simpa using hj)
    rw [show i + (j + 1) = i + 1 + j by omega]
    simpa using this
  ·intro h
   refine ⟨by simpa using h 0 (by simp), fun j hj => ?_⟩
   have := h (j + 1) (by simpa using hj)
   rw [show i + (j + 1) = i + 1 + j by omega] at this
   simpa using this
theorem srcFac_le (b m i s : Nat) (hb : 2 ≤ b) : srcFac b m i s ≤ b := by
 unfold srcFac srcWy
 split
 ·split <;> omega
 ·omega
theorem srcCnt_le (b m : Nat) (hb : 2 ≤ b) (S : List Nat) : ∀ i, srcCnt b m i S ≤ b ^ S.length := by
 induction S with
 | nil => intro i; simp [srcCnt]
 | cons s S ih =>
  intro i
  rw [srcCnt, List.length_cons, Nat.pow_succ, Nat.mul_comm (b ^ S.length)]
  exact Nat.mul_le_mul (srcFac_le b m i s hb) (ih _)
theorem getD_map_range (f : Nat → Nat) (m i : Nat) (h : i < m) : ((List.range m).map f).getD i 0 = f i := by
 simp [List.getD_eq_getElem?_getD, h]
theorem srcFst_len (b m : Nat) (S : List Nat) : (srcFst b m S).length = m := by simp [srcFst]
theorem srcFst_at (b m : Nat) (S : List Nat) (i : Nat) (h : i < m) : (srcFst b m S).getD i 0 = srcAt b m S i := getD_map_range _ _ _ h
theorem srcMir_len (m : Nat) (S : List Nat) : (srcMir m S).length = m := by simp [srcMir]
theorem list_eq_of_getD (X Y : List Nat) (hl : X.length = Y.length) (h : ∀ i, i < X.length → X.getD i 0 = Y.getD i 0) : X = Y := by
 apply List.ext_getElem hl
 intro i h1 h2
 have := h i h1
 simpa [List.getD_eq_getElem?_getD, h1, h2] using this
theorem srcFac_pair {b m i s : Nat} (h : srcFac b m i s ≠ 0) (hi : 2 * i + 1 < m) : srcLo b i s ≤ s ∧ srcLo b i s ≤ b - 1 ∧ s - srcLo b i s ≤ b - 1 ∧ (i = 0 → 1 ≤ srcLo b i s) := by
 unfold srcFac at h
 rw [if_neg (by omega)] at h
 unfold srcWy at h
 unfold srcLo at h ⊢
 by_cases h0 : i = 0
 ·rw [if_pos h0] at h ⊢
  omega
 ·rw [if_neg h0] at h ⊢
  omega
theorem srcFac_mid {b m i s : Nat} (h : srcFac b m i s ≠ 0) (hi : 2 * i + 1 = m) : s % 2 = 0 ∧ (i = 0 → 0 < s) := by
 unfold srcFac at h
 rw [if_pos hi] at h
 split at h
 ·omega
 ·rename_i h2
  omega
theorem srcAt_sum (b m : Nat) (S : List Nat) (i : Nat) (hi : i < m) (hS : ∀ s ∈ S, s ≤ 2 * (b - 1)) (hl : S.length = (m + 1) / 2) (h : srcCnt b m 0 S ≠ 0) :
  srcAt b m S i + srcAt b m S (m - 1 - i) = S.getD (min i (m - 1 - i)) 0 ∧ srcAt b m S i ≤ b - 1 ∧ (i = 0 → 0 < srcAt b m S i) := by
 rw [srcCnt_at] at h
 have hk := h (min i (m - 1 - i)) (by omega)
 have hle : S.getD (min i (m - 1 - i)) 0 ≤ 2 * (b - 1) := by
  rw [List.getD_eq_getElem?_getD, List.getElem?_eq_getElem (by omega)]
  exact hS _ (List.getElem_mem _)
 rw [Nat.zero_add] at hk
 unfold srcAt
 rcases Nat.lt_trichotomy (2 * i + 1) m with h1 | h1 | h1
 ·rw [show min i (m - 1 - i) = i by omega] at hk hle ⊢
  obtain ⟨p1, p2, p3, p4⟩ := srcFac_pair hk h1
  rw [if_neg (by omega), if_pos h1, if_neg (by omega), if_neg (by omega), show m - 1 - (m - 1 - i) = i by omega]
  exact ⟨by omega, p2, fun h => by have := p4 h; omega⟩
 ·rw [show min i (m - 1 - i) = i by omega] at hk hle ⊢
  obtain ⟨p1, p2⟩ := srcFac_mid hk h1
  rw [if_pos h1, show m - 1 - i = i by omega, if_pos h1]
  exact ⟨by omega, by omega, fun h => by have := p2 h; omega⟩
 ·rw [show min i (m - 1 - i) = m - 1 - i by omega] at hk hle ⊢
  obtain ⟨p1, p2, p3, p4⟩ := srcFac_pair hk (by omega)
  rw [if_neg (by omega), if_neg (by omega), if_neg (by omega), if_pos (by omega)]
  exact ⟨by omega, p3, fun h => by omega⟩
theorem srcFst_facts (b m : Nat) (hb : 2 ≤ b) (S : List Nat) (hS : ∀ s ∈ S, s ≤ 2 * (b - 1)) (hl : S.length = (m + 1) / 2) (h : srcCnt b m 0 S ≠ 0) :
  sumsL (srcFst b m S) = srcMir m S ∧ (∀ d ∈ srcFst b m S, d < b) ∧ (1 ≤ m → 0 < (srcFst b m S).getD 0 0) := by
 refine ⟨?_, fun d hd => ?_, fun hm => ?_⟩
 ·refine list_eq_of_getD _ _ (by rw [sumsL_length, srcFst_len, srcMir_len]) (fun i hi => ?_)
  rw [sumsL_length, srcFst_len] at hi
  rw [sumsL_at _ _ (by rw [srcFst_len]; exact hi), srcFst_len, srcFst_at _ _ _ _ (by omega), srcFst_at _ _ _ _ hi, srcMir, getD_map_range _ _ _ hi]
  have := (srcAt_sum b m S i hi hS hl h).1
  omega
 ·obtain ⟨i, hi, rfl⟩ := List.mem_map.1 hd
  have := (srcAt_sum b m S i (List.mem_range.1 hi) hS hl h).2.1
  omega
 ·rw [srcFst_at _ _ _ _ (by omega)]
  exact (srcAt_sum b m S 0 (by omega) hS hl h).2.2 rfl
def srcOk (b m : Nat) (D : List Nat) (S : List Nat) : Prop := srcCnt b m 0 S ≠ 0 ∧ addO b 0 (srcMir m S) = D.reverse
instance (b m : Nat) (D S : List Nat) : Decidable (srcOk b m D S) := by unfold srcOk; infer_instance
def srcT (b m : Nat) (D : List Nat) (z : Nat × List Nat) (S : List Nat) : Nat × List Nat := if srcOk b m D S then (z.1 + srcCnt b m 0 S, if z.2 = [] ∨ val b 0 (srcFst b m S) < val b 0 z.2 then srcFst b m S else z.2) else z
def srcGood (b m : Nat) (S : List Nat) : Prop := S.length = (m + 1) / 2 ∧ ∀ s ∈ S, s ≤ 2 * (b - 1)
theorem srcT_comm (b m : Nat) (hb : 2 ≤ b) (hm : 1 ≤ m) (D X Y : List Nat) (hX : srcGood b m X) (hY : srcGood b m Y) (z : Nat × List Nat) : srcT b m D (srcT b m D z X) Y = srcT b m D (srcT b m D z Y) X := by
 by_cases oX : srcOk b m D X
 ·by_cases oY : srcOk b m D Y
  ·have nX : srcFst b m X ≠ [] := fun h => by have := srcFst_len b m X; rw [h] at this; simp at this; omega
   have nY : srcFst b m Y ≠ [] := fun h => by have := srcFst_len b m Y; rw [h] at this; simp at this; omega
   have hinj : val b 0 (srcFst b m X) = val b 0 (srcFst b m Y) → srcFst b m X = srcFst b m Y := val_inj _ _ (by rw [srcFst_len, srcFst_len]) (srcFst_facts b m hb X hX.2 hX.1 oX.1).2.1 (srcFst_facts b m hb Y hY.2 hY.1 oY.1).2.1
   obtain ⟨c, F⟩ := z
   unfold srcT
   rw [if_pos oX, if_pos oY, if_pos oY, if_pos oX]
   generalize srcFst b m X = P at *
   generalize srcFst b m Y = Q at *
   refine Prod.ext (by simp only; omega) ?_
   simp only
   by_cases hF : F = []
   ·simp only [hF, true_or, if_true, nX, nY, false_or]
    by_cases h1 : val b 0 Q < val b 0 P
    ·rw [if_pos h1, if_neg (by omega)]
    ·rw [if_neg h1]
     by_cases h2 : val b 0 P < val b 0 Q
     ·rw [if_pos h2]
     ·rw [if_neg h2]
      exact hinj (by omega)
   ·simp only [hF, false_or]
    by_cases h1 : val b 0 P < val b 0 F
    ·by_cases h2 : val b 0 Q < val b 0 F
     ·simp only [h1, h2, if_true, nX, nY, false_or]
      by_cases h3 : val b 0 Q < val b 0 P
      ·rw [if_pos h3, if_neg (by omega)]
      ·rw [if_neg h3]
       by_cases h4 : val b 0 P < val b 0 Q
       ·rw [if_pos h4]
       ·rw [if_neg h4]
        exact hinj (by omega)
     ·simp only [h1, h2, if_true, if_false, nX, hF, false_or]
      rw [if_neg (by omega)]
    ·by_cases h2 : val b 0 Q < val b 0 F
     ·simp only [h1, h2, if_true, if_false, nY, hF, false_or]
      rw [if_neg (by omega)]
     ·simp only [h1, h2, if_false, hF, false_or]
  ·unfold srcT
   simp only [if_neg oY]
 ·unfold srcT
  simp only [if_neg oX]
theorem srcT_fold (b m : Nat) (hm : 1 ≤ m) (D : List Nat) (M : Nat) (l : List (List Nat)) : ∀ z : Nat × List Nat, (z.2 = [] ↔ z.1 = 0) → (∀ S ∈ l, srcCnt b m 0 S ≤ M) →
  ((l.foldl (srcT b m D) z).2 = [] ↔ (l.foldl (srcT b m D) z).1 = 0) ∧ ((l.foldl (srcT b m D) z).2 = z.2 ∨ ∃ S ∈ l, srcOk b m D S ∧ (l.foldl (srcT b m D) z).2 = srcFst b m S) ∧
  (z.2 ≠ [] → (l.foldl (srcT b m D) z).2 ≠ [] ∧ val b 0 (l.foldl (srcT b m D) z).2 ≤ val b 0 z.2) ∧ (∀ S ∈ l, srcOk b m D S → (l.foldl (srcT b m D) z).2 ≠ [] ∧ val b 0 (l.foldl (srcT b m D) z).2 ≤ val b 0 (srcFst b m S)) ∧
  (l.foldl (srcT b m D) z).1 ≤ z.1 + l.length * M := by
 induction l with
 | nil => intro z hz _; exact ⟨hz, Or.inl rfl, fun h => ⟨h, Nat.le_refl _⟩, fun S h => by simp at h, by simp⟩
 | cons S l ih =>
  intro z hz hM
  have nS : srcFst b m S ≠ [] := fun h => by have := srcFst_len b m S; rw [h] at this; simp at this; omega
  have hMS := hM S (by simp)
  have hM2 : ∀ T ∈ l, srcCnt b m 0 T ≤ M := fun T hT => hM T (by simp [hT])
  rw [List.foldl_cons, List.length_cons, Nat.add_mul, Nat.one_mul]
  by_cases ok : srcOk b m D S
  ·have e : srcT b m D z S = (z.1 + srcCnt b m 0 S, if z.2 = [] ∨ val b 0 (srcFst b m S) < val b 0 z.2 then srcFst b m S else z.2) := if_pos ok
   have hn : (srcT b m D z S).2 ≠ [] ∧ val b 0 (srcT b m D z S).2 ≤ val b 0 (srcFst b m S) ∧ (z.2 ≠ [] → val b 0 (srcT b m D z S).2 ≤ val b 0 z.2) := by
    rw [e]
    simp only
    by_cases h : z.2 = [] ∨ val b 0 (srcFst b m S) < val b 0 z.2
    ·rw [if_pos h]
     exact ⟨nS, Nat.le_refl _, fun h2 => by rcases h with h | h; exact absurd h h2; omega⟩
    ·rw [if_neg h]
     exact ⟨fun h2 => h (Or.inl h2), Nat.le_of_not_lt (fun h2 => h (Or.inr h2)), fun _ => Nat.le_refl _⟩
   have hc : (srcT b m D z S).1 = z.1 + srcCnt b m 0 S := by rw [e]
   have hpos := Nat.pos_of_ne_zero ok.1
   obtain ⟨i1, i2, i3, i4, i5⟩ := ih (srcT b m D z S) ⟨fun h => absurd h hn.1, fun h => by omega⟩ hM2
   have i3' := i3 hn.1
   refine ⟨i1, ?_, fun h => ⟨i3'.1, Nat.le_trans i3'.2 (hn.2.2 h)⟩, fun T hT okT => ?_, by omega⟩
   ·rcases i2 with i2 | ⟨T, hT, okT, i2⟩
    ·by_cases h : z.2 = [] ∨ val b 0 (srcFst b m S) < val b 0 z.2
     ·right
      refine ⟨S, by simp, ok, i2.trans ?_⟩
      rw [e]
      exact if_pos h
     ·left
      refine i2.trans ?_
      rw [e]
      exact if_neg h
    ·exact Or.inr ⟨T, by simp [hT], okT, i2⟩
   ·rcases List.mem_cons.1 hT with rfl | hT
    ·exact ⟨i3'.1, Nat.le_trans i3'.2 hn.2.1⟩
    ·exact i4 T hT okT
  ·have e : srcT b m D z S = z := if_neg ok
   rw [e]
   obtain ⟨i1, i2, i3, i4, i5⟩ := ih z hz hM2
   refine ⟨i1, ?_, i3, fun T hT okT => ?_, by omega⟩
   ·rcases i2 with i2 | ⟨T, hT, okT, i2⟩
    ·exact Or.inl i2
    ·exact Or.inr ⟨T, by simp [hT], okT, i2⟩
   ·rcases List.mem_cons.1 hT with rfl | hT
    ·exact absurd okT ok
    ·exact i4 T hT okT
def srcOut (b m : Nat) (D : List Nat) : Nat × List Nat := (srcDfs b 0 (D.reverse.take ((m + 1) / 2))).foldl (srcT b m D) (0, [])
theorem val_lex {b : Nat} (X : List Nat) : ∀ Y : List Nat, X.length = Y.length → (∀ d ∈ X, d < b) → (∀ d ∈ Y, d < b) → (∀ j, j < X.length → (∀ i, i < j → X.getD i 0 = Y.getD i 0) → X.getD j 0 ≤ Y.getD j 0) → val b 0 X ≤ val b 0 Y := by
 induction X with
 | nil => intro Y hl _ _ _; rw [List.eq_nil_of_length_eq_zero hl.symm]; exact Nat.le_refl _
 | cons x X ih =>
  intro Y hl hX hY h
  cases Y with
  | nil => simp at hl
  | cons y Y =>
   have hl2 : X.length = Y.length := by simpa using hl
   have h0 := h 0 (by simp) (fun i hi => by omega)
   simp only [List.getD_cons_zero] at h0
   have hX2 : ∀ z ∈ X, z < b := fun z hz => hX z (by simp [hz])
   have hY2 : ∀ z ∈ Y, z < b := fun z hz => hY z (by simp [hz])
   rw [val_cons, val_cons, hl2]
   have hv := val_lt0 X hX2
   rw [hl2] at hv
   rcases Nat.lt_or_ge x y with hlt | hge
   ·have : (x + 1) * b ^ Y.length ≤ y * b ^ Y.length := Nat.mul_le_mul_right _ hlt
    rw [Nat.add_mul] at this
    omega
   ·obtain rfl : x = y := by omega
    have := ih Y hl2 hX2 hY2 (fun j hj hi => by
     have := h (j + 1) (by simpa using hj) (fun i hlt => by
      cases i with
      | zero => simp
      | succ i => simpa using hi i (by omega))
     simpa using this)
    omega
theorem addP_take (b : Nat) (S : List Nat) : ∀ c k, addP b c (S.take k) = (addP b c S).take k := by
 induction S with
 | nil => intro c k; simp [addP]
 | cons s S ih =>
  intro c k
  cases k with
  | zero => simp [addP]
  | succ k => simp [addP, ih]
theorem getD_take (S : List Nat) (k i : Nat) (h : i < k) : (S.take k).getD i 0 = S.getD i 0 := by
 simp [List.getD_eq_getElem?_getD, h]
theorem srcMir_take (ds : List Nat) : srcMir ds.length ((sumsL ds).take ((ds.length + 1) / 2)) = sumsL ds := by
 refine list_eq_of_getD _ _ (by rw [srcMir_len, sumsL_length]) (fun i hi => ?_)
 rw [srcMir_len] at hi
 rw [srcMir, getD_map_range _ _ _ hi, getD_take _ _ _ (by omega), sumsL_at _ _ (by omega), sumsL_at _ _ hi]
 rcases (by omega : min i (ds.length - 1 - i) = i ∨ min i (ds.length - 1 - i) = ds.length - 1 - i) with h | h
 ·rw [h]
 ·rw [h, show ds.length - 1 - (ds.length - 1 - i) = i by omega, Nat.add_comm]
theorem getD_lt' {b : Nat} (ds : List Nat) (hd : ∀ d ∈ ds, d < b) (i : Nat) (h : i < ds.length) : ds.getD i 0 < b := by
 rw [List.getD_eq_getElem?_getD, List.getElem?_eq_getElem h]
 exact hd _ (List.getElem_mem h)
theorem src_own (b : Nat) (hb : 2 ≤ b) (ds D : List Nat) (h1 : 1 ≤ ds.length) (hd : ∀ d ∈ ds, d < b) (h0 : 0 < ds.getD 0 0) (hD : D = (addO b 0 (sumsL ds)).reverse) :
  ((sumsL ds).take ((ds.length + 1) / 2)) ∈ srcDfs b 0 (D.reverse.take ((ds.length + 1) / 2)) ∧ srcOk b ds.length D ((sumsL ds).take ((ds.length + 1) / 2)) ∧
  val b 0 (srcFst b ds.length ((sumsL ds).take ((ds.length + 1) / 2))) ≤ val b 0 ds := by
 have hS := sumsL_le hb ds hd
 have hl : ((sumsL ds).take ((ds.length + 1) / 2)).length = (ds.length + 1) / 2 := by rw [List.length_take, sumsL_length]; omega
 have hS2 : ∀ s ∈ (sumsL ds).take ((ds.length + 1) / 2), s ≤ 2 * (b - 1) := fun s hs => hS s (List.mem_of_mem_take hs)
 have hDr : D.reverse = addO b 0 (sumsL ds) := by rw [hD, List.reverse_reverse]
 have hat : ∀ i, i < (ds.length + 1) / 2 → ((sumsL ds).take ((ds.length + 1) / 2)).getD i 0 = ds.getD (ds.length - 1 - i) 0 + ds.getD i 0 := fun i hi => by rw [getD_take _ _ _ hi, sumsL_at _ _ (by omega)]
 have hok : srcCnt b ds.length 0 ((sumsL ds).take ((ds.length + 1) / 2)) ≠ 0 := by
  rw [srcCnt_at]
  intro j hj
  rw [hl] at hj
  rw [Nat.zero_add, hat j hj]
  have g1 := getD_lt' ds hd j (by omega)
  have g2 := getD_lt' ds hd (ds.length - 1 - j) (by omega)
  unfold srcFac
  by_cases h : 2 * j + 1 = ds.length
  ·rw [if_pos h, show ds.length - 1 - j = j by omega, if_neg]
   ·omega
   ·rintro (h2 | ⟨rfl, h2⟩) <;> omega
  ·rw [if_neg h]
   unfold srcWy srcLo
   by_cases h3 : j = 0
   ·subst h3
    rw [if_pos rfl]
    omega
   ·rw [if_neg h3]
    omega
 refine ⟨?_, ⟨hok, by rw [srcMir_take, hDr]⟩, ?_⟩
 ·have := srcDfs_mem b hb _ 0 (by omega) hS2
  rw [addP_take] at this
  rw [hDr, addO_eq, List.take_append_of_le_length (by rw [addP_length, sumsL_length]; omega)]
  exact this
 ·obtain ⟨f1, f2, f3⟩ := srcFst_facts b ds.length hb _ hS2 hl hok
  refine val_lex _ _ (srcFst_len _ _ _) f2 hd (fun j hj hi => ?_)
  rw [srcFst_len] at hj
  rw [srcFst_at _ _ _ _ hj]
  have hs := (srcAt_sum b ds.length _ j hj hS2 hl hok).1
  rw [hat _ (by omega)] at hs
  rcases Nat.lt_trichotomy (2 * j + 1) ds.length with h | h | h
  ·unfold srcAt
   rw [if_neg (by omega), if_pos h, hat j (by omega)]
   have g2 := getD_lt' ds hd (ds.length - 1 - j) (by omega)
   unfold srcLo
   by_cases h3 : j = 0
   ·subst h3
    rw [if_pos rfl]
    omega
   ·rw [if_neg h3]
    omega
  ·rw [show min j (ds.length - 1 - j) = j by omega, show ds.length - 1 - j = j by omega] at hs
   omega
  ·have hi2 := hi (ds.length - 1 - j) (by omega)
   rw [srcFst_at _ _ _ _ (by omega)] at hi2
   rw [show min j (ds.length - 1 - j) = ds.length - 1 - j by omega, show ds.length - 1 - (ds.length - 1 - j) = j by omega] at hs
   omega

theorem spec_rvGood_ev (l : List Int) (b : Int) (hl : l.length ≤ 1000000000) : Ev (fun k => spec_rvGood.f k l b) (gd l b) := by
 unfold spec_rvGood.f gd
 simp only [spec_dgBase_eq, spec_l1In_eq, Option.bind_some, decide_eq_true_eq]
 by_cases h1 : 2 ≤ b ∧ b ≤ 16
 ·refine evp h1 ?_
  by_cases h2 : 1 ≤ (l.length : Int) ∧ (l.length : Int) ≤ 40
  ·rw [w64o (x := b - 1)]
   refine evp h2 (evb (l1All_ev l 0 (b - 1) (by omega)) ?_)
   have e2 : decide (1 ≤ l.length ∧ l.length ≤ 40) = true := decide_eq_true (by omega)
   by_cases h3 : (l.all fun x => decide (0 ≤ x ∧ x ≤ b - 1)) = true
   ·refine evp h3 (evp (by omega) ?_)
    by_cases h4 : rd l 0 > 0
    ·exact evp h4 (evr (by rw [decide_eq_true h1, e2, h3, decide_eq_true h4]; rfl))
    ·refine evn h4 (evr ?_)
     rw [decide_eq_true h1, e2, h3, decide_eq_false h4]
     simp only [Bool.true_and, Bool.false_or]
     by_cases h5 : l.length = 1
     ·rw [decide_eq_true h5, h5]; rfl
     ·rw [decide_eq_false h5]
      exact beq_eq_false_iff_ne.2 (by omega)
   ·refine evn h3 (evr ?_)
    simp only [Bool.not_eq_true] at h3
    rw [h3]
    simp
  ·refine evn h2 (evr ?_)
   have e2 : decide (1 ≤ l.length ∧ l.length ≤ 40) = false := decide_eq_false (by omega)
   rw [e2]
   simp
 ·exact evn h1 (evr (by rw [decide_eq_false h1]; rfl))
theorem impl_isLong_eq (l : List Int) (b : Int) : impl_isLong.f l b = some (gd l b) := by
 unfold impl_isLong.f impl_areDigits.f impl_areIn.f gd
 rw [impl_isBase_eq]
 simp only [Option.bind_some, decide_eq_true_eq]
 by_cases h1 : 2 ≤ b ∧ b ≤ 16
 ·rw [if_pos h1, decide_eq_true h1, w64o (x := b - 1)]
  by_cases h2 : 1 ≤ (l.length : Int) ∧ (l.length : Int) ≤ 40
  ·have e2 : decide (1 ≤ l.length ∧ l.length ≤ 40) = true := decide_eq_true (by omega)
   rw [decide_eq_true h2, e2]
   simp only [Bool.true_and]
   by_cases h3 : (l.all fun x => decide (0 ≤ x ∧ x ≤ b - 1)) = true
   ·rw [if_pos h3, if_pos (by omega : 0 < (l.length : Int)), h3]
    by_cases h4 : rd l 0 > 0
    ·rw [if_pos h4, decide_eq_true h4]
     simp only [Option.bind_some, if_true]
     rw [decide_eq_true (by omega)]
     rfl
    ·rw [if_neg h4, decide_eq_false h4]
     simp only [Option.bind_some, Bool.true_and, Bool.false_or]
     by_cases h5 : l.length = 1
     ·have e5 : ((l.length : Int) == 1) = true := by rw [h5]; rfl
      rw [e5, if_pos rfl, decide_eq_true h5, decide_eq_true (by omega)]
     ·have e5 : ((l.length : Int) == 1) = false := beq_eq_false_iff_ne.2 (by omega)
      rw [e5, if_neg (by simp), decide_eq_false h5]
   ·rw [if_neg h3]
    simp only [Bool.not_eq_true] at h3
    rw [h3]
    simp
  ·have e2 : decide (1 ≤ l.length ∧ l.length ≤ 40) = false := decide_eq_false (by omega)
   rw [decide_eq_false h2, e2]
   simp
 ·rw [if_neg h1, decide_eq_false h1]
  rfl

theorem ds_rd (ds : List Nat) (i : Nat) (h : i < ds.length) : rd (ic ds) (i : Int) = ((ds.getD i 0 : Nat) : Int) := by
 rw [rd_get _ _ (by rw [ic_length]; exact h)]
 simp [ic, List.getD_eq_getElem?_getD, h]
theorem drop_sums (ds : List Nat) (i : Nat) (h : i < ds.length) : (sumsL ds).drop i = (ds.getD (ds.length - 1 - i) 0 + ds.getD i 0) :: (sumsL ds).drop (i + 1) := by
 have hl : i < (sumsL ds).length := by rw [sumsL_length]; exact h
 rw [List.drop_eq_getElem_cons hl]
 congr 1
 rw [← sumsL_at ds i h, List.getD_eq_getElem?_getD, List.getElem?_eq_getElem hl]
 rfl
theorem getD_lt {b : Nat} (ds : List Nat) (hd : ∀ d ∈ ds, d < b) (i : Nat) (h : i < ds.length) : ds.getD i 0 < b := by
 rw [List.getD_eq_getElem?_getD, List.getElem?_eq_getElem h]
 exact hd _ (List.getElem_mem h)
theorem reversed_ev0 (l : List Nat) (h : l.length ≤ 1000000) : Ev (fun k => impl_reversed.f k (ic l)) (ic l.reverse) := by
 unfold impl_reversed.f
 rw [clone_ev _ (by rw [ic_length]; exact h)]
 simp only [Option.bind_some]
 refine evb (reverse_ev (ic l) (by rw [ic_length]; omega)) (evr ?_)
 rw [ic_reverse]
theorem summed_loop (ds : List Nat) (b : Nat) (hb : 2 ≤ b) (hb2 : b ≤ 16) (hl : ds.length ≤ 40) (hd : ∀ d ∈ ds, d < b) (e : Nat) : ∀ (i c : Nat) (O K : List Nat), i + e = ds.length → c ≤ 1 → O.length ≤ 100 → O.length = i → K.length = i →
  Ev (fun k => impl_summed.l0 k (ic ds) (b : Int) (ic O) (ic K) (c : Int) (ds.length : Int) (i : Int)) (ic (O ++ addO b c ((sumsL ds).drop i)).reverse, ic (K ++ addK b c ((sumsL ds).drop i))) := by
 induction e with
 | zero =>
  intro i c O K hi hc hO hOl hKl
  have hdr : (sumsL ds).drop i = [] := List.drop_of_length_le (by rw [sumsL_length]; omega)
  rw [hdr]
  refine evs (fun k => by rw [impl_summed.l0]) ?_
  refine evn (by omega) ?_
  simp only [addK, List.append_nil]
  by_cases h : 0 < c
  ·have ea : addO b c [] = [c] := if_pos h
   rw [ea]
   have h2 := reversed_ev0 (O ++ [c]) (by simp; omega)
   rw [ic_append, ic_cons, ic_nil] at h2
   exact evp (by omega) (evp (by rw [ic_length]; omega) (evb h2 (Ev.now _)))
  ·have ea : addO b c [] = [] := if_neg h
   rw [ea, List.append_nil]
   exact evn (by omega) (evb (reversed_ev0 O (by omega)) (Ev.now _))
 | succ e ih =>
  intro i c O K hi hc hO hOl hKl
  have hdr := drop_sums ds i (by omega)
  have g1 := getD_lt ds hd i (by omega)
  have g2 := getD_lt ds hd (ds.length - 1 - i) (by omega)
  have r1 := ds_rd ds i (by omega)
  have r2 := ds_rd ds (ds.length - 1 - i) (by omega)
  obtain ⟨p, hp⟩ : ∃ p, ds.getD i 0 = p := ⟨_, rfl⟩
  obtain ⟨q, hq⟩ : ∃ q, ds.getD (ds.length - 1 - i) 0 = q := ⟨_, rfl⟩
  rw [hp] at g1 r1
  rw [hq] at g2 r2
  rw [hp, hq] at hdr
  have hc2 : (q + p + c) / b ≤ 1 := carry_le hb (by omega) hc
  have hdv : (q + p + c) / b ≤ q + p + c := Nat.div_le_self _ _
  have h1 := ih (i + 1) ((q + p + c) / b) (O ++ [(q + p + c) % b]) (K ++ [(q + p + c) / b]) (by omega) hc2 (by simp; omega) (by simp; omega) (by simp; omega)
  rw [hdr]
  simp only [addO, addK]
  have e1 : (ds.length : Int) - 1 - (i : Int) = ((ds.length - 1 - i : Nat) : Int) := by omega
  have e2 : (q : Int) + (p : Int) + (c : Int) = ((q + p + c : Nat) : Int) := by omega
  refine evs (fun k => by rw [impl_summed.l0]) ?_
  rw [ic_length, w64o (x := (ds.length : Int) - 1), e1, w64n (ds.length - 1 - i) (by omega), r1, r2, w64o (x := (q : Int) + (p : Int)), e2, w64n (q + p + c) (by omega), tmod_cast, tdiv_cast, w64n ((q + p + c) / b) (by omega), w64o (x := (i : Int) + 1), show (i : Int) + 1 = ((i + 1 : Nat) : Int) by omega]
  clear e1 e2
  refine evp (by omega) (evp (by omega) (evp (by omega) (evp (by omega) (evp (by omega) (evn (by omega) (evp (by rw [ic_length]; omega) (evp (by rw [ic_length]; omega) ?_)))))))
  simp only [ic_append, ic_cons, ic_nil, List.append_assoc, List.singleton_append] at h1
  simpa [ic_append, ic_cons, ic_nil] using h1
def addSum (b : Nat) (ds : List Nat) : List Nat := (addO b 0 (sumsL ds)).reverse
def addCar (b : Nat) (ds : List Nat) : List Nat := addK b 0 (sumsL ds)
theorem summed_ev (ds : List Nat) (b : Nat) (hb : 2 ≤ b) (hb2 : b ≤ 16) (hl : ds.length ≤ 40) (hd : ∀ d ∈ ds, d < b) : Ev (fun k => impl_summed.f k (ic ds) (b : Int)) (ic (addSum b ds), ic (addCar b ds)) := by
 have h := summed_loop ds b hb hb2 hl hd ds.length 0 0 [] [] (by omega) (by omega) (by simp) rfl rfl
 unfold impl_summed.f
 rw [ic_length]
 simpa [addSum, addCar, ic_nil] using h
theorem rvAdd_loop (ds : List Nat) (b : Nat) (hb : 2 ≤ b) (hb2 : b ≤ 16) (hl : ds.length ≤ 40) (hd : ∀ d ∈ ds, d < b) (e : Nat) : ∀ (i c : Nat) (O K : List Nat), i + e = ds.length → c ≤ 1 → O.length = i → K.length = i →
  Ev (fun k => spec_rvAdd.l0 k (ic ds) (b : Int) (ds.length : Int) (ic O) (ic K) (c : Int) ((ds.length : Int) - 1 - (i : Int))) (ic ((addO b c ((sumsL ds).drop i)).reverse ++ O), ic (K ++ addK b c ((sumsL ds).drop i))) := by
 induction e with
 | zero =>
  intro i c O K hi hc hOl hKl
  have hdr : (sumsL ds).drop i = [] := List.drop_of_length_le (by rw [sumsL_length]; omega)
  rw [hdr]
  refine evs (fun k => by rw [spec_rvAdd.l0]) ?_
  refine evn (by omega) ?_
  simp only [addK, List.append_nil]
  by_cases h : 0 < c
  ·have ea : addO b c [] = [c] := if_pos h
   rw [ea]
   simp only [Option.bind_some]
   exact evp (by omega) (evp (by simp only [List.length_cons, List.length_nil, ic_length]; omega) (evr (by simp [ic])))
  ·have ea : addO b c [] = [] := if_neg h
   rw [ea]
   exact evn (by omega) (evr (by simp))
 | succ e ih =>
  intro i c O K hi hc hOl hKl
  have hdr := drop_sums ds i (by omega)
  have g1 := getD_lt ds hd i (by omega)
  have g2 := getD_lt ds hd (ds.length - 1 - i) (by omega)
  have r1 := ds_rd ds i (by omega)
  have r2 := ds_rd ds (ds.length - 1 - i) (by omega)
  obtain ⟨p, hp⟩ : ∃ p, ds.getD i 0 = p := ⟨_, rfl⟩
  obtain ⟨q, hq⟩ : ∃ q, ds.getD (ds.length - 1 - i) 0 = q := ⟨_, rfl⟩
  rw [hp] at g1 r1
  rw [hq] at g2 r2
  rw [hp, hq] at hdr
  have hc2 : (q + p + c) / b ≤ 1 := carry_le hb (by omega) hc
  have hdv : (q + p + c) / b ≤ q + p + c := Nat.div_le_self _ _
  have h1 := ih (i + 1) ((q + p + c) / b) ((q + p + c) % b :: O) (K ++ [(q + p + c) / b]) (by omega) hc2 (by simp; omega) (by simp; omega)
  rw [hdr]
  simp only [addO, addK]
  have e1 : (ds.length : Int) - 1 - (i : Int) = ((ds.length - 1 - i : Nat) : Int) := by omega
  have e3 : (ds.length : Int) - 1 - ((ds.length - 1 - i : Nat) : Int) = (i : Int) := by omega
  have e2 : (q : Int) + (p : Int) + (c : Int) = ((q + p + c : Nat) : Int) := by omega
  have e4 : ((ds.length - 1 - i : Nat) : Int) - 1 = (ds.length : Int) - 1 - ((i + 1 : Nat) : Int) := by omega
  refine evs (fun k => by rw [spec_rvAdd.l0]) ?_
  rw [e1, ic_length, w64o (x := (ds.length : Int) - 1), e3, w64o (x := (i : Int)), r1, r2, w64o (x := (q : Int) + (p : Int)), e2, w64n (q + p + c) (by omega), tmod_cast, tdiv_cast, w64n ((q + p + c) / b) (by omega), w64o (x := ((ds.length - 1 - i : Nat) : Int) - 1), e4]
  clear e1 e2 e3 e4
  refine evp (by omega) (evp (by omega) (evp (by omega) (evp (by omega) (evp (by omega) (evn (by omega) (evp (by rw [ic_length]; omega) ?_))))))
  simp only [Option.bind_some]
  refine evp (by simp only [List.length_cons, List.length_nil, ic_length]; omega) ?_
  simp only [ic_append, ic_cons, ic_nil] at h1
  simpa [ic_append, ic_cons, ic_nil, ic_reverse] using h1
theorem rvAdd_ev (ds : List Nat) (b : Nat) (hb : 2 ≤ b) (hb2 : b ≤ 16) (hl : ds.length ≤ 40) (hd : ∀ d ∈ ds, d < b) : Ev (fun k => spec_rvAdd.f k (ic ds) (b : Int)) (ic (addSum b ds), ic (addCar b ds)) := by
 have h := rvAdd_loop ds b hb hb2 hl hd ds.length 0 0 [] [] (by omega) (by omega) rfl rfl
 unfold spec_rvAdd.f
 rw [ic_length, w64o (x := (ds.length : Int) - 1)]
 simpa [addSum, addCar, ic_nil] using h

theorem compare_loop (b : Nat) (hb : 2 ≤ b) (post : List Nat) : ∀ (pre post' : List Nat), post'.length = post.length → (pre ++ post).length ≤ 1000000000000 → (∀ d ∈ post, d < b) → (∀ d ∈ post', d < b) →
  ∃ c : Int, (c < 0 ↔ val b 0 post < val b 0 post') ∧ Ev (fun k => slices_Compare_int_int.l0 k (ic (pre ++ post)) (ic (pre ++ post')) (ic (pre ++ post)) ((pre ++ post).length : Int) (pre.length : Int)) c := by
 induction post with
 | nil =>
  intro pre post' hl h _ _
  obtain rfl : post' = [] := List.eq_nil_of_length_eq_zero hl
  refine ⟨0, by simp, evs (fun k => by rw [slices_Compare_int_int.l0]) ?_⟩
  exact evn (by simp) (evn (by simp) (Ev.now _))
 | cons x post ih =>
  intro pre post' hl h hd hd'
  obtain ⟨y, post', rfl⟩ : ∃ y z, post' = y :: z := by cases post' with
   | nil => simp at hl
   | cons y z => exact ⟨y, z, rfl⟩
  have hl2 : post'.length = post.length := by simpa using hl
  have hA : (pre ++ x :: post).length = pre.length + (post.length + 1) := by simp
  have hB : (pre ++ y :: post').length = pre.length + (post.length + 1) := by simp; omega
  have hv := val_lt0 (b := b) post (fun d h => hd d (by simp [h]))
  have hv' := val_lt0 (b := b) post' (fun d h => hd' d (by simp [h]))
  rw [hl2] at hv'
  have hc : cmp_Compare_int.f (x : Int) (y : Int) = some (if x < y then -1 else if x > y then 1 else 0) := by
   unfold cmp_Compare_int.f cmp_isNaN_int.f
   simp only [bne_self_eq_false, Option.bind_some]
   by_cases h1 : x < y
   ·rw [if_neg (by simp), if_neg (by simp), if_pos (by omega), if_pos h1]
   ·by_cases h2 : x > y
    ·rw [if_neg (by simp), if_neg (by simp), if_neg (by omega), if_pos (by omega), if_neg h1, if_pos h2]
    ·rw [if_neg (by simp), if_neg (by simp), if_neg (by omega), if_neg (by omega), if_neg h1, if_neg h2]
  rw [val_cons, val_cons, hl2]
  by_cases h1 : x < y
  ·have h5 : (x + 1) * b ^ post.length ≤ y * b ^ post.length := Nat.mul_le_mul_right _ h1
   rw [Nat.add_mul, Nat.one_mul] at h5
   refine ⟨-1, by constructor <;> intro _ <;> omega, evs (fun k => by rw [slices_Compare_int_int.l0]) ?_⟩
   rw [ic_rd, ic_rd, hc, ic_length, ic_length, hA, hB, if_pos h1]
   simp only [Option.bind_some]
   exact evp (by omega) (evp (by omega) (evp (by omega) (evn (by omega) (evp (by omega) (evn (by omega) (Ev.now _))))))
  ·by_cases h2 : x > y
   ·have h5 : (y + 1) * b ^ post.length ≤ x * b ^ post.length := Nat.mul_le_mul_right _ h2
    rw [Nat.add_mul, Nat.one_mul] at h5
    refine ⟨1, by constructor <;> intro _ <;> omega, evs (fun k => by rw [slices_Compare_int_int.l0]) ?_⟩
    rw [ic_rd, ic_rd, hc, ic_length, ic_length, hA, hB, if_neg h1, if_pos h2]
    simp only [Option.bind_some]
    exact evp (by omega) (evp (by omega) (evp (by omega) (evn (by omega) (evp (by omega) (evn (by omega) (Ev.now _))))))
   ·obtain rfl : x = y := by omega
    obtain ⟨c, h3, h4⟩ := ih (pre ++ [x]) post' hl2 (by simp at h ⊢; omega) (fun d h => hd d (by simp [h])) (fun d h => hd' d (by simp [h]))
    refine ⟨c, by rw [h3]; omega, evs (fun k => by rw [slices_Compare_int_int.l0]) ?_⟩
    rw [List.append_assoc, List.singleton_append, List.append_assoc, List.singleton_append, hA] at h4
    have e3 : (((pre ++ [x]).length : Nat) : Int) = (pre.length : Int) + 1 := by simp
    rw [e3] at h4
    rw [ic_rd, ic_rd, hc, ic_length, ic_length, hA, hB, if_neg h1, if_neg h2, w64o (x := (pre.length : Int) + 1)]
    simp only [Option.bind_some]
    exact evp (by omega) (evp (by omega) (evp (by omega) (evn (by omega) (evp (by omega) (evp trivial h4)))))
theorem compare_ev (b : Nat) (hb : 2 ≤ b) (x y : List Nat) (hl : y.length = x.length) (h : x.length ≤ 1000000) (hx : ∀ d ∈ x, d < b) (hy : ∀ d ∈ y, d < b) : ∃ c : Int, (c < 0 ↔ val b 0 x < val b 0 y) ∧ Ev (fun k => slices_Compare_int_int.f k (ic x) (ic y)) c := by
 obtain ⟨c, h1, h2⟩ := compare_loop b hb x [] y hl (by simpa using (by omega : x.length ≤ 1000000000000)) hx hy
 refine ⟨c, h1, ?_⟩
 unfold slices_Compare_int_int.f
 rw [ic_length]
 simpa using h2

theorem low_byte (x : Int) : 0 ≤ Go.bits .and .u64 ((IntKind.u64.wrap x) / 1099511627776) 255 ∧ Go.bits .and .u64 ((IntKind.u64.wrap x) / 1099511627776) 255 ≤ 255 := by
 have h0 : 0 ≤ IntKind.u64.wrap x ∧ IntKind.u64.wrap x < 18446744073709551616 := by rw [IntKind.wrap_u64]; omega
 obtain ⟨y, hy⟩ := Int.eq_ofNat_of_zero_le (show 0 ≤ IntKind.u64.wrap x / 1099511627776 by omega)
 rw [hy]
 have h1 := bits_and_u64_nat y 255 (by omega) (by omega)
 have e : y &&& 255 = y % 256 := Nat.and_two_pow_sub_one_eq_mod y 8
 rw [e] at h1
 rw [show ((255 : Int)) = ((255 : Nat) : Int) from rfl, h1]
 omega
theorem next_ok (l : List Int) (hl : Bs l) (p s : Int) (h0 : 0 ≤ p) (h1 : p ≤ 1000000000000) :
  ∃ v s' : Int, spec_l1Cur_next.f l p s = some (v, p + 1, s') ∧ 0 ≤ v ∧ v ≤ 255 := by
 unfold spec_l1Cur_next.f
 rw [w64o (x := p + 1)]
 by_cases hp : p < (l.length : Int)
 ·have hm := hl _ (rd_mem l p h0 hp)
  rw [if_pos hp, if_pos h0]
  by_cases hq : p + 1 ≤ (l.length : Int)
  ·rw [if_pos hq]
   refine ⟨_, _, rfl, ?_⟩
   rw [w64 (by omega) (by omega)]
   exact hm
  ·omega
 ·rw [if_neg hp]
  by_cases hq : p + 1 ≤ (l.length : Int)
  ·omega
  ·rw [if_neg hq]
   refine ⟨_, _, rfl, ?_⟩
   have h := low_byte (IntKind.u64.wrap (IntKind.u64.wrap (s * 6364136223846793005)) + 1442695040888963407)
   rw [w64 (by omega) (by omega)]
   exact h
theorem pick_ok (l : List Int) (hl : Bs l) (p s n : Int) (h0 : 0 ≤ p) (h1 : p ≤ 999999999990) (hn : n ≤ 1000000) :
  ∃ v p' s' : Int, spec_l1Cur_pick.f l p s n = some (v, p', s') ∧ 0 ≤ v ∧ v ≤ 1000000 ∧ (v = 0 ∨ v < n) ∧ p ≤ p' ∧ p' ≤ p + 2 := by
 unfold spec_l1Cur_pick.f
 by_cases h : n ≤ 1
 ·rw [if_pos h]
  exact ⟨0, p, s, rfl, by omega, by omega, by omega, by omega, by omega⟩
 ·rw [if_neg h]
  obtain ⟨v, s1, e1, h2, h3⟩ := next_ok l hl p s h0 (by omega)
  rw [e1]
  simp only [Option.bind_some]
  by_cases h4 : n > 200
  ·rw [if_pos h4]
   obtain ⟨v2, s2, e2, h5, h6⟩ := next_ok l hl (p + 1) s1 (by omega) (by omega)
   rw [e2]
   simp only [Option.bind_some]
   rw [if_neg (by omega), w64o (x := v * 256), w64 (by omega) (by omega)]
   have h7 := Int.tmod_nonneg n (show 0 ≤ v * 256 + v2 by omega)
   have h8 := Int.tmod_lt_of_pos (v * 256 + v2) (show 0 < n by omega)
   exact ⟨_, _, _, rfl, h7, by omega, Or.inr h8, by omega, by omega⟩
  ·rw [if_neg h4, if_neg (by omega)]
   have h7 := Int.tmod_nonneg n (show 0 ≤ v by omega)
   have h8 := Int.tmod_lt_of_pos v (show 0 < n by omega)
   exact ⟨_, _, _, rfl, h7, by omega, Or.inr h8, by omega, by omega⟩
theorem among_ok (l : List Int) (hl : Bs l) (p s : Int) (m : List Int) (hm : m ≠ []) (hm2 : m.length ≤ 1000000) (h0 : 0 ≤ p) (h1 : p ≤ 999999999990) :
  ∃ v p' s' : Int, spec_l1Cur_among.f l p s m = some (v, p', s') ∧ v ∈ m ∧ p ≤ p' ∧ p' ≤ p + 2 := by
 unfold spec_l1Cur_among.f
 have hpos := List.length_pos_iff.2 hm
 obtain ⟨v, p', s', e1, h2, h3, h4, h5, h6⟩ := pick_ok l hl p s m.length h0 h1 (by omega)
 rw [e1]
 simp only [Option.bind_some]
 rw [if_pos h2, if_pos (by omega)]
 exact ⟨_, _, _, rfl, rd_mem m v h2 (by omega), h5, h6⟩

theorem most_eq (a : Int) : spec_l1Most.f 1 a = some (if 1 > a then 1 else a) := by
 unfold spec_l1Most.f
 by_cases h : 1 > a
 ·rw [if_pos h, if_pos h]
 ·rw [if_neg h, if_neg h]
theorem digits_loop (l : List Int) (hl : Bs l) (b : Int) (hb : b ≤ 100) (d : Nat) : ∀ (L : List Int) (p s : Int), 0 ≤ p → p + 2 * (d : Int) ≤ 1000 → 1 ≤ L.length → L.length + d ≤ 60 →
  ∃ (R : List Int) (p' s' : Int), Ev (fun k => spec_l1Cur_digits.l0 k b L (d : Int) l p s) (R, b, p', s') ∧ R.length ≤ 60 ∧ p ≤ p' ∧ p' ≤ p + 2 * (d : Int) + 10 := by
 induction d with
 | zero =>
  intro L p s h0 h1 hL1 hL
  obtain ⟨v, p1, s1, e1, a1, _, c1, d1, f1⟩ := pick_ok l hl p s 16 h0 (by omega) (by omega)
  by_cases g0 : v = 0
  ·obtain ⟨w, p2, s2, e2, a2, _, c2, d2, f2⟩ := pick_ok l hl p1 s1 (L.length : Int) (by omega) (by omega) (by omega)
   obtain ⟨x, p3, s3, e3, _, d3, f3⟩ := among_ok l hl p2 s2 [(-1), 0, b, 4611686018427387904] (by simp) (by simp) (by omega) (by omega)
   refine ⟨L.set w.toNat x, p3, s3, evs (fun k => by rw [spec_l1Cur_digits.l0]) (evn (by omega) ?_), by simp; omega, by omega, by omega⟩
   simp only [e1, e2, e3, Option.bind_some]
   exact evp g0 (evp a2 (evp (by omega) (Ev.now _)))
  ·by_cases g1 : v = 1
   ·obtain ⟨x, p3, s3, e3, hx, d3, f3⟩ := among_ok l hl p1 s1 [0, 1, 2] (by simp) (by simp) (by omega) (by omega)
    have hx2 : 0 ≤ x ∧ x ≤ 2 := by
     simp only [List.mem_cons, List.not_mem_nil, or_false] at hx
     omega
    refine ⟨List.replicate x.toNat 0, p3, s3, evs (fun k => by rw [spec_l1Cur_digits.l0]) (evn (by omega) ?_), by simp; omega, by omega, by omega⟩
    simp only [e1, e3, Option.bind_some]
    exact evn g0 (evp g1 (evp hx2.1 (evp (by omega) (Ev.now _))))
   ·by_cases g2 : v = 2
    ·obtain ⟨w, p2, s2, e2, a2, _, c2, d2, f2⟩ := pick_ok l hl p1 s1 2 (by omega) (by omega) (by omega)
     refine ⟨(List.replicate (40 + w).toNat 0).set 0 1, p2, s2, evs (fun k => by rw [spec_l1Cur_digits.l0]) (evn (by omega) ?_), by simp; omega, by omega, by omega⟩
     simp only [e1, e2, Option.bind_some]
     rw [w64o (x := (40 : Int) + w)]
     exact evn g0 (evn g1 (evp g2 (evp (by omega) (evp (by omega) (evp (by simp; omega) (Ev.now _))))))
    ·refine ⟨L, p1, s1, evs (fun k => by rw [spec_l1Cur_digits.l0]) (evn (by omega) ?_), by omega, by omega, by omega⟩
     simp only [e1, Option.bind_some]
     exact evn g0 (evn g1 (evn g2 (Ev.now _)))
 | succ d ih =>
  intro L p s h0 h1 hL1 hL
  obtain ⟨v, p1, s1, e1, a1, _, c1, d1, f1⟩ := pick_ok l hl p s (if 1 > b then 1 else b) h0 (by omega) (by split <;> omega)
  obtain ⟨R, p2, s2, e2, g1, g2, g3⟩ := ih (L ++ [v]) p1 s1 (by omega) (by omega) (by simp) (by simp; omega)
  refine ⟨R, p2, s2, evs (fun k => by rw [spec_l1Cur_digits.l0]) (evp (by omega) ?_), g1, by omega, by omega⟩
  simp only [most_eq, e1, Option.bind_some]
  rw [w64 (x := (((d + 1 : Nat)) : Int) - 1) (by omega) (by omega), show (((d + 1 : Nat)) : Int) - 1 = (d : Int) by omega]
  exact evp (by omega) e2
theorem base_le (l : List Int) (hl : Bs l) (p s : Int) (h0 : 0 ≤ p) (h1 : p ≤ 999999999990) : ∃ v p' s' : Int, spec_l1Cur_base.f l p s = some (v, p', s') ∧ 0 ≤ v ∧ v ≤ 17 ∧ p ≤ p' ∧ p' ≤ p + 2 := by
 unfold spec_l1Cur_base.f
 obtain ⟨v, p', s', e, hm, h2, h3⟩ := among_ok l hl p s [10, 10, 10, 2, 3, 5, 7, 16, 12, 10, 10, 16, 1, 17, 0] (by simp) (by simp) h0 h1
 have hv : 0 ≤ v ∧ v ≤ 17 := by
  simp only [List.mem_cons, List.not_mem_nil, or_false] at hm
  omega
 rw [e]
 exact ⟨_, _, _, rfl, hv.1, hv.2, h2, h3⟩
theorem digits_ok (l : List Int) (hl : Bs l) (p s m : Int) (h0 : 0 ≤ p) (h1 : p ≤ 100) (hm : m ≤ 20) : ∃ (R : List Int) (b p' s' : Int), Ev (fun k => spec_l1Cur_digits.f k l p s m) (R, b, p', s') ∧ R.length ≤ 60 ∧ p ≤ p' ∧ p' ≤ p + 200 := by
 obtain ⟨b, p1, s1, e1, a1, b1, d1, f1⟩ := base_le l hl p s h0 (by omega)
 obtain ⟨v, p2, s2, e2, a2, _, c2, d2, f2⟩ := pick_ok l hl p1 s1 (if 1 > wrap64 (b - 1) then 1 else wrap64 (b - 1)) (by omega) (by omega) (by rw [w64 (by omega) (by omega)]; split <;> omega)
 obtain ⟨w, p3, s3, e3, a3, _, c3, d3, f3⟩ := pick_ok l hl p2 s2 m (by omega) (by omega) (by omega)
 obtain ⟨d, rfl⟩ := natOf (a := w) a3
 obtain ⟨R, p4, s4, e4, g1, g2, g3⟩ := digits_loop l hl b (by omega) d [wrap64 (1 + v)] p3 s3 (by omega) (by omega) (by simp) (by simp; omega)
 refine ⟨R, b, p4, s4, ?_, g1, by omega, by omega⟩
 simp only [spec_l1Cur_digits.f, e1, most_eq, e2, e3, Option.bind_some]
 exact e4
theorem added_ok (l : List Int) (hl : Bs l) : ∃ (R : List Int) (b p s : Int), Ev (fun k => spec_l1Cur_added.f k l 0 0) (R, b, p, s) ∧ R.length ≤ 60 := by
 obtain ⟨L, b, p, s, e, h1, h2, h3⟩ := digits_ok l hl 0 0 7 (by omega) (by omega) (by omega)
 have no : ∀ p s : Int, Ev (fun k => spec_l1Cur_added.j0 k L b false l p s) (L, b, p, s) := by
  intro p s
  refine evs (fun k => by rw [spec_l1Cur_added.j0]) ?_
  exact evn (by simp) (Ev.now _)
 unfold spec_l1Cur_added.f
 have hgood := spec_rvGood_ev L b (by omega)
 by_cases hg : gd L b = true
 ·obtain ⟨v, p1, s1, e1, _⟩ := pick_ok l hl p s 2 (by omega) (by omega) (by omega)
  have hj : ∀ t : Bool, ∃ (R : List Int) (b' p' s' : Int), Ev (fun k => spec_l1Cur_added.j0 k L b t l p1 s1) (R, b', p', s') ∧ R.length ≤ 60 := by
   intro t
   cases t with
   | false => exact ⟨L, b, p1, s1, no _ _, h1⟩
   | true =>
    obtain ⟨ds, B, rfl, rfl, g1, g2, g3, g4, g5, g6⟩ := gd_nat hg
    have hadd := rvAdd_ev ds B g1 g2 g4 g5
    by_cases hc : ((ic (addSum B ds)).length : Int) ≤ 40
    ·refine ⟨ic (addSum B ds), B, p1, s1, ?_, by omega⟩
     refine evs (fun k => by rw [spec_l1Cur_added.j0]) ?_
     exact evp rfl (evb hadd (evp hc (Ev.now _)))
    ·refine ⟨ic ds, B, p1, s1, ?_, h1⟩
     refine evs (fun k => by rw [spec_l1Cur_added.j0]) ?_
     exact evp rfl (evb hadd (evn hc (Ev.now _)))
  obtain ⟨R, b', p', s', hj1, hj2⟩ := hj (v == 0)
  refine ⟨R, b', p', s', evb e (evb hgood (evp hg ?_)), hj2⟩
  simp only [spec_l1Cur_one.f, e1, Option.bind_some]
  exact hj1
 ·exact ⟨L, b, p, s, evb e (evb hgood (evn hg (no _ _))), h1⟩

theorem shl_nat (x p : Nat) (hp : p ≤ 60) (h : x * 2 ^ p ≤ 9223372036854775807) : shl .i64 (x : Int) (p : Int) = ((x * 2 ^ p : Nat) : Int) := by
 unfold shl
 rw [Int.toNat_natCast, show IntKind.bits .i64 = 64 from rfl, Nat.min_eq_left (by omega), i64_w]
 have e : (x : Int) * 2 ^ p = ((x * 2 ^ p : Nat) : Int) := by simp
 rw [e, w64n _ h]

theorem spec_rvLess_less_loop (b : Nat) (post : List Nat) : ∀ (pre post' : List Nat), post'.length = post.length → (pre ++ post).length ≤ 1000000000000 → (∀ d ∈ post, d < b) → (∀ d ∈ post', d < b) →
  Ev (fun k => spec_rvLess.l0 k (ic (pre ++ post)) (ic (pre ++ post')) ((pre ++ post).length : Int) (pre.length : Int)) (decide (val b 0 post < val b 0 post')) := by
 induction post with
 | nil =>
  intro pre post' hl h _ _
  obtain rfl : post' = [] := List.eq_nil_of_length_eq_zero hl
  refine evs (fun k => by rw [spec_rvLess.l0]) ?_
  exact evn (by simp) (evr (by simp))
 | cons x post ih =>
  intro pre post' hl h hd hd'
  obtain ⟨y, post', rfl⟩ : ∃ y z, post' = y :: z := by cases post' with
   | nil => simp at hl
   | cons y z => exact ⟨y, z, rfl⟩
  have hl2 : post'.length = post.length := by simpa using hl
  have hA : (pre ++ x :: post).length = pre.length + (post.length + 1) := by simp
  have hB : (pre ++ y :: post').length = pre.length + (post.length + 1) := by simp; omega
  have hv := val_lt0 (b := b) post (fun d h => hd d (by simp [h]))
  have hv' := val_lt0 (b := b) post' (fun d h => hd' d (by simp [h]))
  rw [hl2] at hv'
  rw [val_cons, val_cons, hl2]
  refine evs (fun k => by rw [spec_rvLess.l0]) ?_
  rw [ic_rd, ic_rd, ic_length, ic_length, hA, hB, w64o (x := (pre.length : Int) + 1)]
  refine evp (by omega) (evp (by omega) (evp (by omega) (evp (by omega) ?_)))
  by_cases h1 : x = y
  ·subst h1
   have h4 := ih (pre ++ [x]) post' hl2 (by simp at h ⊢; omega) (fun d h => hd d (by simp [h])) (fun d h => hd' d (by simp [h]))
   rw [List.append_assoc, List.singleton_append, List.append_assoc, List.singleton_append, hA] at h4
   have e3 : (((pre ++ [x]).length : Nat) : Int) = (pre.length : Int) + 1 := by simp
   rw [e3] at h4
   have e4 : decide (x * b ^ post.length + val b 0 post < x * b ^ post.length + val b 0 post') = decide (val b 0 post < val b 0 post') := by
    by_cases h5 : val b 0 post < val b 0 post'
    ·rw [decide_eq_true h5, decide_eq_true (by omega)]
    ·rw [decide_eq_false h5, decide_eq_false (by omega)]
   rw [e4]
   exact evp rfl h4
  ·refine evn (by omega) (evr ?_)
   by_cases h2 : x < y
   ·have h5 : (x + 1) * b ^ post.length ≤ y * b ^ post.length := Nat.mul_le_mul_right _ h2
    rw [Nat.add_mul, Nat.one_mul] at h5
    rw [decide_eq_true (by omega), decide_eq_true (by omega)]
   ·have h5 : (y + 1) * b ^ post.length ≤ x * b ^ post.length := Nat.mul_le_mul_right _ (by omega)
    rw [Nat.add_mul, Nat.one_mul] at h5
    rw [decide_eq_false (by omega), decide_eq_false (by omega)]
theorem spec_rvLess_less (b : Nat) (x y : List Nat) (hl : y.length = x.length) (h : x.length ≤ 1000000000000) (hx : ∀ d ∈ x, d < b) (hy : ∀ d ∈ y, d < b) : Ev (fun k => spec_rvLess.f k (ic x) (ic y)) (decide (val b 0 x < val b 0 y)) := by
 have h2 := spec_rvLess_less_loop b x [] y hl (by simpa using h) hx hy
 unfold spec_rvLess.f
 rw [ic_length]
 simpa using h2

theorem laws_qLess_less_loop (b : Nat) (post : List Nat) : ∀ (pre post' : List Nat), post'.length = post.length → (pre ++ post).length ≤ 1000000000000 → (∀ d ∈ post, d < b) → (∀ d ∈ post', d < b) →
  Ev (fun k => laws_qLess.l0 k (ic (pre ++ post)) (ic (pre ++ post')) ((pre ++ post).length : Int) (pre.length : Int)) (decide (val b 0 post < val b 0 post')) := by
 induction post with
 | nil =>
  intro pre post' hl h _ _
  obtain rfl : post' = [] := List.eq_nil_of_length_eq_zero hl
  refine evs (fun k => by rw [laws_qLess.l0]) ?_
  exact evn (by simp) (evr (by simp))
 | cons x post ih =>
  intro pre post' hl h hd hd'
  obtain ⟨y, post', rfl⟩ : ∃ y z, post' = y :: z := by cases post' with
   | nil => simp at hl
   | cons y z => exact ⟨y, z, rfl⟩
  have hl2 : post'.length = post.length := by simpa using hl
  have hA : (pre ++ x :: post).length = pre.length + (post.length + 1) := by simp
  have hB : (pre ++ y :: post').length = pre.length + (post.length + 1) := by simp; omega
  have hv := val_lt0 (b := b) post (fun d h => hd d (by simp [h]))
  have hv' := val_lt0 (b := b) post' (fun d h => hd' d (by simp [h]))
  rw [hl2] at hv'
  rw [val_cons, val_cons, hl2]
  refine evs (fun k => by rw [laws_qLess.l0]) ?_
  rw [ic_rd, ic_rd, ic_length, ic_length, hA, hB, w64o (x := (pre.length : Int) + 1)]
  refine evp (by omega) (evp (by omega) (evp (by omega) (evp (by omega) ?_)))
  by_cases h1 : x = y
  ·subst h1
   have h4 := ih (pre ++ [x]) post' hl2 (by simp at h ⊢; omega) (fun d h => hd d (by simp [h])) (fun d h => hd' d (by simp [h]))
   rw [List.append_assoc, List.singleton_append, List.append_assoc, List.singleton_append, hA] at h4
   have e3 : (((pre ++ [x]).length : Nat) : Int) = (pre.length : Int) + 1 := by simp
   rw [e3] at h4
   have e4 : decide (x * b ^ post.length + val b 0 post < x * b ^ post.length + val b 0 post') = decide (val b 0 post < val b 0 post') := by
    by_cases h5 : val b 0 post < val b 0 post'
    ·rw [decide_eq_true h5, decide_eq_true (by omega)]
    ·rw [decide_eq_false h5, decide_eq_false (by omega)]
   rw [e4]
   exact evp rfl h4
  ·refine evn (by omega) (evr ?_)
   by_cases h2 : x < y
   ·have h5 : (x + 1) * b ^ post.length ≤ y * b ^ post.length := Nat.mul_le_mul_right _ h2
    rw [Nat.add_mul, Nat.one_mul] at h5
    rw [decide_eq_true (by omega), decide_eq_true (by omega)]
   ·have h5 : (y + 1) * b ^ post.length ≤ x * b ^ post.length := Nat.mul_le_mul_right _ (by omega)
    rw [Nat.add_mul, Nat.one_mul] at h5
    rw [decide_eq_false (by omega), decide_eq_false (by omega)]
theorem laws_qLess_less (b : Nat) (x y : List Nat) (hl : y.length = x.length) (h : x.length ≤ 1000000000000) (hx : ∀ d ∈ x, d < b) (hy : ∀ d ∈ y, d < b) : Ev (fun k => laws_qLess.f k (ic x) (ic y)) (decide (val b 0 x < val b 0 y)) := by
 have h2 := laws_qLess_less_loop b x [] y hl (by simpa using h) hx hy
 unfold laws_qLess.f
 rw [ic_length]
 simpa using h2

theorem laws_qSame_loop (post : List Int) : ∀ (pre post' : List Int), post'.length = post.length → (pre ++ post).length ≤ 4611686018427387904 →
  Ev (fun k => laws_qSame.l0 k (pre ++ post) (pre ++ post') ((pre ++ post).length : Int) (pre.length : Int)) (decide (post = post')) := by
 induction post with
 | nil =>
  intro pre post' hl h
  obtain rfl : post' = [] := List.eq_nil_of_length_eq_zero hl
  refine evs (fun k => by rw [laws_qSame.l0]) ?_
  exact evn (by simp) (evr (by simp))
 | cons x post ih =>
  intro pre post' hl h
  obtain ⟨y, post', rfl⟩ : ∃ y z, post' = y :: z := by cases post' with
   | nil => simp at hl
   | cons y z => exact ⟨y, z, rfl⟩
  refine evs (fun k => by rw [laws_qSame.l0]) ?_
  refine evp (by simp; omega) (evp (by omega) (evp (by simp; omega) (evp (by simp; omega) ?_)))
  rw [rd_mid, rd_mid]
  by_cases he : x = y
  ·subst he
   refine evp rfl ?_
   have h2 := ih (pre ++ [x]) post' (by simpa using hl) (by simpa using h)
   simp only [List.append_assoc, List.singleton_append] at h2
   rw [w64 (by omega) (by simp at h; omega)]
   simpa using h2
  ·exact evn he (evr (by simp [he]))
theorem laws_qSame_ev (l l' : List Int) (h : l.length ≤ 4611686018427387904) : Ev (fun k => laws_qSame.f k l l') (decide (l = l')) := by
 unfold laws_qSame.f
 by_cases hl : l.length = l'.length
 ·exact evp (by omega) (by simpa using laws_qSame_loop l [] l' hl.symm (by simpa using h))
 ·exact evn (by omega) (evr (by symm; rw [decide_eq_false_iff_not]; exact fun e => hl (by rw [e])))
theorem laws_qSame_self (l : List Int) (h : l.length ≤ 4611686018427387904) : Ev (fun k => laws_qSame.f k l l) true := by simpa using laws_qSame_ev l l h

theorem slices_Equal_int_int_loop (post : List Int) : ∀ (pre post' : List Int), post'.length = post.length → (pre ++ post).length ≤ 4611686018427387904 →
  Ev (fun k => slices_Equal_int_int.l0 k (pre ++ post) (pre ++ post') ((pre ++ post).length : Int) (pre.length : Int)) (decide (post = post')) := by
 induction post with
 | nil =>
  intro pre post' hl h
  obtain rfl : post' = [] := List.eq_nil_of_length_eq_zero hl
  refine evs (fun k => by rw [slices_Equal_int_int.l0]) ?_
  exact evn (by simp) (evr (by simp))
 | cons x post ih =>
  intro pre post' hl h
  obtain ⟨y, post', rfl⟩ : ∃ y z, post' = y :: z := by cases post' with
   | nil => simp at hl
   | cons y z => exact ⟨y, z, rfl⟩
  refine evs (fun k => by rw [slices_Equal_int_int.l0]) ?_
  refine evp (by simp; omega) (evp (by omega) (evp (by simp; omega) (evp (by simp; omega) ?_)))
  rw [rd_mid, rd_mid]
  by_cases he : x = y
  ·subst he
   refine evp rfl ?_
   have h2 := ih (pre ++ [x]) post' (by simpa using hl) (by simpa using h)
   simp only [List.append_assoc, List.singleton_append] at h2
   rw [w64 (by omega) (by simp at h; omega)]
   simpa using h2
  ·exact evn he (evr (by simp [he]))
theorem slices_Equal_int_int_ev (l l' : List Int) (h : l.length ≤ 4611686018427387904) : Ev (fun k => slices_Equal_int_int.f k l l') (decide (l = l')) := by
 unfold slices_Equal_int_int.f
 by_cases hl : l.length = l'.length
 ·exact evp (by omega) (by simpa using slices_Equal_int_int_loop l [] l' hl.symm (by simpa using h))
 ·exact evn (by omega) (evr (by symm; rw [decide_eq_false_iff_not]; exact fun e => hl (by rw [e])))
theorem lo_eq (b i s : Nat) (hb : 2 ≤ b) (hb2 : b ≤ 16) (hs : s ≤ 1000) : impl_sourcesOf.lo (b : Int) (s : Int) (decide ((i : Int) = 0)) = ((srcLo b i s : Nat) : Int) := by
 unfold impl_sourcesOf.lo srcLo
 rw [w64o (x := (b : Int) - 1), w64o (x := (s : Int) - ((b : Int) - 1))]
 by_cases h : i = 0
 ·rw [if_pos (by rw [h]; rfl), if_pos h]
  unfold mx
  split <;> split <;> omega
 ·rw [if_neg (by simp; omega), if_neg h]
  unfold mx
  split <;> omega
theorem wy_eq (b i s : Nat) (hb : 2 ≤ b) (hb2 : b ≤ 16) (hs : s ≤ 1000) : impl_sourcesOf.wy (b : Int) (s : Int) (decide ((i : Int) = 0)) = ((srcWy b i s : Nat) : Int) := by
 unfold impl_sourcesOf.wy srcWy
 rw [lo_eq b i s hb hb2 hs]
 have hl : srcLo b i s ≤ 1001 := by unfold srcLo; split <;> omega
 rw [w64o (x := (b : Int) - 1)]
 have e : mn (s : Int) ((b : Int) - 1) = ((min s (b - 1) : Nat) : Int) := by
  unfold mn
  split <;> omega
 rw [e, w64 (x := ((min s (b - 1) : Nat) : Int) - ((srcLo b i s : Nat) : Int)) (by omega) (by omega), w64 (by omega) (by omega)]
 unfold mx
 split <;> omega
def srcAtI (b m : Nat) (S : List Nat) (j : Nat) : Int := if 2 * j + 1 = m then ((S.getD j 0 / 2 : Nat) : Int) else if 2 * j + 1 < m then ((srcLo b j (S.getD j 0) : Nat) : Int) else ((S.getD (m - 1 - j) 0 : Nat) : Int) - ((srcLo b (m - 1 - j) (S.getD (m - 1 - j) 0) : Nat) : Int)
def srcPart (b m : Nat) (S : List Nat) (i : Nat) : List Int := (List.range m).map (fun j => if min j (m - 1 - j) < i then srcAtI b m S j else 0)
theorem srcPart_len (b m : Nat) (S : List Nat) (i : Nat) : (srcPart b m S i).length = m := by simp [srcPart]
theorem srcPart_zero (b m : Nat) (S : List Nat) : srcPart b m S 0 = List.replicate m 0 := by
 apply List.ext_getElem (by simp [srcPart])
 intro j h1 h2
 simp [srcPart]
theorem srcPart_mid (b m : Nat) (S : List Nat) (i : Nat) (h : 2 * i + 1 = m) : (srcPart b m S i).set i ((S.getD i 0 / 2 : Nat) : Int) = srcPart b m S (i + 1) := by
 apply List.ext_getElem (by simp [srcPart])
 intro j h1 h2
 rw [srcPart_len] at h2
 simp only [srcPart, List.getElem_set, List.getElem_map, List.getElem_range]
 by_cases hj : i = j
 ·subst hj
  rw [if_pos rfl, if_pos (by omega), srcAtI, if_pos h]
 ·rw [if_neg hj]
  by_cases h3 : min j (m - 1 - j) < i
  ·rw [if_pos h3, if_pos (by omega)]
  ·rw [if_neg h3, if_neg (by omega)]
theorem srcPart_pair (b m : Nat) (S : List Nat) (i : Nat) (h : 2 * i + 1 < m) :
  ((srcPart b m S i).set i ((srcLo b i (S.getD i 0) : Nat) : Int)).set (m - 1 - i) (((S.getD i 0 : Nat) : Int) - ((srcLo b i (S.getD i 0) : Nat) : Int)) = srcPart b m S (i + 1) := by
 apply List.ext_getElem (by simp [srcPart])
 intro j h1 h2
 rw [srcPart_len] at h2
 simp only [srcPart, List.getElem_set, List.getElem_map, List.getElem_range]
 by_cases hj : m - 1 - i = j
 ·rw [if_pos hj, if_pos (by omega), srcAtI, if_neg (by omega), if_neg (by omega), show m - 1 - j = i by omega]
 ·rw [if_neg hj]
  by_cases hj2 : i = j
  ·subst hj2
   rw [if_pos rfl, if_pos (by omega), srcAtI, if_neg (by omega), if_pos h]
  ·rw [if_neg hj2]
   by_cases h3 : min j (m - 1 - j) < i
   ·rw [if_pos h3, if_pos (by omega)]
   ·rw [if_neg h3, if_neg (by omega)]
theorem srcPart_full (b m : Nat) (S : List Nat) (hl : S.length = (m + 1) / 2) (h : srcCnt b m 0 S ≠ 0) : srcPart b m S ((m + 1) / 2) = ic (srcFst b m S) := by
 apply List.ext_getElem (by simp [srcPart, ic, srcFst])
 intro j h1 h2
 rw [srcPart_len] at h1
 simp only [srcPart, ic, srcFst, List.getElem_map, List.getElem_range]
 rw [if_pos (by omega)]
 rw [srcCnt_at] at h
 unfold srcAtI srcAt
 by_cases h3 : 2 * j + 1 = m
 ·rw [if_pos h3, if_pos h3]
 ·rw [if_neg h3, if_neg h3]
  by_cases h4 : 2 * j + 1 < m
  ·rw [if_pos h4, if_pos h4]
  ·rw [if_neg h4, if_neg h4]
   have hk := h (m - 1 - j) (by omega)
   rw [Nat.zero_add] at hk
   have := (srcFac_pair hk (by omega)).1
   omega
theorem wsucc (i : Nat) (h : i ≤ 1000000) : wrap64 ((i : Int) + 1) = ((i + 1 : Nat) : Int) := by rw [w64 (by omega) (by omega)]; omega
theorem w2i1 (i : Nat) (h : i ≤ 1000000) : wrap64 (wrap64 (2 * (i : Int)) + 1) = ((2 * i + 1 : Nat) : Int) := by rw [w64o (x := 2 * (i : Int)), w64 (by omega) (by omega)]; omega
theorem wback (m i : Nat) (h : i < m) (h2 : m ≤ 1000000) : wrap64 (wrap64 ((m : Int) - 1) - (i : Int)) = ((m - 1 - i : Nat) : Int) := by rw [w64o (x := (m : Int) - 1), w64 (by omega) (by omega)]; omega
theorem whalf (s : Nat) (h : s ≤ 1000000) : wrap64 (Int.tdiv (s : Int) 2) = ((s / 2 : Nat) : Int) := by rw [show (2 : Int) = ((2 : Nat) : Int) from rfl, tdiv_cast, w64 (by omega) (by omega)]
theorem tmod2 (s : Nat) : Int.tmod (s : Int) 2 = ((s % 2 : Nat) : Int) := by rw [show (2 : Int) = ((2 : Nat) : Int) from rfl, tmod_cast]
theorem wsub (s l : Nat) (h : s ≤ 1000000) (h2 : l ≤ 1000000) : wrap64 ((s : Int) - (l : Int)) = (s : Int) - (l : Int) := w64 (by omega) (by omega)
theorem wmul (P w : Nat) (h : P * w ≤ 1000000000000) : wrap64 ((P : Int) * (w : Int)) = ((P * w : Nat) : Int) := by
 rw [← Int.natCast_mul]
 exact w64n _ (by omega)
theorem pow16 (b i n : Nat) (hb : b ≤ 16) (hi : i ≤ n) : b ^ i ≤ 16 ^ n := Nat.le_trans (Nat.pow_le_pow_left hb i) (Nat.pow_le_pow_right (by omega) hi)
theorem ck_loop (b m : Nat) (hb : 2 ≤ b) (hb2 : b ≤ 16) (hm : 1 ≤ m) (hm2 : m ≤ 12) (S : List Nat) (hl : S.length = (m + 1) / 2) (hS : ∀ s ∈ S, s ≤ 2 * (b - 1)) (r : Nat) : ∀ i P : Nat, i + r = (m + 1) / 2 → P ≤ b ^ i →
  ∃ z, Ev (fun k => impl_sourcesOf.ck (b : Int) (m : Int) (ic S) k (srcPart b m S i) (P : Int) (i : Int)) z ∧ (P * srcCnt b m i (S.drop i) = 0 → z = none ∨ ∃ L, z = some (L, 0)) ∧ (P * srcCnt b m i (S.drop i) ≠ 0 → z = some (srcPart b m S ((m + 1) / 2), ((P * srcCnt b m i (S.drop i) : Nat) : Int))) := by
 induction r with
 | zero =>
  intro i P hi hP
  have hd : S.drop i = [] := List.drop_of_length_le (by omega)
  rw [hd, srcCnt, Nat.mul_one]
  have hi2 : i = (m + 1) / 2 := by omega
  refine ⟨some (srcPart b m S i, (P : Int)), evs (fun k => by rw [impl_sourcesOf.ck]) (evn (by rw [ic_length]; omega) (Ev.now _)), fun h => Or.inr ⟨_, by rw [h]; rfl⟩, fun _ => by rw [hi2]⟩
 | succ r ih =>
  intro i P hi hP
  have hil : i < S.length := by omega
  have hd : S.drop i = S.getD i 0 :: S.drop (i + 1) := by
   rw [List.drop_eq_getElem_cons hil, List.getD_eq_getElem?_getD, List.getElem?_eq_getElem hil]
   rfl
  have hs : S.getD i 0 ≤ 2 * (b - 1) := by
   rw [List.getD_eq_getElem?_getD, List.getElem?_eq_getElem hil]
   exact hS _ (List.getElem_mem hil)
  have hrd := ds_rd S i hil
  have hw := srcFac_le b m i (S.getD i 0) hb
  have hpn : P * srcFac b m i (S.getD i 0) ≤ b ^ (i + 1) := by
   rw [Nat.pow_succ]
   exact Nat.mul_le_mul hP hw
  obtain ⟨s, es⟩ : ∃ s, S.getD i 0 = s := ⟨_, rfl⟩
  rw [hd, srcCnt, ← Nat.mul_assoc]
  have hiv := ih (i + 1) (P * srcFac b m i (S.getD i 0)) (by omega) hpn
  have hlen := srcPart_len b m S i
  by_cases hmid : 2 * i + 1 = m
  ·have hset := srcPart_mid b m S i hmid
   rw [es] at hrd hset hiv hs ⊢
   by_cases hodd : s % 2 = 1
   ·have hf : srcFac b m i s = 0 := by unfold srcFac; rw [if_pos hmid, if_pos (Or.inl hodd)]
    refine ⟨none, ?_, fun _ => Or.inl rfl, fun h => absurd (by rw [hf]; simp) h⟩
    refine evs (fun k => by rw [impl_sourcesOf.ck]) ?_
    rw [w2i1 i (by omega), hrd, tmod2]
    clear hrd hset hiv
    exact evp (by rw [ic_length]; omega) (evp (by omega) (evp (by omega) (evp (by omega) (evp (by omega) (Ev.now _)))))
   ·by_cases hz : i = 0 ∧ s = 0
    ·have hf : srcFac b m i s = 0 := by unfold srcFac; rw [if_pos hmid, if_pos (Or.inr hz)]
     refine ⟨none, ?_, fun _ => Or.inl rfl, fun h => absurd (by rw [hf]; simp) h⟩
     refine evs (fun k => by rw [impl_sourcesOf.ck]) ?_
     rw [w2i1 i (by omega), hrd, tmod2]
     clear hrd hset hiv
     exact evp (by rw [ic_length]; omega) (evp (by omega) (evp (by omega) (evp (by omega) (evn (by omega) (evp (by omega) (evp (by omega) (Ev.now _)))))))
    ·have hf : srcFac b m i s = 1 := by unfold srcFac; rw [if_pos hmid, if_neg (by rintro (h | h); exact hodd h; exact hz h)]
     rw [hf, Nat.mul_one] at hiv ⊢
     obtain ⟨z, z1, z2, z3⟩ := hiv
     refine ⟨z, ?_, z2, z3⟩
     refine evs (fun k => by rw [impl_sourcesOf.ck]) ?_
     rw [w2i1 i (by omega), hrd, tmod2, whalf s (by omega), wsucc i (by omega), Int.toNat_natCast, hset]
     clear hrd hset
     refine evp (by rw [ic_length]; omega) (evp (by omega) (evp (by omega) (evp (by omega) (evn (by omega) ?_))))
     by_cases h0 : i = 0
     ·exact evp (by omega) (evn (by omega) z1)
     ·exact evn (by omega) z1
  ·have hset := srcPart_pair b m S i (by omega)
   rw [es] at hrd hset hiv hs ⊢
   have hf : srcFac b m i s = srcWy b i s := by unfold srcFac; rw [if_neg hmid]
   have hlo := lo_eq b i s hb hb2 (by omega)
   have hwy := wy_eq b i s hb hb2 (by omega)
   have hlb : srcLo b i s ≤ 1001 := by unfold srcLo; split <;> omega
   obtain ⟨z, z1, z2, z3⟩ := hiv
   refine ⟨z, ?_, z2, z3⟩
   refine evs (fun k => by rw [impl_sourcesOf.ck]) ?_
   rw [es, hf] at hpn
   rw [hf] at z1
   have h16 := pow16 b (i + 1) 7 hb2 (by omega)
   have e7 : (16 : Nat) ^ 7 = 268435456 := by decide
   rw [w2i1 i (by omega), hrd, hlo, hwy, wmul P _ (by omega), wsub s _ (by omega) (by omega), wback m i (by omega) (by omega), wsucc i (by omega), Int.toNat_natCast, Int.toNat_natCast, hset]
   clear hrd hlo hwy hset hpn h16 e7 z2 z3
   exact evp (by rw [ic_length]; omega) (evp (by omega) (evp (by omega) (evn (by omega) (evp (by omega) (evp (by omega) z1)))))
def srcInv (b m : Nat) (z : Nat × List Nat) : Prop := (z.2 = [] ↔ z.1 = 0) ∧ (z.2 = [] ∨ (z.2.length = m ∧ ∀ d ∈ z.2, d < b))
theorem add_facts0 (b : Nat) (ds : List Nat) : (addSum b ds).length ≤ ds.length + 1 := by
 unfold addSum
 rw [List.length_reverse, addO_eq, List.length_append, addP_length, sumsL_length]
 split <;> simp
theorem srcInv_fold (b m : Nat) (hb : 2 ≤ b) (hm : 1 ≤ m) (D : List Nat) (l : List (List Nat)) (hl : ∀ S ∈ l, srcGood b m S) (z : Nat × List Nat) (hz : srcInv b m z) : srcInv b m (l.foldl (srcT b m D) z) ∧ (l.foldl (srcT b m D) z).1 ≤ z.1 + l.length * b ^ ((m + 1) / 2) := by
 obtain ⟨f1, f2, _, _, f5⟩ := srcT_fold b m hm D (b ^ ((m + 1) / 2)) l z hz.1 (fun S hS => by have := srcCnt_le b m hb S 0; rw [(hl S hS).1] at this; exact this)
 refine ⟨⟨f1, ?_⟩, f5⟩
 rcases f2 with h | ⟨S, hS, ok, h⟩
 ·rw [h]; exact hz.2
 ·rw [h]
  exact Or.inr ⟨srcFst_len b m S, (srcFst_facts b m hb S (hl S hS).2 (hl S hS).1 ok.1).2.1⟩
theorem ic_inj {x y : List Nat} (h : ic x = ic y) : x = y := by
 have h2 : ∀ a c : Nat, (a : Int) = (c : Int) → a = c := fun a c h => by omega
 exact (List.map_inj_right h2).1 h
theorem chk_ev (b m : Nat) (hb : 2 ≤ b) (hb2 : b ≤ 16) (hm : 1 ≤ m) (hm2 : m ≤ 12) (D : List Nat) (hD : D.length ≤ 100) (S : List Nat) (hS : srcGood b m S) (z : Nat × List Nat) (hz : srcInv b m z) (hz1 : z.1 ≤ 1000000000000) :
  Ev (fun k => impl_sourcesOf.chk k (ic D) (b : Int) (m : Int) (ic S) (z.1 : Int) (ic z.2)) (((srcT b m D z S).1 : Int), ic (srcT b m D z S).2) := by
 obtain ⟨w, w1, w2, w3⟩ := ck_loop b m hb hb2 hm hm2 S hS.1 hS.2 ((m + 1) / 2) 0 1 (by omega) (by simp)
 rw [List.drop_zero, Nat.one_mul] at w2 w3
 rw [srcPart_zero] at w1
 unfold impl_sourcesOf.chk
 rw [Int.toNat_natCast]
 refine evp (by omega) (evp (by omega) (evb w1 ?_))
 by_cases hc : srcCnt b m 0 S = 0
 ·have e : srcT b m D z S = z := if_neg (fun h => h.1 hc)
  rw [e]
  rcases w2 hc with h | ⟨L, h⟩
  ·rw [h]; exact Ev.now _
  ·rw [h]; exact evp rfl (Ev.now _)
 ·rw [w3 hc, srcPart_full b m S hS.1 hc]
  obtain ⟨f1, f2, f3⟩ := srcFst_facts b m hb S hS.2 hS.1 hc
  have hl := srcFst_len b m S
  have hcb : srcCnt b m 0 S ≤ 16777216 := by
   have h1 := srcCnt_le b m hb S 0
   have h2 := pow16 b S.length 6 hb2 (by have := hS.1; omega)
   have e7 : (16 : Nat) ^ 6 = 16777216 := by decide
   omega
  refine evn (by omega) (evb (summed_ev (srcFst b m S) b hb hb2 (by omega) f2) ?_)
  refine evb (slices_Equal_int_int_ev _ _ (by rw [ic_length]; have := add_facts0 b (srcFst b m S); omega)) ?_
  have hsum : addSum b (srcFst b m S) = (addO b 0 (srcMir m S)).reverse := by unfold addSum; rw [f1]
  by_cases hok : addO b 0 (srcMir m S) = D.reverse
  ·have e : srcT b m D z S = (z.1 + srcCnt b m 0 S, if z.2 = [] ∨ val b 0 (srcFst b m S) < val b 0 z.2 then srcFst b m S else z.2) := if_pos ⟨hc, hok⟩
   rw [e]
   have hw : wrap64 ((z.1 : Int) + ((srcCnt b m 0 S : Nat) : Int)) = ((z.1 + srcCnt b m 0 S : Nat) : Int) := by rw [w64 (by omega) (by omega)]; omega
   rw [hw]
   clear hw
   refine evp (decide_eq_true (by rw [hsum, hok, List.reverse_reverse])) ?_
   by_cases hF : z.2 = []
   ·rw [if_pos (Or.inl hF)]
    exact evp (by rw [hF]; rfl) (Ev.now _)
   ·have hF2 := hz.2.resolve_left hF
    obtain ⟨c, c1, c2⟩ := compare_ev b hb (srcFst b m S) z.2 (by rw [hF2.1, hl]) (by omega) f2 hF2.2
    refine evn (fun h => hF (List.map_eq_nil_iff.1 h)) (evb c2 ?_)
    by_cases hlt : val b 0 (srcFst b m S) < val b 0 z.2
    ·rw [if_pos (Or.inr hlt)]
     exact evp (c1.2 hlt) (Ev.now _)
    ·have hno : ¬ (z.2 = [] ∨ val b 0 (srcFst b m S) < val b 0 z.2) := fun h => h.elim hF hlt
     rw [if_neg hno]
     exact evn (fun h => hlt (c1.1 h)) (Ev.now _)
  ·have e : srcT b m D z S = z := if_neg (fun h => hok h.2)
   rw [e]
   refine evn ?_ (Ev.now _)
   intro h
   have h2 := ic_inj (of_decide_eq_true h)
   exact hok (by rw [← h2, hsum, List.reverse_reverse])
theorem go_round (b m : Nat) (hb : 2 ≤ b) (hb2 : b ≤ 16) (D : List Nat) (i c s : Nat) (hi : i ≤ 12) (hc : c ≤ 1) (hs : s ≤ 2 * (b - 1)) (P : List Nat) (T : List Int) (hT : T.take i = ic P) (hl : i ≤ T.length) (x : Int × List Int) (u r : List Int × Int × List Int)
  (h1 : Ev (fun k => impl_sourcesOf.go (ic D) (b : Int) (m : Int) k false ((i + 1 : Nat) : Int) (((s + c) / b : Nat) : Int) 0 (ic (P ++ [s]), x)) u) (h2 : Ev (fun k => impl_sourcesOf.go (ic D) (b : Int) (m : Int) k true (i : Int) (c : Int) ((s + b : Nat) : Int) u) r) :
  Ev (fun k => impl_sourcesOf.go (ic D) (b : Int) (m : Int) k true (i : Int) (c : Int) (s : Int) (T, x)) r := by
 refine evs (fun k => by rw [impl_sourcesOf.go]) ?_
 have e1 : wrap64 (2 * wrap64 ((b : Int) - 1)) = ((2 * (b - 1) : Nat) : Int) := by rw [w64o (x := (b : Int) - 1), w64 (by omega) (by omega)]; omega
 have e2 : wrap64 (Int.tdiv (wrap64 ((s : Int) + (c : Int))) (b : Int)) = (((s + c) / b : Nat) : Int) := by
  have h := Nat.div_le_self (s + c) b
  rw [w64o (x := (s : Int) + (c : Int)), show (s : Int) + (c : Int) = ((s + c : Nat) : Int) by omega, tdiv_cast, w64n _ (by omega)]
 have e3 : wrap64 ((s : Int) + (b : Int)) = ((s + b : Nat) : Int) := by rw [w64 (by omega) (by omega)]; omega
 have e4 : T.take ((i : Nat) : Int).toNat ++ [(s : Int)] = ic (P ++ [s]) := by rw [Int.toNat_natCast, hT, ic_append, ic_cons, ic_nil]
 rw [e1, e2, e3, wsucc i (by omega), e4]
 clear e1 e2 e3 e4
 exact evp (by omega) (evp (by omega) (evp (by simp only; omega) (evp (by rw [Int.toNat_natCast]; omega) (evn (by omega) (evb h1 h2)))))
theorem go_end (b m : Nat) (hb : 2 ≤ b) (hb2 : b ≤ 16) (D : List Nat) (i c s : Nat) (hs : 2 * (b - 1) < s) (u : List Int × Int × List Int) : Ev (fun k => impl_sourcesOf.go (ic D) (b : Int) (m : Int) k true (i : Int) (c : Int) (s : Int) u) u := by
 refine evs (fun k => by rw [impl_sourcesOf.go]) ?_
 have e1 : wrap64 (2 * wrap64 ((b : Int) - 1)) = ((2 * (b - 1) : Nat) : Int) := by rw [w64o (x := (b : Int) - 1), w64 (by omega) (by omega)]; omega
 rw [e1]
 clear e1
 exact evn (by omega) (Ev.now _)
theorem go_want (b r c : Nat) (hb : 2 ≤ b) (hb2 : b ≤ 16) (hr : r < b) (hc : c ≤ 1) : Int.tmod (wrap64 (wrap64 ((r : Int) - (c : Int)) + (b : Int))) (b : Int) = (((r + b - c) % b : Nat) : Int) := by
 rw [w64o (x := (r : Int) - (c : Int)), w64 (by omega) (by omega), show (r : Int) - (c : Int) + (b : Int) = ((r + b - c : Nat) : Int) by omega, tmod_cast]
theorem go_ev (b m : Nat) (hb : 2 ≤ b) (hb2 : b ≤ 16) (hm : 1 ≤ m) (hm2 : m ≤ 12) (D : List Nat) (hD : D.length ≤ 12) (hDm : m ≤ D.length) (hDb : ∀ d ∈ D, d < b) (r : Nat) : ∀ (i c : Nat) (P : List Nat) (z : Nat × List Nat), i + r = (m + 1) / 2 → c ≤ 1 → P.length = i → (∀ s ∈ P, s ≤ 2 * (b - 1)) → srcInv b m z → z.1 + 2 ^ r * 16777216 ≤ 1000000000000 →
  ∃ T : List Int, T.take i = ic P ∧ i ≤ T.length ∧ Ev (fun k => impl_sourcesOf.go (ic D) (b : Int) (m : Int) k false (i : Int) (c : Int) 0 (ic P, (z.1 : Int), ic z.2)) (T, (((((srcDfs b c ((D.reverse.take ((m + 1) / 2)).drop i)).map (P ++ ·)).foldl (srcT b m D) z).1 : Nat) : Int), ic ((((srcDfs b c ((D.reverse.take ((m + 1) / 2)).drop i)).map (P ++ ·)).foldl (srcT b m D) z).2)) := by
 have hp : wrap64 (Int.tdiv (wrap64 ((m : Int) + 1)) 2) = (((m + 1) / 2 : Nat) : Int) := by
  rw [wsucc m (by omega), whalf _ (by omega)]
 induction r with
 | zero =>
  intro i c P z hi hc hP hPb hz hz1
  have hi2 : i = (m + 1) / 2 := by omega
  have hd : (D.reverse.take ((m + 1) / 2)).drop i = [] := List.drop_of_length_le (by rw [List.length_take]; omega)
  rw [hd]
  simp only [srcDfs, List.map_cons, List.map_nil, List.append_nil, List.foldl_cons, List.foldl_nil]
  refine ⟨ic P, by rw [List.take_of_length_le (by rw [ic_length]; omega)], by rw [ic_length]; omega, ?_⟩
  refine evs (fun k => by rw [impl_sourcesOf.go]) ?_
  rw [hp]
  have hck := chk_ev b m hb hb2 hm hm2 D (by omega) P ⟨by omega, hPb⟩ z hz (by omega)
  exact evp (by omega) (evb hck (Ev.now _))
 | succ r ih =>
  intro i c P z hi hc hP hPb hz hz1
  have hil : i < (D.reverse.take ((m + 1) / 2)).length := by rw [List.length_take, List.length_reverse]; omega
  obtain ⟨x, ex⟩ : ∃ x, D.getD (D.length - 1 - i) 0 = x := ⟨_, rfl⟩
  have hxb : x < b := by rw [← ex]; exact getD_lt D hDb _ (by omega)
  have hd : (D.reverse.take ((m + 1) / 2)).drop i = x :: (D.reverse.take ((m + 1) / 2)).drop (i + 1) := by
   rw [List.drop_eq_getElem_cons hil]
   congr 1
   rw [List.getElem_take, List.getElem_reverse, ← ex, List.getD_eq_getElem?_getD, List.getElem?_eq_getElem (by omega)]
   rfl
  have hrd := ds_rd D (D.length - 1 - i) (by omega)
  rw [ex] at hrd
  rw [hd]
  obtain ⟨R, eR⟩ : ∃ R, (D.reverse.take ((m + 1) / 2)).drop (i + 1) = R := ⟨_, rfl⟩
  rw [eR]
  have hRb : ∀ d ∈ R, d < b := fun d h => by
   rw [← eR] at h
   exact hDb d (List.mem_reverse.1 (List.mem_of_mem_take (List.mem_of_mem_drop h)))
  have hRl : R.length = r := by rw [← eR, List.length_drop, List.length_take, List.length_reverse]; omega
  have hstart : ∀ (w : Nat) (u : List Int × Int × List Int), (x + b - c) % b = w → Ev (fun k => impl_sourcesOf.go (ic D) (b : Int) (m : Int) k true (i : Int) (c : Int) (w : Int) (ic P, (z.1 : Int), ic z.2)) u → Ev (fun k => impl_sourcesOf.go (ic D) (b : Int) (m : Int) k false (i : Int) (c : Int) 0 (ic P, (z.1 : Int), ic z.2)) u := by
   intro w u hw hu
   refine evs (fun k => by rw [impl_sourcesOf.go]) ?_
   rw [hp, ic_length, wback D.length i (by omega) (by omega), hrd, go_want b x c hb hb2 hxb hc, hw]
   exact evn (by omega) (evp (by omega) (evp (by omega) (evn (by omega) hu)))
  obtain ⟨M, eM⟩ : ∃ M, 2 ^ r * 16777216 = M := ⟨_, rfl⟩
  have hM : 2 ^ (r + 1) * 16777216 = M + M := by rw [Nat.pow_succ, Nat.mul_two, Nat.add_mul, eM]
  rw [hM] at hz1
  rw [eM] at ih
  clear hM
  have hgood : ∀ (c' s : Nat), c' ≤ 1 → s ≤ 2 * (b - 1) → (∀ S ∈ (srcDfs b c' R).map ((P ++ [s]) ++ ·), srcGood b m S) ∧ ((srcDfs b c' R).map ((P ++ [s]) ++ ·)).length ≤ 2 ^ r := by
   intro c' s hc' hs
   obtain ⟨g1, g2⟩ := srcDfs_facts b hb R c' hc' hRb
   rw [hRl] at g1
   refine ⟨fun S hS => ?_, by simpa using g1⟩
   obtain ⟨S', hS', rfl⟩ := List.mem_map.1 hS
   obtain ⟨g3, g4⟩ := g2 S' hS'
   refine ⟨by simp only [List.length_append, List.length_cons, List.length_nil]; omega, fun y hy => ?_⟩
   rcases List.mem_append.1 hy with hy | hy
   ·rcases List.mem_append.1 hy with hy | hy
    ·exact hPb y hy
    ·rw [List.mem_singleton.1 hy]; exact hs
   ·exact g4 y hy
  have hstep : ∀ (c' s : Nat) (y : Nat × List Nat), c' ≤ 1 → s ≤ 2 * (b - 1) → (s + c) / b = c' → srcInv b m y → y.1 + M ≤ 1000000000000 →
    ∃ T : List Int, T.take i = ic P ∧ i ≤ T.length ∧ srcInv b m (((srcDfs b c' R).map ((P ++ [s]) ++ ·)).foldl (srcT b m D) y) ∧ (((srcDfs b c' R).map ((P ++ [s]) ++ ·)).foldl (srcT b m D) y).1 ≤ y.1 + M ∧
     Ev (fun k => impl_sourcesOf.go (ic D) (b : Int) (m : Int) k false ((i + 1 : Nat) : Int) (((s + c) / b : Nat) : Int) 0 (ic (P ++ [s]), (y.1 : Int), ic y.2)) (T, (((((srcDfs b c' R).map ((P ++ [s]) ++ ·)).foldl (srcT b m D) y).1 : Nat) : Int), ic (((srcDfs b c' R).map ((P ++ [s]) ++ ·)).foldl (srcT b m D) y).2) := by
   intro c' s y hc' hs hcs hy hy1
   obtain ⟨T, t1, t2, t3⟩ := ih (i + 1) c' (P ++ [s]) y (by omega) hc' (by simp [hP]) (fun q hq => by
    rcases List.mem_append.1 hq with hq | hq
    ·exact hPb q hq
    ·rw [List.mem_singleton.1 hq]; exact hs) hy hy1
   rw [eR] at t3
   obtain ⟨g1, g2⟩ := hgood c' s hc' hs
   obtain ⟨v1, v2⟩ := srcInv_fold b m hb hm D _ g1 y hy
   refine ⟨T, ?_, by omega, v1, ?_, by rw [hcs]; exact t3⟩
   ·have h := congrArg (List.take i) t1
    rw [List.take_take, Nat.min_eq_left (by omega), ic_append, List.take_append_of_le_length (by rw [ic_length]; omega), List.take_of_length_le (l := ic P) (by rw [ic_length]; omega)] at h
    exact h
   ·have h6 := pow16 b ((m + 1) / 2) 6 hb2 (by omega)
    have e6 : (16 : Nat) ^ 6 = 16777216 := by decide
    have h7 := Nat.mul_le_mul g2 (by omega : b ^ ((m + 1) / 2) ≤ 16777216)
    rw [eM] at h7
    exact Nat.le_trans v2 (Nat.add_le_add_left h7 _)
  rw [srcDfs, List.map_append, List.foldl_append]
  have emap : ∀ (c' s : Nat), ((srcDfs b c' R).map (fun S => s :: S)).map (P ++ ·) = (srcDfs b c' R).map ((P ++ [s]) ++ ·) := fun c' s => by
   rw [List.map_map]
   apply List.map_congr_left
   intro S _
   simp
  by_cases hcx : c ≤ x
  ·rw [if_pos hcx, emap]
   have hw : (x + b - c) % b = x - c := by
    rw [show x + b - c = x - c + b by omega, Nat.add_mod_right, Nat.mod_eq_of_lt (by omega)]
   have hd0 : (x - c + c) / b = 0 := Nat.div_eq_of_lt (by omega)
   obtain ⟨T1, a1, a2, a3, a4, a5⟩ := hstep 0 (x - c) z (by omega) (by omega) hd0 hz (by omega)
   by_cases h2 : x + b - c ≤ 2 * (b - 1)
   ·rw [if_pos h2, emap]
    have hd1 : (x + b - c + c) / b = 1 := by
     rw [show x + b - c + c = x + b by omega, Nat.add_div_right _ (by omega), Nat.div_eq_of_lt hxb]
    obtain ⟨T2, b1, b2, b3, b4, b5⟩ := hstep 1 (x + b - c) _ (by omega) h2 hd1 a3 (by omega)
    refine ⟨T2, b1, b2, hstart _ _ hw ?_⟩
    refine go_round b m hb hb2 D i c (x - c) (by omega) hc (by omega) P _ (by rw [List.take_of_length_le (by rw [ic_length]; omega)]) (by rw [ic_length]; omega) _ _ _ a5 ?_
    rw [show x - c + b = x + b - c by omega]
    refine go_round b m hb hb2 D i c (x + b - c) (by omega) hc h2 P T1 a1 a2 _ _ _ b5 ?_
    exact go_end b m hb hb2 D i c _ (by omega) _
   ·rw [if_neg h2]
    simp only [List.map_nil, List.foldl_nil]
    refine ⟨T1, a1, a2, hstart _ _ hw ?_⟩
    refine go_round b m hb hb2 D i c (x - c) (by omega) hc (by omega) P _ (by rw [List.take_of_length_le (by rw [ic_length]; omega)]) (by rw [ic_length]; omega) _ _ _ a5 ?_
    exact go_end b m hb hb2 D i c _ (by omega) _
  ·rw [if_neg hcx]
   simp only [List.map_nil, List.foldl_nil]
   have h2 : x + b - c ≤ 2 * (b - 1) := by omega
   rw [if_pos h2, emap]
   have hw : (x + b - c) % b = x + b - c := Nat.mod_eq_of_lt (by omega)
   have hd1 : (x + b - c + c) / b = 1 := by
    rw [show x + b - c + c = x + b by omega, Nat.add_div_right _ (by omega), Nat.div_eq_of_lt hxb]
   obtain ⟨T2, b1, b2, b3, b4, b5⟩ := hstep 1 (x + b - c) z (by omega) h2 hd1 hz (by omega)
   refine ⟨T2, b1, b2, hstart _ _ hw ?_⟩
   refine go_round b m hb hb2 D i c (x + b - c) (by omega) hc h2 P _ (by rw [List.take_of_length_le (by rw [ic_length]; omega)]) (by rw [ic_length]; omega) _ _ _ b5 ?_
   exact go_end b m hb hb2 D i c _ (by omega) _
def srcAll (b m : Nat) (D : List Nat) : Nat × List Nat := if m = 0 then (0, []) else srcOut b m D
theorem impl_src_ev (b m : Nat) (hb : 2 ≤ b) (hb2 : b ≤ 16) (hm2 : m ≤ 12) (D : List Nat) (hD : D.length ≤ 12) (hDm : m ≤ D.length) (hDb : ∀ d ∈ D, d < b) : Ev (fun k => impl_sourcesOf.f k (ic D) (b : Int) (m : Int)) (((srcAll b m D).1 : Int), ic (srcAll b m D).2) := by
 unfold impl_sourcesOf.f srcAll
 by_cases h : m = 0
 ·rw [if_pos h]
  exact evn (by omega) (Ev.now _)
 ·rw [if_neg h]
  have hp2 : 2 ^ ((m + 1) / 2) ≤ 2 ^ 6 := Nat.pow_le_pow_right (by omega) (by omega)
  have e2 : (2 : Nat) ^ 6 = 64 := by decide
  obtain ⟨T, _, _, t3⟩ := go_ev b m hb hb2 (by omega) hm2 D hD hDm hDb ((m + 1) / 2) 0 0 [] (0, []) (by omega) (by omega) rfl (by simp) ⟨by simp, Or.inl rfl⟩ (by simp only; omega)
  have e : ((srcDfs b 0 ((D.reverse.take ((m + 1) / 2)).drop 0)).map ([] ++ ·)) = srcDfs b 0 (D.reverse.take ((m + 1) / 2)) := by simp
  rw [e] at t3
  exact evp (by omega) (evb t3 (Ev.now _))
/-! The spec's side. -/
theorem pair_loop (b s : Nat) (hb : 2 ≤ b) (hb2 : b ≤ 16) (hs : s ≤ 1000) (r : Nat) : ∀ x w : Nat, x + r = b → w ≤ x → Ev (fun k => spec_rvPair.l0 k (s : Int) (b : Int) (w : Int) (x : Int)) ((w + (min s (b - 1) + 1 - max x (s - (b - 1))) : Nat) : Int) := by
 induction r with
 | zero =>
  intro x w hx hw
  refine evs (fun k => by rw [spec_rvPair.l0]) (evn (by omega) (evr ?_))
  have : min s (b - 1) + 1 - max x (s - (b - 1)) = 0 := by omega
  rw [this, Nat.add_zero]
 | succ r ih =>
  intro x w hx hw
  refine evs (fun k => by rw [spec_rvPair.l0]) (evp (by omega) ?_)
  rw [wsucc x (by omega), wsub s x (by omega) (by omega), w64o (x := (b : Int) - 1)]
  refine evc (spec_l1In_eq _ _ _) ?_
  by_cases h : (0 : Int) ≤ (s : Int) - (x : Int) ∧ (s : Int) - (x : Int) ≤ (b : Int) - 1
  ·refine evp (decide_eq_true h) ?_
   have h1 := ih (x + 1) (w + 1) (by omega) (by omega)
   rw [wsucc w (by omega)]
   rw [show w + (min s (b - 1) + 1 - max x (s - (b - 1))) = w + 1 + (min s (b - 1) + 1 - max (x + 1) (s - (b - 1))) by omega]
   exact h1
  ·refine evn (by simp only [decide_eq_true_eq]; exact h) ?_
   have h1 := ih (x + 1) w (by omega) (by omega)
   rw [show w + (min s (b - 1) + 1 - max x (s - (b - 1))) = w + (min s (b - 1) + 1 - max (x + 1) (s - (b - 1))) by omega]
   exact h1
theorem pair_ev (b i s : Nat) (hb : 2 ≤ b) (hb2 : b ≤ 16) (hs : s ≤ 1000) : Ev (fun k => spec_rvPair.f k (s : Int) (b : Int) ((if i = 0 then 1 else 0 : Nat) : Int)) ((srcWy b i s : Nat) : Int) := by
 have h := pair_loop b s hb hb2 hs (b - (if i = 0 then 1 else 0)) (if i = 0 then 1 else 0) 0 (by split <;> omega) (by omega)
 unfold spec_rvPair.f
 rw [Nat.zero_add] at h
 exact h
theorem mir_rd (m : Nat) (S : List Nat) (i : Nat) (h : 2 * i + 1 ≤ m) : rd (ic (srcMir m S)) (i : Int) = ((S.getD i 0 : Nat) : Int) := by
 rw [ds_rd _ _ (by rw [srcMir_len]; omega), srcMir, getD_map_range _ _ _ (by omega), show min i (m - 1 - i) = i by omega]
theorem count_loop (b m : Nat) (hb : 2 ≤ b) (hb2 : b ≤ 16) (hm : 1 ≤ m) (hm2 : m ≤ 12) (S : List Nat) (hl : S.length = (m + 1) / 2) (hS : ∀ s ∈ S, s ≤ 2 * (b - 1)) (r : Nat) : ∀ i P : Nat, i + r = m / 2 → P ≤ b ^ i →
  Ev (fun k => spec_rvCount.l0 k (ic (srcMir m S)) (b : Int) (m : Int) (P : Int) (i : Int)) ((P * srcCnt b m i (S.drop i) : Nat) : Int) := by
 have hgS : ∀ i, i < S.length → S.getD i 0 ≤ 2 * (b - 1) := fun i h => by
  rw [List.getD_eq_getElem?_getD, List.getElem?_eq_getElem h]
  exact hS _ (List.getElem_mem h)
 have hdr : ∀ i, i < S.length → S.drop i = S.getD i 0 :: S.drop (i + 1) := fun i h => by
  rw [List.drop_eq_getElem_cons h, List.getD_eq_getElem?_getD, List.getElem?_eq_getElem h]
  rfl
 induction r with
 | zero =>
  intro i P hi hP
  refine evs (fun k => by rw [spec_rvCount.l0]) ?_
  have e0 : rd (ic (srcMir m S)) 0 = ((S.getD 0 0 : Nat) : Int) := mir_rd m S 0 (by omega)
  rw [whalf m (by omega), tmod2, e0]
  refine evn (by omega) ?_
  by_cases hodd : m % 2 = 1
  ·rw [mir_rd m S (m / 2) (by omega), tmod2]
   have hd := hdr i (by omega)
   have hd2 : S.drop (i + 1) = [] := List.drop_of_length_le (by omega)
   rw [hd, hd2, srcCnt, srcCnt, Nat.mul_one]
   have hi2 : m / 2 = i := by omega
   rw [hi2]
   obtain ⟨s, es⟩ : ∃ s, S.getD i 0 = s := ⟨_, rfl⟩
   refine evp (by omega) (evp (by omega) (evp (by rw [ic_length, srcMir_len]; omega) ?_))
   rw [es]
   by_cases hs : s % 2 = 1
   ·have hf : srcFac b m i s = 0 := by unfold srcFac; rw [if_pos (by omega), if_pos (Or.inl hs)]
    rw [hf, Nat.mul_zero]
    exact evp (by omega) (Ev.now _)
   ·refine evn (by omega) ?_
    by_cases h1 : m = 1
    ·have hi0 : i = 0 := by omega
     rw [hi0] at es
     rw [es]
     refine evp (by omega) (evp (by rw [ic_length, srcMir_len]; omega) ?_)
     by_cases hs0 : s = 0
     ·have hf : srcFac b m i s = 0 := by unfold srcFac; rw [if_pos (by omega), if_pos (Or.inr ⟨hi0, hs0⟩)]
      rw [hf, Nat.mul_zero]
      exact evp (by omega) (Ev.now _)
     ·have hf : srcFac b m i s = 1 := by unfold srcFac; rw [if_pos (by omega), if_neg (fun h => h.elim hs (fun h => hs0 h.2))]
      rw [hf, Nat.mul_one]
      exact evn (by omega) (Ev.now _)
    ·have hf : srcFac b m i s = 1 := by unfold srcFac; rw [if_pos (by omega), if_neg (fun h => h.elim hs (fun h => by omega))]
     rw [hf, Nat.mul_one]
     exact evn (by omega) (Ev.now _)
  ·have hd : S.drop i = [] := List.drop_of_length_le (by omega)
   rw [hd, srcCnt, Nat.mul_one]
   exact evn (by omega) (Ev.now _)
 | succ r ih =>
  intro i P hi hP
  have hil : i < S.length := by omega
  have hs := hgS i hil
  have hw := srcFac_le b m i (S.getD i 0) hb
  have hpn : P * srcFac b m i (S.getD i 0) ≤ b ^ (i + 1) := by
   rw [Nat.pow_succ]
   exact Nat.mul_le_mul hP hw
  have h16 := pow16 b (i + 1) 7 hb2 (by omega)
  have e7 : (16 : Nat) ^ 7 = 268435456 := by decide
  have h1 := ih (i + 1) (P * srcFac b m i (S.getD i 0)) (by omega) hpn
  rw [hdr i hil, srcCnt, ← Nat.mul_assoc]
  have hf : srcFac b m i (S.getD i 0) = srcWy b i (S.getD i 0) := by unfold srcFac; rw [if_neg (by omega)]
  rw [hf] at h1 hpn ⊢
  have hp := pair_ev b i (S.getD i 0) hb hb2 (by omega)
  refine evs (fun k => by rw [spec_rvCount.l0]) ?_
  rw [whalf m (by omega), mir_rd m S i (by omega), wsucc i (by omega)]
  have hq : Ev (fun k => (spec_rvPair.f k ((S.getD i 0 : Nat) : Int) (b : Int) ((if i = 0 then 1 else 0 : Nat) : Int)).bind fun t => spec_rvCount.l0 k (ic (srcMir m S)) (b : Int) (m : Int) (wrap64 ((P : Int) * t)) ((i + 1 : Nat) : Int)) ((P * srcWy b i (S.getD i 0) * srcCnt b m (i + 1) (S.drop (i + 1)) : Nat) : Int) := by
   refine evb hp ?_
   rw [wmul P _ (by omega)]
   exact h1
  refine evp (by omega) ?_
  by_cases h0 : i = 0
  ·rw [if_pos h0] at hq
   exact evp (by omega) (evp (by omega) (evp (by rw [ic_length, srcMir_len]; omega) hq))
  ·rw [if_neg h0] at hq
   exact evn (by omega) (evp (by omega) (evp (by rw [ic_length, srcMir_len]; omega) hq))
theorem count_ev (b m : Nat) (hb : 2 ≤ b) (hb2 : b ≤ 16) (hm : 1 ≤ m) (hm2 : m ≤ 12) (S : List Nat) (hS : srcGood b m S) : Ev (fun k => spec_rvCount.f k (ic (srcMir m S)) (b : Int)) ((srcCnt b m 0 S : Nat) : Int) := by
 have h := count_loop b m hb hb2 hm hm2 S hS.1 hS.2 (m / 2) 0 1 (by omega) (by simp)
 unfold spec_rvCount.f
 rw [ic_length, srcMir_len]
 simpa using h
theorem first_loop (b m : Nat) (hb : 2 ≤ b) (hb2 : b ≤ 16) (hm : 1 ≤ m) (hm2 : m ≤ 12) (S : List Nat) (hl : S.length = (m + 1) / 2) (hS : ∀ s ∈ S, s ≤ 2 * (b - 1)) (r : Nat) : ∀ i : Nat, i + r = (m + 1) / 2 →
  Ev (fun k => spec_rvFirst.l0 k (ic (srcMir m S)) (b : Int) (m : Int) (srcPart b m S i) (i : Int)) (srcPart b m S ((m + 1) / 2)) := by
 induction r with
 | zero =>
  intro i hi
  refine evs (fun k => by rw [spec_rvFirst.l0]) ?_
  rw [wsucc m (by omega), whalf _ (by omega)]
  exact evn (by omega) (evr (by rw [show i = (m + 1) / 2 by omega]))
 | succ r ih =>
  intro i hi
  have hil : i < S.length := by omega
  have hs : S.getD i 0 ≤ 2 * (b - 1) := by
   rw [List.getD_eq_getElem?_getD, List.getElem?_eq_getElem hil]
   exact hS _ (List.getElem_mem hil)
  have h1 := ih (i + 1) (by omega)
  have hlen := srcPart_len b m S i
  have hml := srcMir_len m S
  refine evs (fun k => by rw [spec_rvFirst.l0]) ?_
  rw [wsucc m (by omega), whalf (m + 1) (by omega), wback m i (by omega) (by omega), wsucc i (by omega), mir_rd m S i (by omega), Int.toNat_natCast, Int.toNat_natCast, ic_length, hml, hlen]
  refine evp (by omega) ?_
  by_cases hmid : 2 * i + 1 = m
  ·rw [whalf _ (by omega), srcPart_mid b m S i hmid]
   exact evp (by omega) (evp (by omega) (evp (by omega) (evp (by omega) h1)))
  ·have hset := srcPart_pair b m S i (by omega)
   refine evn (by omega) ?_
   have hlb : srcLo b i (S.getD i 0) ≤ 1001 := by unfold srcLo; split <;> omega
   have hcore : ∀ t : Int, t = ((srcLo b i (S.getD i 0) : Nat) : Int) → Ev (fun k => if (i : Int) < (m : Int) then (some ((srcPart b m S i).set i t : List Int)).bind fun y => if (0 : Int) ≤ ((m - 1 - i : Nat) : Int) then (if ((m - 1 - i : Nat) : Int) < (m : Int) then spec_rvFirst.l0 k (ic (srcMir m S)) (b : Int) (m : Int) (y.set (m - 1 - i) (wrap64 (((S.getD i 0 : Nat) : Int) - rd y (i : Int)))) ((i + 1 : Nat) : Int) else none) else none else none) (srcPart b m S ((m + 1) / 2)) := by
    intro t ht
    refine evp (by omega) ?_
    simp only [Option.bind_some]
    have hrd : rd ((srcPart b m S i).set i t) (i : Int) = t := by
     rw [rd_get _ _ (by rw [List.length_set]; omega)]
     simp
    rw [hrd, ht, wsub _ _ (by omega) (by omega), hset]
    exact evp (by omega) (evp (by omega) h1)
   have hmost : ∀ a : Nat, spec_l1Most.f (a : Int) (wrap64 (wrap64 (((S.getD i 0 : Nat) : Int) - (b : Int)) + 1)) = some ((max a (S.getD i 0 - (b - 1)) : Nat) : Int) := by
    intro a
    rw [wsub _ _ (by omega) (by omega), w64 (by omega) (by omega)]
    unfold spec_l1Most.f
    split <;> congr 1 <;> omega
   by_cases h0 : i = 0
   ·have hm1 := hmost 1
    have hc1 := hcore ((max 1 (S.getD i 0 - (b - 1)) : Nat) : Int) (by unfold srcLo; rw [if_pos h0])
    exact evp (by omega) (evp (by omega) (evp (by omega) (evc hm1 hc1)))
   ·have hm1 := hmost 0
    have hc1 := hcore ((max 0 (S.getD i 0 - (b - 1)) : Nat) : Int) (by unfold srcLo; rw [if_neg h0])
    exact evn (by omega) (evp (by omega) (evp (by omega) (evc hm1 hc1)))
theorem first_ev (b m : Nat) (hb : 2 ≤ b) (hb2 : b ≤ 16) (hm : 1 ≤ m) (hm2 : m ≤ 12) (S : List Nat) (hS : srcGood b m S) (hc : srcCnt b m 0 S ≠ 0) : Ev (fun k => spec_rvFirst.f k (ic (srcMir m S)) (b : Int)) (ic (srcFst b m S)) := by
 have h := first_loop b m hb hb2 hm hm2 S hS.1 hS.2 ((m + 1) / 2) 0 (by omega)
 rw [srcPart_zero, srcPart_full b m S hS.1 hc] at h
 unfold spec_rvFirst.f
 rw [ic_length, srcMir_len, Int.toNat_natCast]
 exact evp (by omega) (evp (by omega) h)
/-! The lists of sums of pairs of the spec. -/
theorem shr_nat (x p : Nat) (hp : p ≤ 60) : shr .i64 (x : Int) (p : Int) = ((x / 2 ^ p : Nat) : Int) := by
 unfold shr
 rw [Int.toNat_natCast, show IntKind.bits .i64 = 64 from rfl, Nat.min_eq_left (by omega)]
 simp
theorem addP_append (b : Nat) (S1 : List Nat) : ∀ (c : Nat) (S2 : List Nat), addP b c (S1 ++ S2) = addP b c S1 ++ addP b (addC b c S1) S2 := by
 induction S1 with
 | nil => intro c S2; rfl
 | cons s S1 ih => intro c S2; simp [addP, addC, ih]
theorem addC_append (b : Nat) (S1 : List Nat) : ∀ (c : Nat) (S2 : List Nat), addC b c (S1 ++ S2) = addC b (addC b c S1) S2 := by
 induction S1 with
 | nil => intro c S2; rfl
 | cons s S1 ih => intro c S2; simp [addC, ih]
theorem spec_add (b : Nat) (hb : 2 ≤ b) (R : List Nat) : ∀ (c n : Nat) (T : List Nat), c ≤ 1 → (∀ x ∈ R, x < b) → srcSpec b c R n = some T → T.length = R.length ∧ addP b c T = R ∧ ∀ s ∈ T, s ≤ 2 * (b - 1) := by
 induction R with
 | nil =>
  intro c n T _ _ h
  obtain rfl := Option.some.inj h
  simp [addP]
 | cons x R ih =>
  intro c n T hc hR h
  have hx := hR x (by simp)
  rw [srcSpec] at h
  by_cases hq : c ≤ x + b * (n % 2) ∧ x + b * (n % 2) - c ≤ 2 * (b - 1)
  ·rw [if_pos hq] at h
   obtain ⟨T', h1, h2⟩ := Option.map_eq_some_iff.1 h
   obtain ⟨g1, g2, g3⟩ := ih (n % 2) (n / 2) T' (by omega) (fun y hy => hR y (by simp [hy])) h1
   subst h2
   have hs : x + b * (n % 2) - c + c = x + b * (n % 2) := by omega
   refine ⟨by simp [g1], ?_, fun s hs => ?_⟩
   ·simp only [addP]
    rw [hs, Nat.add_mul_mod_self_left, Nat.mod_eq_of_lt hx, Nat.add_mul_div_left _ _ (by omega), Nat.div_eq_of_lt hx, Nat.zero_add, g2]
   ·rcases List.mem_cons.1 hs with rfl | hs
    ·exact hq.2
    ·exact g3 s hs
  ·rw [if_neg hq] at h
   exact absurd h (by simp)
def srcMid (m : Nat) (S : List Nat) (j : Nat) : List Int := (List.range m).map (fun i => if min i (m - 1 - i) < j then ((S.getD (min i (m - 1 - i)) 0 : Nat) : Int) else 0)
theorem srcMid_len (m : Nat) (S : List Nat) (j : Nat) : (srcMid m S j).length = m := by simp [srcMid]
theorem srcMid_zero (m : Nat) (S : List Nat) : srcMid m S 0 = List.replicate m 0 := by
 apply List.ext_getElem (by simp [srcMid])
 intro j h1 h2
 simp [srcMid]
theorem srcMid_full (m : Nat) (S : List Nat) : srcMid m S ((m + 1) / 2) = ic (srcMir m S) := by
 apply List.ext_getElem (by simp [srcMid, ic, srcMir])
 intro j h1 h2
 rw [srcMid_len] at h1
 simp only [srcMid, ic, srcMir, List.getElem_map, List.getElem_range]
 rw [if_pos (by omega)]
theorem srcMid_set (m : Nat) (S : List Nat) (v j : Nat) (hS : S.length = j) (hj : 2 * j + 1 ≤ m) : ((srcMid m S j).set (m - 1 - j) (v : Int)).set j (v : Int) = srcMid m (S ++ [v]) (j + 1) := by
 apply List.ext_getElem (by simp [srcMid])
 intro i h1 h2
 rw [srcMid_len] at h2
 simp only [srcMid, List.getElem_set, List.getElem_map, List.getElem_range]
 have hv : (S ++ [v]).getD j 0 = v := by
  rw [List.getD_eq_getElem?_getD, ← hS, List.getElem?_append_right (Nat.le_refl _)]
  simp
 by_cases h3 : j = i
 ·subst h3
  rw [if_pos rfl, if_pos (by omega), show min j (m - 1 - j) = j by omega, hv]
 ·rw [if_neg h3]
  by_cases h4 : m - 1 - j = i
  ·rw [if_pos h4, if_pos (by omega), show min i (m - 1 - i) = j by omega, hv]
  ·rw [if_neg h4]
   by_cases h5 : min i (m - 1 - i) < j
   ·rw [if_pos h5, if_pos (by omega)]
    congr 1
    simp only [List.getD_eq_getElem?_getD]
    rw [List.getElem?_append_left (by omega)]
   ·rw [if_neg h5, if_neg (by omega)]
theorem we1 (m : Nat) (h : 1 ≤ m) (h2 : m ≤ 1000) : wrap64 ((m : Int) - 1) = ((m - 1 : Nat) : Int) := by rw [w64 (by omega) (by omega)]; omega
theorem we2 (m j : Nat) (h : j < m) (h2 : m ≤ 1000) : wrap64 (((m - 1 : Nat) : Int) - ((m - 1 - j : Nat) : Int)) = (j : Int) := by rw [w64 (by omega) (by omega)]; omega
theorem we3 (m h : Nat) (hh : h ≤ m) (h2 : m ≤ 1000) : wrap64 ((m : Int) - (h : Int)) = ((m - h : Nat) : Int) := by rw [w64 (by omega) (by omega)]; omega
theorem we4 (m j over L : Nat) (h : j < m) (h2 : m ≤ 1000) (ho : L = m + over) (ho1 : over ≤ 1) : wrap64 ((over : Int) + ((m - 1 - j : Nat) : Int)) = ((L - 1 - j : Nat) : Int) := by rw [w64 (by omega) (by omega)]; omega
theorem we6 (s c : Nat) (h : s ≤ 1000) (h2 : c ≤ 1000) : wrap64 ((s : Int) + (c : Int)) = ((s + c : Nat) : Int) := by rw [w64 (by omega) (by omega)]; omega
theorem we7 (b : Nat) (h : 1 ≤ b) (h2 : b ≤ 1000) : wrap64 (wrap64 (2 * (b : Int)) - 2) = ((2 * (b - 1) : Nat) : Int) := by rw [w64o (x := 2 * (b : Int)), w64 (by omega) (by omega)]; omega
theorem we8 (m j : Nat) (h : j < m) (h2 : m ≤ 1000) : wrap64 (((m - 1 - j : Nat) : Int) - 1) = (m : Int) - 1 - ((j + 1 : Nat) : Int) := by rw [w64 (by omega) (by omega)]; omega
theorem we9 (x q b c : Nat) (h : x ≤ 1000) (hq : b * q ≤ 1000) (hc : c ≤ 1000) : wrap64 (wrap64 ((x : Int) + wrap64 ((b : Int) * (q : Int))) - (c : Int)) = ((x + b * q : Nat) : Int) - (c : Int) := by
 rw [wmul b q (by omega)]
 obtain ⟨y, hy⟩ : ∃ y, b * q = y := ⟨_, rfl⟩
 rw [hy] at hq ⊢
 rw [w64o (x := (x : Int) + (y : Int)), w64 (by omega) (by omega)]
 omega
theorem ways_false (D : List Nat) (b m over h n : Nat) (out : List (List Int)) (sums : List Int) (c i : Int) (Z : List (List Int) × Bool) (hn : n ≤ 1000)
  (hz : Ev (fun k => spec_rvWays.l0 k (ic D) (m : Int) (b : Int) (over : Int) (h : Int) out ((n + 1 : Nat) : Int)) Z) :
  Ev (fun k => spec_rvWays.l1 k (ic D) (m : Int) (b : Int) (over : Int) (h : Int) out (n : Int) sums c false i) Z := by
 refine evs (fun k => by rw [spec_rvWays.l1]) ?_
 have hj : ∀ x : Bool, x = false → Ev (fun k => spec_rvWays.j3 k (ic D) (m : Int) (b : Int) (over : Int) (h : Int) out (n : Int) sums c false i x) Z := by
  intro x hx
  refine evs (fun k => by rw [spec_rvWays.j3]) ?_
  rw [wsucc n (by omega)]
  exact evn (by rw [hx]; simp) (evn (by simp) hz)
 by_cases hi : i ≥ 0
 ·exact evp hi (hj false rfl)
 ·exact evn hi (hj false rfl)
theorem least_eq (x y : Nat) : spec_l1Least.f (x : Int) (y : Int) = some ((min x y : Nat) : Int) := by
 unfold spec_l1Least.f
 split <;> congr 1 <;> omega
theorem D_at (D : List Nat) (j : Nat) (h : j < D.length) : rd (ic D) ((D.length - 1 - j : Nat) : Int) = ((D.reverse.getD j 0 : Nat) : Int) := by
 rw [ds_rd D _ (by omega)]
 congr 1
 simp only [List.getD_eq_getElem?_getD]
 rw [List.getElem?_reverse h]
theorem ways_right (D : List Nat) (b m over : Nat) (hb : 2 ≤ b) (hb2 : b ≤ 16) (hm : 1 ≤ m) (hm2 : m ≤ 12) (ho : D.length = m + over) (ho1 : over ≤ 1) (hDb : ∀ d ∈ D, d < b) (n : Nat) (hn : n ≤ 1000) (out : List (List Int)) (Z : List (List Int) × Bool) (r : Nat) : ∀ (j c : Nat) (S : List Nat), j + r = (m + 1) / 2 → S.length = j → c ≤ 1 →
  (∀ T c', srcSpec b c ((D.reverse.drop j).take r) (n / 2 ^ j) = some T → c' = addC b c T → Ev (fun k => spec_rvWays.l1 k (ic D) (m : Int) (b : Int) (over : Int) (((m + 1) / 2 : Nat) : Int) out (n : Int) (ic (srcMir m (S ++ T))) (c' : Int) true ((m : Int) - 1 - (((m + 1) / 2 : Nat) : Int))) Z) →
  (srcSpec b c ((D.reverse.drop j).take r) (n / 2 ^ j) = none → Ev (fun k => spec_rvWays.l0 k (ic D) (m : Int) (b : Int) (over : Int) (((m + 1) / 2 : Nat) : Int) out ((n + 1 : Nat) : Int)) Z) →
  Ev (fun k => spec_rvWays.l1 k (ic D) (m : Int) (b : Int) (over : Int) (((m + 1) / 2 : Nat) : Int) out (n : Int) (srcMid m S j) (c : Int) true ((m : Int) - 1 - (j : Int))) Z := by
 induction r with
 | zero =>
  intro j c S hj hS hc h1 _
  have hj2 : j = (m + 1) / 2 := by omega
  have h2 := h1 [] c rfl rfl
  rw [List.append_nil] at h2
  rw [hj2, srcMid_full]
  exact h2
 | succ r ih =>
  intro j c S hj hS hc h1 h2
  have hjD : j < D.reverse.length := by rw [List.length_reverse]; omega
  obtain ⟨x, ex⟩ : ∃ x, D.reverse.getD j 0 = x := ⟨_, rfl⟩
  have hxb : x < b := by rw [← ex]; exact getD_lt D.reverse (fun d h => hDb d (List.mem_reverse.1 h)) j hjD
  have hdr : (D.reverse.drop j).take (r + 1) = x :: (D.reverse.drop (j + 1)).take r := by
   rw [List.drop_eq_getElem_cons hjD, List.take_succ_cons]
   congr 1
   rw [← ex, List.getD_eq_getElem?_getD, List.getElem?_eq_getElem hjD]
   rfl
  rw [hdr, srcSpec] at h1 h2
  have hbit : n / 2 ^ j % 2 ≤ 1 := by omega
  have hpw : n / 2 ^ j / 2 = n / 2 ^ (j + 1) := by rw [Nat.div_div_eq_div_mul, Nat.pow_succ]
  rw [hpw] at h1 h2
  obtain ⟨bit, eb⟩ : ∃ q, n / 2 ^ j % 2 = q := ⟨_, rfl⟩
  rw [eb] at h1 h2 hbit
  have hbb : b * bit ≤ 16 := by
   have := Nat.mul_le_mul hb2 hbit
   omega
  have hi : (m : Int) - 1 - (j : Int) = ((m - 1 - j : Nat) : Int) := by omega
  have hix : (over : Int) + ((m - 1 - j : Nat) : Int) = ((D.length - 1 - j : Nat) : Int) := by omega
  have hDa := D_at D j (by omega)
  rw [ex] at hDa
  have hmid := srcMid_len m S j
  refine evs (fun k => by rw [spec_rvWays.l1]) ?_
  rw [hi]
  refine evp (by omega) (evs (fun k => by rw [spec_rvWays.j3]) ?_)
  have e5 : Int.tmod (shr .i64 (n : Int) (j : Int)) 2 = (bit : Int) := by rw [shr_nat n j (by omega), tmod2, eb]
  rw [we1 m hm (by omega), we2 m j (by omega) (by omega), we3 m _ (by omega) (by omega), we4 m j over D.length (by omega) (by omega) ho ho1, hDa, e5, we9 x bit b c (by omega) (by omega) (by omega), we7 b (by omega) (by omega), we8 m j (by omega) (by omega), Int.toNat_natCast, least_eq, ic_length, hmid]
  clear e5 hix hi hDa hdr
  simp only [Option.bind_some]
  rw [show min (m - 1 - j) j = j by omega]
  refine evp trivial (evp (by omega) (evp (by omega) (evp (by omega) (evp (by omega) (evp (by omega) (evp (by omega) ?_))))))
  have hy : ∀ v : Int, rd ((srcMid m S j).set (m - 1 - j) v) ((m - 1 - j : Nat) : Int) = v := fun v => by
   rw [rd_get _ _ (by rw [List.length_set]; omega)]
   simp
  rw [hy]
  refine evc (spec_l1In_eq _ _ _) ?_
  by_cases hq : c ≤ x + b * bit ∧ x + b * bit - c ≤ 2 * (b - 1)
  ·rw [if_pos hq] at h1 h2
   have hv : ((x + b * bit : Nat) : Int) - (c : Int) = ((x + b * bit - c : Nat) : Int) := by omega
   have hfit : wrap64 (Int.tdiv (wrap64 (((x + b * bit - c : Nat) : Int) + (c : Int))) (b : Int)) = (bit : Int) := by
    rw [w64o (x := ((x + b * bit - c : Nat) : Int) + (c : Int)), show ((x + b * bit - c : Nat) : Int) + (c : Int) = ((x + b * bit : Nat) : Int) by omega, tdiv_cast, Nat.add_mul_div_left _ _ (by omega), Nat.div_eq_of_lt hxb, Nat.zero_add, w64n _ (by omega)]
   have hdc : (x + b * bit - c + c) / b = bit := by rw [show x + b * bit - c + c = x + b * bit by omega, Nat.add_mul_div_left _ _ (by omega), Nat.div_eq_of_lt hxb, Nat.zero_add]
   rw [hv, hfit, Int.toNat_natCast, srcMid_set m S _ j hS (by omega)]
   clear hfit hv
   refine evp (decide_eq_true ⟨by omega, by omega⟩) (evn (by omega) (evp (by omega) (evp (by omega) ?_)))
   have hbe : ((bit : Int) == (bit : Int)) = true := by simp
   rw [hbe]
   refine ih (j + 1) bit (S ++ [x + b * bit - c]) (by omega) (by simp [hS]) hbit (fun T c' hT hc' => ?_) (fun hT => ?_)
   ·have h3 := h1 ((x + b * bit - c) :: T) c' (by rw [hT]; rfl) (by rw [hc', addC, hdc])
    rw [List.append_assoc, List.singleton_append]
    exact h3
   ·exact h2 (by rw [hT]; rfl)
  ·rw [if_neg hq] at h2
   have hz := h2 rfl
   refine evn (by simp only [decide_eq_true_eq]; intro hh; exact hq ⟨by omega, by omega⟩) (evp (by omega) (evp (by omega) ?_))
   exact ways_false D b m over _ n out _ _ _ Z hn hz
theorem mir_sym (m : Nat) (T : List Nat) (j : Nat) (h : j < m) : (srcMir m T).getD (m - 1 - j) 0 = (srcMir m T).getD j 0 := by
 rw [srcMir, getD_map_range _ _ _ (by omega), getD_map_range _ _ _ h, show min (m - 1 - j) (m - 1 - (m - 1 - j)) = min j (m - 1 - j) by omega]
theorem ways_left (D : List Nat) (b m over : Nat) (hb : 2 ≤ b) (hb2 : b ≤ 16) (hm : 1 ≤ m) (hm2 : m ≤ 12) (ho : D.length = m + over) (ho1 : over ≤ 1) (T : List Nat) (hT : ∀ s ∈ srcMir m T, s ≤ 2 * (b - 1)) (n : Nat) (hn : n ≤ 1000) (out : List (List Int)) (hout : out.length ≤ 1000) (Z : List (List Int) × Bool) (r : Nat) : ∀ (j c : Nat), j + r = m → (m + 1) / 2 ≤ j → c ≤ 1 →
  ((addP b c ((srcMir m T).drop j) = (D.reverse.drop j).take r ∧ addC b c ((srcMir m T).drop j) = over) → Ev (fun k => spec_rvWays.l0 k (ic D) (m : Int) (b : Int) (over : Int) (((m + 1) / 2 : Nat) : Int) (out ++ [ic (srcMir m T)]) ((n + 1 : Nat) : Int)) Z) →
  (¬ (addP b c ((srcMir m T).drop j) = (D.reverse.drop j).take r ∧ addC b c ((srcMir m T).drop j) = over) → Ev (fun k => spec_rvWays.l0 k (ic D) (m : Int) (b : Int) (over : Int) (((m + 1) / 2 : Nat) : Int) out ((n + 1 : Nat) : Int)) Z) →
  Ev (fun k => spec_rvWays.l1 k (ic D) (m : Int) (b : Int) (over : Int) (((m + 1) / 2 : Nat) : Int) out (n : Int) (ic (srcMir m T)) (c : Int) true ((m : Int) - 1 - (j : Int))) Z := by
 have hml := srcMir_len m T
 induction r with
 | zero =>
  intro j c hj hjh hc h1 h2
  have hd : (srcMir m T).drop j = [] := List.drop_of_length_le (by omega)
  rw [hd] at h1 h2
  simp only [addP, addC, List.take_zero, true_and] at h1 h2
  refine evs (fun k => by rw [spec_rvWays.l1]) (evn (by omega) (evs (fun k => by rw [spec_rvWays.j3]) ?_))
  rw [wsucc n (by omega)]
  refine evn (by simp) (evp rfl ?_)
  by_cases hco : c = over
  ·exact evp (by omega) (evp (by omega) (h1 hco))
  ·exact evn (by omega) (h2 hco)
 | succ r ih =>
  intro j c hj hjh hc h1 h2
  have hjD : j < D.reverse.length := by rw [List.length_reverse]; omega
  have hjM : j < (srcMir m T).length := by omega
  obtain ⟨x, ex⟩ : ∃ x, D.reverse.getD j 0 = x := ⟨_, rfl⟩
  obtain ⟨s, es⟩ : ∃ s, (srcMir m T).getD j 0 = s := ⟨_, rfl⟩
  have hs : s ≤ 2 * (b - 1) := by
   rw [← es, List.getD_eq_getElem?_getD, List.getElem?_eq_getElem hjM]
   exact hT _ (List.getElem_mem hjM)
  have hdr : (D.reverse.drop j).take (r + 1) = x :: (D.reverse.drop (j + 1)).take r := by
   rw [List.drop_eq_getElem_cons hjD, List.take_succ_cons]
   congr 1
   rw [← ex, List.getD_eq_getElem?_getD, List.getElem?_eq_getElem hjD]
   rfl
  have hdm : (srcMir m T).drop j = s :: (srcMir m T).drop (j + 1) := by
   rw [List.drop_eq_getElem_cons hjM]
   congr 1
   rw [← es, List.getD_eq_getElem?_getD, List.getElem?_eq_getElem hjM]
   rfl
  rw [hdr, hdm] at h1 h2
  simp only [addP, addC, List.cons.injEq] at h1 h2
  have hcar := carry_le hb hs hc
  have hi : (m : Int) - 1 - (j : Int) = ((m - 1 - j : Nat) : Int) := by omega
  have hix : (over : Int) + ((m - 1 - j : Nat) : Int) = ((D.length - 1 - j : Nat) : Int) := by omega
  have hDa := D_at D j (by omega)
  rw [ex] at hDa
  refine evs (fun k => by rw [spec_rvWays.l1]) ?_
  rw [hi]
  refine evp (by omega) (evs (fun k => by rw [spec_rvWays.j3]) ?_)
  have e5 : rd (ic (srcMir m T)) ((m - 1 - j : Nat) : Int) = (s : Int) := by rw [ds_rd _ _ (by omega), mir_sym m T j (by omega), es]
  rw [we1 m hm (by omega), we2 m j (by omega) (by omega), we3 m _ (by omega) (by omega), we4 m j over D.length (by omega) (by omega) ho ho1, hDa, we8 m j (by omega) (by omega), least_eq, ic_length, ic_length, hml]
  simp only [Option.bind_some]
  rw [show min (m - 1 - j) j = m - 1 - j by omega, e5, we6 s c (by omega) (by omega), tdiv_cast, tmod_cast, w64n _ (by omega)]
  clear e5 hix hi hDa hdr hdm
  refine evp trivial (evn (by omega) (evp (by omega) (evp (by omega) (evn (by omega) (evp (by omega) (evp (by omega) ?_))))))
  by_cases hf : (s + c) % b = x
  ·have hbe : ((((s + c) % b : Nat) : Int) == (x : Int)) = true := by rw [hf]; simp
   rw [hbe]
   exact ih (j + 1) ((s + c) / b) (by omega) (by omega) hcar (fun h => h1 ⟨⟨hf, h.1⟩, h.2⟩) (fun h => h2 (fun h3 => h ⟨h3.1.2, h3.2⟩))
  ·have hbe : ((((s + c) % b : Nat) : Int) == (x : Int)) = false := beq_eq_false_iff_ne.mpr (by omega)
   rw [hbe]
   exact ways_false D b m over _ n out _ _ _ Z hn (h2 (fun h3 => hf h3.1.1))
def srcLs (b m : Nat) (D : List Nat) (ns : List Nat) : List (List Nat) := (ns.filterMap (srcSpec b 0 (D.reverse.take ((m + 1) / 2)))).filter (fun T => decide (addO b 0 (srcMir m T) = D.reverse))
theorem ways_iff (D : List Nat) (b m over : Nat) (hb : 2 ≤ b) (hm : 1 ≤ m) (ho : D.length = m + over) (ho1 : over ≤ 1) (hov : over = 1 → D.reverse.drop m = [1]) (T : List Nat) (hT : T.length = (m + 1) / 2) (hTb : ∀ s ∈ T, s ≤ 2 * (b - 1)) (hTa : addP b 0 T = D.reverse.take ((m + 1) / 2)) :
  (addP b (addC b 0 T) ((srcMir m T).drop ((m + 1) / 2)) = (D.reverse.drop ((m + 1) / 2)).take (m - (m + 1) / 2) ∧ addC b (addC b 0 T) ((srcMir m T).drop ((m + 1) / 2)) = over) ↔ addO b 0 (srcMir m T) = D.reverse := by
 have hml := srcMir_len m T
 have htake : (srcMir m T).take ((m + 1) / 2) = T := by
  refine list_eq_of_getD _ _ (by rw [List.length_take]; omega) (fun i hi => ?_)
  rw [List.length_take] at hi
  rw [getD_take _ _ _ (by omega), srcMir, getD_map_range _ _ _ (by omega), show min i (m - 1 - i) = i by omega]
 have hM : srcMir m T = T ++ (srcMir m T).drop ((m + 1) / 2) := by
  have := List.take_append_drop ((m + 1) / 2) (srcMir m T)
  rw [htake] at this
  exact this.symm
 have hMb : ∀ s ∈ srcMir m T, s ≤ 2 * (b - 1) := fun s hs => by
  obtain ⟨i, hi, rfl⟩ := List.mem_map.1 hs
  have hi2 := List.mem_range.1 hi
  rw [List.getD_eq_getElem?_getD, List.getElem?_eq_getElem (by omega)]
  exact hTb _ (List.getElem_mem _)
 have hC := addC_le hb (srcMir m T) hMb 0 (by omega)
 have e1 : addP b 0 (srcMir m T) = addP b 0 T ++ addP b (addC b 0 T) ((srcMir m T).drop ((m + 1) / 2)) := by
  have := addP_append b T 0 ((srcMir m T).drop ((m + 1) / 2))
  rw [← hM] at this
  exact this
 have e2 : addC b 0 (srcMir m T) = addC b (addC b 0 T) ((srcMir m T).drop ((m + 1) / 2)) := by
  have := addC_append b T 0 ((srcMir m T).drop ((m + 1) / 2))
  rw [← hM] at this
  exact this
 have hAl : (addP b (addC b 0 T) ((srcMir m T).drop ((m + 1) / 2))).length = m - (m + 1) / 2 := by rw [addP_length, List.length_drop, hml]
 rw [addO_eq, e1, hTa]
 rw [e2] at hC ⊢
 generalize addP b (addC b 0 T) ((srcMir m T).drop ((m + 1) / 2)) = A at *
 generalize addC b (addC b 0 T) ((srcMir m T).drop ((m + 1) / 2)) = C at *
 have hR : D.reverse = D.reverse.take ((m + 1) / 2) ++ D.reverse.drop ((m + 1) / 2) := (List.take_append_drop _ _).symm
 have hR2 : D.reverse.drop ((m + 1) / 2) = (D.reverse.drop ((m + 1) / 2)).take (m - (m + 1) / 2) ++ D.reverse.drop m := by
  have := List.take_append_drop (m - (m + 1) / 2) (D.reverse.drop ((m + 1) / 2))
  rw [List.drop_drop, show (m + 1) / 2 + (m - (m + 1) / 2) = m by omega] at this
  exact this.symm
 have htl : ((D.reverse.drop ((m + 1) / 2)).take (m - (m + 1) / 2)).length = m - (m + 1) / 2 := by rw [List.length_take, List.length_drop, List.length_reverse]; omega
 have htail : (if 0 < C then [C] else []) = D.reverse.drop m ↔ C = over := by
  rcases Nat.le_one_iff_eq_zero_or_eq_one.1 ho1 with h | h
  ·have : D.reverse.drop m = [] := List.drop_of_length_le (by rw [List.length_reverse]; omega)
   rw [this, h]
   rcases Nat.le_one_iff_eq_zero_or_eq_one.1 hC with h2 | h2 <;> rw [h2] <;> simp
  ·rw [hov h, h]
   rcases Nat.le_one_iff_eq_zero_or_eq_one.1 hC with h2 | h2 <;> rw [h2] <;> simp
 constructor
 ·rintro ⟨h1, h2⟩
  rw [h1, htail.2 h2, List.append_assoc, ← hR2, ← hR]
 ·intro h
  rw [List.append_assoc] at h
  have h2 : A ++ (if 0 < C then [C] else []) = D.reverse.drop ((m + 1) / 2) := by
   have h3 := congrArg (List.drop ((m + 1) / 2)) h
   have hl : (D.reverse.take ((m + 1) / 2)).length = (m + 1) / 2 := by rw [List.length_take, List.length_reverse]; omega
   rw [List.drop_append, hl, Nat.sub_self, List.drop_zero, List.drop_of_length_le (by omega), List.nil_append] at h3
   exact h3
  rw [hR2] at h2
  obtain ⟨h3, h4⟩ := List.append_inj h2 (by rw [hAl, htl])
  exact ⟨h3, htail.1 h4⟩
theorem ways_loop (D : List Nat) (b m over : Nat) (hb : 2 ≤ b) (hb2 : b ≤ 16) (hm : 1 ≤ m) (hm2 : m ≤ 12) (ho : D.length = m + over) (ho1 : over ≤ 1) (hov : over = 1 → D.reverse.drop m = [1]) (hDb : ∀ d ∈ D, d < b) (r : Nat) : ∀ (n : Nat) (out : List (List Int)), n + r = 2 ^ ((m + 1) / 2) → out.length + r ≤ 1000 →
  Ev (fun k => spec_rvWays.l0 k (ic D) (m : Int) (b : Int) (over : Int) (((m + 1) / 2 : Nat) : Int) out (n : Int)) (out ++ (srcLs b m D (List.range' n r)).map (fun T => ic (srcMir m T)), true) := by
 have hpw : 2 ^ ((m + 1) / 2) ≤ 64 := by
  have : 2 ^ ((m + 1) / 2) ≤ 2 ^ 6 := Nat.pow_le_pow_right (by omega) (by omega)
  exact this
 have hsh : shl .i64 1 (((m + 1) / 2 : Nat) : Int) = ((2 ^ ((m + 1) / 2) : Nat) : Int) := by
  have h := shl_nat 1 ((m + 1) / 2) (by omega) (by omega)
  rw [Nat.one_mul] at h
  exact h
 have hRb : ∀ x ∈ D.reverse.take ((m + 1) / 2), x < b := fun x hx => hDb x (List.mem_reverse.1 (List.mem_of_mem_take hx))
 have hRl : (D.reverse.take ((m + 1) / 2)).length = (m + 1) / 2 := by rw [List.length_take, List.length_reverse]; omega
 induction r with
 | zero =>
  intro n out hn hl
  refine evs (fun k => by rw [spec_rvWays.l0]) ?_
  rw [hsh]
  exact evp (by omega) (evn (by omega) (evr (by simp [srcLs])))
 | succ r ih =>
  intro n out hn hl
  refine evs (fun k => by rw [spec_rvWays.l0]) ?_
  rw [hsh, we1 m hm (by omega), Int.toNat_natCast]
  refine evp (by omega) (evp (by omega) (evp (by omega) (evp (by omega) ?_)))
  have hstart := ways_right D b m over hb hb2 hm hm2 ho ho1 hDb n (by omega) out (out ++ (srcLs b m D (List.range' n (r + 1))).map (fun T => ic (srcMir m T)), true) ((m + 1) / 2) 0 0 [] (by omega) rfl (by omega)
  rw [srcMid_zero, List.drop_zero, Nat.pow_zero, Nat.div_one] at hstart
  have hlist : ∀ o : Option (List Nat), srcSpec b 0 (D.reverse.take ((m + 1) / 2)) n = o → srcLs b m D (List.range' n (r + 1)) = (match o with | none => [] | some T => if addO b 0 (srcMir m T) = D.reverse then [T] else []) ++ srcLs b m D (List.range' (n + 1) r) := by
   intro o ho
   unfold srcLs
   rw [List.range'_succ, List.filterMap_cons, ho]
   cases o with
   | none => rfl
   | some T =>
    simp only [List.filter_cons]
    by_cases h : addO b 0 (srcMir m T) = D.reverse
    ·simp [h]
    ·simp [h]
  have e0 : (m : Int) - 1 - ((0 : Nat) : Int) = ((m - 1 : Nat) : Int) := by omega
  rw [e0] at hstart
  refine hstart (fun T c' hT hc' => ?_) (fun hT => ?_)
  ·obtain ⟨t1, t2, t3⟩ := spec_add b hb _ 0 n T (by omega) hRb hT
   rw [hRl] at t1
   have hc1 : c' ≤ 1 := by rw [hc']; exact addC_le hb T t3 0 (by omega)
   have hiff := ways_iff D b m over hb hm ho ho1 hov T t1 t3 t2
   rw [List.nil_append]
   have hMb : ∀ s ∈ srcMir m T, s ≤ 2 * (b - 1) := fun s hs => by
    obtain ⟨i, hi, rfl⟩ := List.mem_map.1 hs
    have hi2 := List.mem_range.1 hi
    rw [List.getD_eq_getElem?_getD, List.getElem?_eq_getElem (by omega)]
    exact t3 _ (List.getElem_mem _)
   refine ways_left D b m over hb hb2 hm hm2 ho ho1 T hMb n (by omega) out (by omega) _ (m - (m + 1) / 2) ((m + 1) / 2) c' (by omega) (by omega) hc1 (fun h => ?_) (fun h => ?_)
   ·rw [hc'] at h
    have hok := hiff.1 h
    rw [hlist _ hT]
    simp only [hok, if_true]
    have h5 := ih (n + 1) (out ++ [ic (srcMir m T)]) (by omega) (by simp; omega)
    rw [List.append_assoc] at h5
    exact h5
   ·rw [hc'] at h
    have hok : ¬ addO b 0 (srcMir m T) = D.reverse := fun h2 => h (hiff.2 h2)
    rw [hlist _ hT]
    simp only [hok, if_false, List.nil_append]
    exact ih (n + 1) out (by omega) (by omega)
  ·rw [hlist _ hT]
   exact ih (n + 1) out (by omega) (by omega)
theorem foldl_skip {α β : Type} (f : β → α → β) (p : α → Bool) (l : List α) : ∀ z : β, (∀ a ∈ l, p a = false → ∀ z, f z a = z) → (l.filter p).foldl f z = l.foldl f z := by
 induction l with
 | nil => intro z _; rfl
 | cons a l ih =>
  intro z h
  have h2 : ∀ a ∈ l, p a = false → ∀ z, f z a = z := fun x hx => h x (by simp [hx])
  rw [List.filter_cons, List.foldl_cons]
  cases hp : p a with
  | true => simp only [if_true, List.foldl_cons]; exact ih _ h2
  | false =>
   rw [h a (by simp) hp z]
   simp only [Bool.false_eq_true, if_false]
   exact ih _ h2
theorem ways_ev (D : List Nat) (b m over : Nat) (hb : 2 ≤ b) (hb2 : b ≤ 16) (hm : 1 ≤ m) (hm2 : m ≤ 12) (ho : D.length = m + over) (ho1 : over ≤ 1) (hDb : ∀ d ∈ D, d < b) :
  ∃ (Ls : List (List Nat)) (f : Bool), Ev (fun k => spec_rvWays.f k (ic D) (m : Int) (b : Int)) (Ls.map (fun T => ic (srcMir m T)), f) ∧ (∀ T ∈ Ls, srcGood b m T ∧ addO b 0 (srcMir m T) = D.reverse) ∧ (∀ z, Ls.foldl (srcT b m D) z = (srcDfs b 0 (D.reverse.take ((m + 1) / 2))).foldl (srcT b m D) z) ∧ Ls.length ≤ 64 := by
 have hRb : ∀ x ∈ D.reverse.take ((m + 1) / 2), x < b := fun x hx => hDb x (List.mem_reverse.1 (List.mem_of_mem_take hx))
 have hRl : (D.reverse.take ((m + 1) / 2)).length = (m + 1) / 2 := by rw [List.length_take, List.length_reverse]; omega
 have hpw : 2 ^ ((m + 1) / 2) ≤ 64 := by
  have : 2 ^ ((m + 1) / 2) ≤ 2 ^ 6 := Nat.pow_le_pow_right (by omega) (by omega)
  exact this
 have hw : wrap64 ((D.length : Int) - (m : Int)) = (over : Int) := by rw [w64 (by omega) (by omega)]; omega
 have hgoodD : ∀ S ∈ srcDfs b 0 (D.reverse.take ((m + 1) / 2)), srcGood b m S := fun S hS => by
  have := (srcDfs_facts b hb _ 0 (by omega) hRb).2 S hS
  rw [hRl] at this
  exact this
 by_cases hc : over = 1 ∧ D.reverse.drop m ≠ [1]
 ·refine ⟨[], false, ?_, by simp, fun z => ?_, by simp⟩
  ·unfold spec_rvWays.f
   rw [ic_length, hw]
   refine evc (spec_l1In_eq _ _ _) (evp (decide_eq_true (by omega)) (evp (by omega) (evp (by omega) ?_)))
   have h0 := D_at D (D.length - 1) (by omega)
   rw [show D.length - 1 - (D.length - 1) = 0 by omega] at h0
   have hne : D.reverse.getD (D.length - 1) 0 ≠ 1 := by
    intro h1
    apply hc.2
    rw [List.drop_eq_getElem_cons (by rw [List.length_reverse]; omega), List.drop_of_length_le (by rw [List.length_reverse]; omega)]
    rw [show D.length - 1 = m by omega, List.getD_eq_getElem?_getD, List.getElem?_eq_getElem (by rw [List.length_reverse]; omega)] at h1
    congr 1
   have hx : (rd (ic D) 0 != 1) = true := by
    rw [show (0 : Int) = ((0 : Nat) : Int) from rfl, h0]
    exact bne_iff_ne.mpr (by omega)
   rw [hx]
   refine evs (fun k => by rw [spec_rvWays.j0]) ?_
   exact evp rfl (Ev.now _)
  ·rw [List.foldl_nil]
   have hno : ∀ S ∈ srcDfs b 0 (D.reverse.take ((m + 1) / 2)), ∀ z, srcT b m D z S = z := by
    intro S hS z
    refine if_neg (fun hok => hc.2 ?_)
    have hMb : ∀ s ∈ srcMir m S, s ≤ 2 * (b - 1) := fun s hs => by
     obtain ⟨i, hi, rfl⟩ := List.mem_map.1 hs
     have hi2 := List.mem_range.1 hi
     rw [List.getD_eq_getElem?_getD, List.getElem?_eq_getElem (by have := (hgoodD S hS).1; omega)]
     exact (hgoodD S hS).2 _ (List.getElem_mem _)
    have hC := addC_le hb (srcMir m S) hMb 0 (by omega)
    rw [← hok.2, addO_eq, List.drop_append, addP_length, srcMir_len, Nat.sub_self, List.drop_zero, List.drop_of_length_le (by rw [addP_length, srcMir_len]; omega), List.nil_append]
    have hlen := congrArg List.length hok.2
    rw [addO_eq, List.length_append, addP_length, srcMir_len, List.length_reverse] at hlen
    rcases Nat.le_one_iff_eq_zero_or_eq_one.1 hC with h2 | h2
    ·rw [h2] at hlen
     simp at hlen
     omega
    ·rw [h2]
     rfl
   generalize srcDfs b 0 (D.reverse.take ((m + 1) / 2)) = l at hno
   clear hgoodD
   induction l generalizing z with
   | nil => rfl
   | cons S l ih2 =>
    rw [List.foldl_cons, hno S (by simp) z]
    exact ih2 z (fun S' hS' => hno S' (by simp [hS']))
 ·have hov : over = 1 → D.reverse.drop m = [1] := fun h => by
   by_cases h2 : D.reverse.drop m = [1]
   ·exact h2
   ·exact absurd ⟨h, h2⟩ hc
  have hmem : ∀ T ∈ (List.range (2 ^ ((m + 1) / 2))).filterMap (srcSpec b 0 (D.reverse.take ((m + 1) / 2))), srcGood b m T := fun T hT => by
   obtain ⟨n, _, h⟩ := List.mem_filterMap.1 hT
   obtain ⟨t1, _, t3⟩ := spec_add b hb _ 0 n T (by omega) hRb h
   rw [hRl] at t1
   exact ⟨t1, t3⟩
  refine ⟨srcLs b m D (List.range (2 ^ ((m + 1) / 2))), true, ?_, fun T hT => ?_, fun z => ?_, ?_⟩
  ·have h := ways_loop D b m over hb hb2 hm hm2 ho ho1 hov hDb (2 ^ ((m + 1) / 2)) 0 [] (by omega) (by simp; omega)
   rw [List.nil_append, ← List.range_eq_range'] at h
   unfold spec_rvWays.f
   rw [ic_length, hw]
   have hj : ∀ x : Bool, x = false → Ev (fun k => spec_rvWays.j0 k (ic D) (m : Int) (b : Int) (over : Int) x) ((srcLs b m D (List.range (2 ^ ((m + 1) / 2)))).map (fun T => ic (srcMir m T)), true) := by
    intro x hx
    refine evs (fun k => by rw [spec_rvWays.j0]) ?_
    rw [wsucc m (by omega), whalf _ (by omega)]
    exact evn (by rw [hx]; simp) h
   refine evc (spec_l1In_eq _ _ _) (evp (decide_eq_true (by omega)) ?_)
   by_cases h1 : over = 1
   ·refine evp (by omega) (evp (by omega) (hj _ ?_))
    have h0 := D_at D (D.length - 1) (by omega)
    rw [show D.length - 1 - (D.length - 1) = 0 by omega] at h0
    rw [show (0 : Int) = ((0 : Nat) : Int) from rfl, h0]
    have h2 := hov h1
    have h3 : D.reverse.getD (D.length - 1) 0 = 1 := by
     rw [List.drop_eq_getElem_cons (by rw [List.length_reverse]; omega)] at h2
     injection h2 with h2 _
     rw [show D.length - 1 = m by omega, List.getD_eq_getElem?_getD, List.getElem?_eq_getElem (by rw [List.length_reverse]; omega)]
     exact h2
    rw [h3]
    rfl
   ·exact evn (by omega) (hj _ rfl)
  ·obtain ⟨h1, h2⟩ := List.mem_filter.1 hT
   exact ⟨hmem T h1, of_decide_eq_true h2⟩
  ·unfold srcLs
   rw [foldl_skip]
   ·have hp := src_perm b hb (D.reverse.take ((m + 1) / 2)) 0 (by omega) hRb
    rw [hRl] at hp
    exact hp.foldl_eq' (fun X hX Y hY w => srcT_comm b m hb hm D X Y (hmem X hX) (hmem Y hY) w) z
   ·intro T _ h w
    exact if_neg (fun hok => of_decide_eq_false h hok.2)
  ·unfold srcLs
   have h1 := List.length_filter_le (fun T => decide (addO b 0 (srcMir m T) = D.reverse)) ((List.range (2 ^ ((m + 1) / 2))).filterMap (srcSpec b 0 (D.reverse.take ((m + 1) / 2))))
   have h2 := List.length_filterMap_le (srcSpec b 0 (D.reverse.take ((m + 1) / 2))) (List.range (2 ^ ((m + 1) / 2)))
   rw [List.length_range] at h2
   omega
theorem add_facts (ds : List Nat) (b : Nat) (hb : 2 ≤ b) (h1 : 1 ≤ ds.length) (hd : ∀ d ∈ ds, d < b) : ∃ over, over ≤ 1 ∧ (addCar b ds).length = ds.length ∧ (addCar b ds).getD (ds.length - 1) 0 = over ∧ addC b 0 (sumsL ds) = over ∧ (addSum b ds).length = ds.length + over ∧ (∀ x ∈ addCar b ds, x ≤ 1) ∧
  addSum b ds = (if 0 < over then [over] else []) ++ (addP b 0 (sumsL ds)).reverse := by
 have hS := sumsL_le hb ds hd
 have hl := sumsL_length ds
 have hc := addC_le hb (sumsL ds) hS 0 (by omega)
 have hlast := addK_last b (sumsL ds) 0 (by intro h; rw [h] at hl; simp at hl; omega)
 rw [hl] at hlast
 have hsum : addSum b ds = (if 0 < addC b 0 (sumsL ds) then [addC b 0 (sumsL ds)] else []) ++ (addP b 0 (sumsL ds)).reverse := by
  unfold addSum
  rw [addO_eq, List.reverse_append]
  congr 1
  split <;> rfl
 refine ⟨addC b 0 (sumsL ds), hc, by unfold addCar; rw [addK_length, hl], hlast, rfl, ?_, addK_le hb _ hS 0 (by omega), hsum⟩
 rw [hsum, List.length_append, List.length_reverse, addP_length, hl]
 split
 ·simp only [List.length_cons, List.length_nil]; omega
 ·simp only [List.length_nil]; omega
theorem getD_rev (x : List Nat) (i : Nat) (h : i < x.length) : x.reverse.getD i 0 = x.getD (x.length - 1 - i) 0 := by
 simp only [List.getD_eq_getElem?_getD]
 rw [List.getElem?_reverse h]
theorem sum_good (ds : List Nat) (b : Nat) (hb : 2 ≤ b) (hb2 : b ≤ 16) (h1 : 1 ≤ ds.length) (hd : ∀ d ∈ ds, d < b) (h0 : 0 < ds.getD 0 0 ∨ ds.length = 1) (h40 : (addSum b ds).length ≤ 40) : gd (ic (addSum b ds)) (b : Int) = true := by
 obtain ⟨over, o1, o2, o3, o4, o5, o6, o7⟩ := add_facts ds b hb h1 hd
 have hP := addP_lt hb (sumsL ds) 0
 have hPl : (addP b 0 (sumsL ds)).length = ds.length := by rw [addP_length, sumsL_length]
 refine gd_of _ b hb hb2 (by omega) h40 (fun d h => ?_) ?_
 ·rw [o7] at h
  rcases List.mem_append.1 h with h | h
  ·split at h
   ·rw [List.mem_singleton.1 h]; omega
   ·simp at h
  ·exact hP d (List.mem_reverse.1 h)
 ·by_cases hov : 0 < over
  ·left
   rw [o7, if_pos hov]
   simpa using hov
  ·rcases h0 with h0 | h0
   ·left
    rw [o7, if_neg hov, List.nil_append, getD_rev _ _ (by omega), hPl]
    have ha := add_at b (sumsL ds) 0 (ds.length - 1) (by rw [sumsL_length]; omega)
    have hs := sumsL_at ds (ds.length - 1) (by omega)
    rw [show ds.length - 1 - (ds.length - 1) = 0 by omega] at hs
    have hk : (addK b 0 (sumsL ds)).getD (ds.length - 1) 0 = 0 := by
     have : (addCar b ds).getD (ds.length - 1) 0 = 0 := by omega
     exact this
    rw [hk, Nat.mul_zero] at ha
    rw [show ds.length - 1 - 0 = ds.length - 1 by omega]
    omega
   ·right
    omega
theorem srcT_add (b m : Nat) (D S : List Nat) (c : Nat) (z : Nat × List Nat) : srcT b m D (c + z.1, z.2) S = (c + (srcT b m D z S).1, (srcT b m D z S).2) := by
 unfold srcT
 by_cases h : srcOk b m D S
 ·rw [if_pos h, if_pos h]
  exact Prod.ext (by simp only; omega) rfl
 ·rw [if_neg h, if_neg h]
theorem fold_add (b m : Nat) (D : List Nat) (l : List (List Nat)) : ∀ (c : Nat) (z : Nat × List Nat), l.foldl (srcT b m D) (c + z.1, z.2) = (c + (l.foldl (srcT b m D) z).1, (l.foldl (srcT b m D) z).2) := by
 induction l with
 | nil => intro c z; rfl
 | cons S l ih =>
  intro c z
  rw [List.foldl_cons, List.foldl_cons, srcT_add]
  exact ih c _
theorem srcT_cnt (b m : Nat) (D T : List Nat) (hT : addO b 0 (srcMir m T) = D.reverse) (z : Nat × List Nat) : (srcT b m D z T).1 = z.1 + srcCnt b m 0 T ∧ (srcCnt b m 0 T = 0 → srcT b m D z T = z) ∧ (srcCnt b m 0 T ≠ 0 → (srcT b m D z T).2 = if z.2 = [] ∨ val b 0 (srcFst b m T) < val b 0 z.2 then srcFst b m T else z.2) := by
 unfold srcT
 by_cases h : srcCnt b m 0 T = 0
 ·rw [if_neg (fun hh => hh.1 h)]
  exact ⟨by omega, fun _ => rfl, fun h2 => absurd h h2⟩
 ·rw [if_pos ⟨h, hT⟩]
  exact ⟨rfl, fun h2 => absurd h2 h, fun _ => rfl⟩
theorem cnt_le (b m : Nat) (hb : 2 ≤ b) (hb2 : b ≤ 16) (hm2 : m ≤ 12) (S : List Nat) (hS : srcGood b m S) : srcCnt b m 0 S ≤ 16777216 := by
 have h1 := srcCnt_le b m hb S 0
 have h2 := pow16 b S.length 6 hb2 (by have := hS.1; omega)
 have e7 : (16 : Nat) ^ 6 = 16777216 := by decide
 omega
theorem rdL_mid (m : Nat) (pre post : List (List Nat)) (T : List Nat) : rd_L2 ((pre ++ T :: post).map (fun T => ic (srcMir m T))) (pre.length : Int) = ic (srcMir m T) := by
 unfold rd_L2
 rw [Int.toNat_natCast]
 simp [List.getD_eq_getElem?_getD]
theorem cs_l1 (D : List Nat) (b m : Nat) (hb : 2 ≤ b) (hb2 : b ≤ 16) (hm : 1 ≤ m) (hm2 : m ≤ 12) (Z : Int × Bool) (post : List (List Nat)) : ∀ (pre : List (List Nat)) (z : Nat × List Nat), (∀ T ∈ post, srcGood b m T ∧ addO b 0 (srcMir m T) = D.reverse) → (pre ++ post).length ≤ 1000 → z.1 + post.length * 16777216 ≤ 1000000000000 →
  Ev (fun k => spec_CountSources.l0 k (ic D) (b : Int) (((post.foldl (srcT b m D) z).1 : Nat) : Int) ((m + 1 : Nat) : Int)) Z →
  Ev (fun k => spec_CountSources.l1 k (ic D) (b : Int) (z.1 : Int) (m : Int) ((pre ++ post).map (fun T => ic (srcMir m T))) ((pre ++ post).length : Int) (pre.length : Int)) Z := by
 induction post with
 | nil =>
  intro pre z _ hl hz h
  refine evs (fun k => by rw [spec_CountSources.l1]) ?_
  rw [wsucc m (by omega)]
  exact evn (by simp) h
 | cons T post ih =>
  intro pre z hp hl hz h
  have hT := hp T (by simp)
  have hcb := cnt_le b m hb hb2 hm2 T hT.1
  have hlen : (pre ++ T :: post).length = pre.length + (post.length + 1) := by simp
  rw [List.length_cons] at hz
  rw [hlen] at hl
  have hstep := srcT_cnt b m D T hT.2 z
  have e1 : pre ++ T :: post = (pre ++ [T]) ++ post := by simp
  have h2 := ih (pre ++ [T]) (srcT b m D z T) (fun S hS => hp S (by simp [hS])) (by rw [← e1, hlen]; omega) (by rw [hstep.1]; omega) h
  rw [← e1, hstep.1, show (pre ++ [T]).length = pre.length + 1 by simp] at h2
  refine evs (fun k => by rw [spec_CountSources.l1]) ?_
  rw [List.length_map, rdL_mid, wsucc pre.length (by omega)]
  refine evp (by omega) (evp (by omega) (evp (by omega) (evb (count_ev b m hb hb2 hm hm2 T hT.1) ?_)))
  rw [show wrap64 ((z.1 : Int) + ((srcCnt b m 0 T : Nat) : Int)) = ((z.1 + srcCnt b m 0 T : Nat) : Int) from by rw [w64 (by omega) (by omega)]; omega]
  exact h2
theorem fs_l1 (D : List Nat) (b m : Nat) (hb : 2 ≤ b) (hb2 : b ≤ 16) (hm : 1 ≤ m) (hm2 : m ≤ 12) (Z : List Int × Bool) (post : List (List Nat)) : ∀ (pre : List (List Nat)) (z : Nat × List Nat), (∀ T ∈ post, srcGood b m T ∧ addO b 0 (srcMir m T) = D.reverse) → (pre ++ post).length ≤ 1000 → srcInv b m z →
  ((post.foldl (srcT b m D) z).2 ≠ [] → Z = (ic (post.foldl (srcT b m D) z).2, true)) → ((post.foldl (srcT b m D) z).2 = [] → Ev (fun k => spec_FirstSource.l0 k (ic D) (b : Int) ((m + 1 : Nat) : Int)) Z) →
  Ev (fun k => spec_FirstSource.l1 k (ic D) (b : Int) (m : Int) (ic z.2) ((pre ++ post).map (fun T => ic (srcMir m T))) ((pre ++ post).length : Int) (pre.length : Int)) Z := by
 induction post with
 | nil =>
  intro pre z _ hl hz h1 h2
  simp only [List.foldl_nil] at h1 h2
  refine evs (fun k => by rw [spec_FirstSource.l1]) ?_
  rw [wsucc m (by omega), ic_length]
  refine evn (by simp) ?_
  by_cases hF : z.2 = []
  ·exact evn (by rw [hF]; simp) (h2 hF)
  ·have hp := List.length_pos_iff.2 hF
   exact evp (by omega) (evr (h1 hF).symm)
 | cons T post ih =>
  intro pre z hp hl hz h1 h2
  have hT := hp T (by simp)
  have hlen : (pre ++ T :: post).length = pre.length + (post.length + 1) := by simp
  rw [hlen] at hl
  have hstep := srcT_cnt b m D T hT.2 z
  have e1 : pre ++ T :: post = (pre ++ [T]) ++ post := by simp
  have hinv := (srcInv_fold b m hb hm D [T] (fun S hS => by rw [List.mem_singleton.1 hS]; exact hT.1) z hz).1
  have h3 := ih (pre ++ [T]) (srcT b m D z T) (fun S hS => hp S (by simp [hS])) (by rw [← e1, hlen]; omega) hinv h1 h2
  rw [← e1, show (pre ++ [T]).length = pre.length + 1 by simp] at h3
  refine evs (fun k => by rw [spec_FirstSource.l1]) ?_
  rw [List.length_map, rdL_mid, wsucc pre.length (by omega), ic_length]
  refine evp (by omega) (evp (by omega) (evp (by omega) (evb (count_ev b m hb hb2 hm hm2 T hT.1) ?_)))
  by_cases hc : srcCnt b m 0 T = 0
  ·rw [hstep.2.1 hc] at h3
   exact evp (by omega) h3
  ·have hs2 := hstep.2.2 hc
   rw [hs2] at h3
   refine evn (by omega) (evb (first_ev b m hb hb2 hm hm2 T hT.1 hc) ?_)
   have hl2 := srcFst_len b m T
   have hf2 := (srcFst_facts b m hb T hT.1.2 hT.1.1 hc).2.1
   by_cases hF : z.2 = []
   ·rw [if_pos (Or.inl hF)] at h3
    exact evp (by rw [hF]; rfl) h3
   ·have hp2 := List.length_pos_iff.2 hF
    have hF2 := hz.2.resolve_left hF
    refine evn (by omega) (evb (spec_rvLess_less b (srcFst b m T) z.2 (by rw [hF2.1, hl2]) (by omega) hf2 hF2.2) ?_)
    by_cases hlt : val b 0 (srcFst b m T) < val b 0 z.2
    ·rw [if_pos (Or.inr hlt)] at h3
     exact evp (decide_eq_true hlt) h3
    ·have hno : ¬ (z.2 = [] ∨ val b 0 (srcFst b m T) < val b 0 z.2) := fun h => h.elim hF hlt
     rw [if_neg hno] at h3
     exact evn (by rw [decide_eq_true_eq]; exact hlt) h3
theorem srcAll_inv (b m : Nat) (hb : 2 ≤ b) (hb2 : b ≤ 16) (hm2 : m ≤ 12) (D : List Nat) (hDm : m ≤ D.length) (hDb : ∀ d ∈ D, d < b) : srcInv b m (srcAll b m D) ∧ (srcAll b m D).1 ≤ 1073741824 ∧ ((srcAll b m D).2 = [] ∨ ∃ S, srcGood b m S ∧ srcOk b m D S ∧ 1 ≤ m ∧ (srcAll b m D).2 = srcFst b m S) ∧ (1 ≤ m → ∀ S ∈ srcDfs b 0 (D.reverse.take ((m + 1) / 2)), srcOk b m D S → (srcAll b m D).2 ≠ [] ∧ val b 0 (srcAll b m D).2 ≤ val b 0 (srcFst b m S)) := by
 unfold srcAll
 by_cases h : m = 0
 ·rw [if_pos h]
  exact ⟨⟨by simp, Or.inl rfl⟩, by simp, Or.inl rfl, fun h2 => by omega⟩
 ·rw [if_neg h]
  have hRb : ∀ x ∈ D.reverse.take ((m + 1) / 2), x < b := fun x hx => hDb x (List.mem_reverse.1 (List.mem_of_mem_take hx))
  have hRl : (D.reverse.take ((m + 1) / 2)).length = (m + 1) / 2 := by rw [List.length_take, List.length_reverse]; omega
  obtain ⟨d1, d2⟩ := srcDfs_facts b hb _ 0 (by omega) hRb
  rw [hRl] at d1 d2
  have hgood : ∀ S ∈ srcDfs b 0 (D.reverse.take ((m + 1) / 2)), srcGood b m S := fun S hS => d2 S hS
  have h0 : srcInv b m (0, []) := ⟨by simp, Or.inl rfl⟩
  obtain ⟨i1, i2⟩ := srcInv_fold b m hb (by omega) D _ hgood (0, []) h0
  obtain ⟨_, f2, _, f4, _⟩ := srcT_fold b m (by omega) D (b ^ ((m + 1) / 2)) _ (0, []) h0.1 (fun S hS => by have := srcCnt_le b m hb S 0; rw [(hgood S hS).1] at this; exact this)
  refine ⟨i1, ?_, ?_, fun _ => f4⟩
  ·have h6 := pow16 b ((m + 1) / 2) 6 hb2 (by omega)
   have e6 : (16 : Nat) ^ 6 = 16777216 := by decide
   have h7 : 2 ^ ((m + 1) / 2) ≤ 2 ^ 6 := Nat.pow_le_pow_right (by omega) (by omega)
   have e7 : (2 : Nat) ^ 6 = 64 := by decide
   have h8 := Nat.mul_le_mul (Nat.le_trans d1 h7) h6
   rw [e6, e7] at h8
   unfold srcOut
   simp only [Nat.zero_add] at i2
   exact Nat.le_trans i2 h8
  ·rcases f2 with f2 | ⟨S, hS, ok, f2⟩
   ·exact Or.inl f2
   ·exact Or.inr ⟨S, hgood S hS, ok, by omega, f2⟩
theorem cs_l0 (D : List Nat) (b m over c : Nat) (hb : 2 ≤ b) (hb2 : b ≤ 16) (hm2 : m ≤ 12) (ho : D.length = m + over) (ho1 : over ≤ 1) (hDb : ∀ d ∈ D, d < b) (hc : c ≤ 10000000000) (Z : Int × Bool) (h : Ev (fun k => spec_CountSources.l0 k (ic D) (b : Int) ((c + (srcAll b m D).1 : Nat) : Int) ((m + 1 : Nat) : Int)) Z) :
  Ev (fun k => spec_CountSources.l0 k (ic D) (b : Int) (c : Int) (m : Int)) Z := by
 refine evs (fun k => by rw [spec_CountSources.l0]) ?_
 rw [ic_length]
 refine evp (by omega) ?_
 by_cases hm : m = 0
 ·have e : srcAll b m D = (0, []) := if_pos hm
  rw [e] at h
  rw [wsucc m (by omega)]
  exact evp (by omega) h
 ·obtain ⟨Ls, f, w1, w2, w3, w4⟩ := ways_ev D b m over hb hb2 (by omega) hm2 ho ho1 hDb
  refine evn (by omega) (evb w1 ?_)
  have e : srcAll b m D = Ls.foldl (srcT b m D) (0, []) := by rw [w3]; exact if_neg hm
  have hfa := fold_add b m D Ls c (0, [])
  simp only [Nat.add_zero] at hfa
  have h2 := cs_l1 D b m hb hb2 (by omega) hm2 Z Ls [] (c, []) w2 (by simpa using (by omega : Ls.length ≤ 1000)) (by simp only; omega) (by rw [hfa, ← e]; exact h)
  simp only [List.nil_append, List.length_nil] at h2
  rw [List.length_map]
  exact h2
theorem fs_l0 (D : List Nat) (b m over : Nat) (hb : 2 ≤ b) (hb2 : b ≤ 16) (hm2 : m ≤ 12) (ho : D.length = m + over) (ho1 : over ≤ 1) (hDb : ∀ d ∈ D, d < b) (Z : List Int × Bool) (h1 : (srcAll b m D).2 ≠ [] → Z = (ic (srcAll b m D).2, true)) (h2 : (srcAll b m D).2 = [] → Ev (fun k => spec_FirstSource.l0 k (ic D) (b : Int) ((m + 1 : Nat) : Int)) Z) :
  Ev (fun k => spec_FirstSource.l0 k (ic D) (b : Int) (m : Int)) Z := by
 refine evs (fun k => by rw [spec_FirstSource.l0]) ?_
 rw [ic_length]
 refine evp (by omega) ?_
 by_cases hm : m = 0
 ·have e : srcAll b m D = (0, []) := if_pos hm
  rw [e] at h2
  rw [wsucc m (by omega)]
  exact evp (by omega) (h2 rfl)
 ·obtain ⟨Ls, f, w1, w2, w3, w4⟩ := ways_ev D b m over hb hb2 (by omega) hm2 ho ho1 hDb
  refine evn (by omega) (evb w1 ?_)
  have e : srcAll b m D = Ls.foldl (srcT b m D) (0, []) := by rw [w3]; exact if_neg hm
  rw [e] at h1 h2
  have h3 := fs_l1 D b m hb hb2 (by omega) hm2 Z Ls [] (0, []) w2 (by simpa using (by omega : Ls.length ≤ 1000)) ⟨by simp, Or.inl rfl⟩ h1 h2
  simp only [List.nil_append, List.length_nil] at h3
  rw [List.length_map]
  exact h3
def srcNum (b : Nat) (D : List Nat) : Nat := (srcAll b (D.length - 1) D).1 + (srcAll b D.length D).1
def srcOne (b : Nat) (D : List Nat) : List Nat := if (srcAll b (D.length - 1) D).2 = [] then (srcAll b D.length D).2 else (srcAll b (D.length - 1) D).2
theorem isSourced_eq (l : List Int) (b : Int) : impl_isSourced.f l b = some (gd l b && decide (l.length ≤ 12)) := by
 unfold impl_isSourced.f
 rw [impl_isLong_eq, Option.bind_some]
 cases gd l b with
 | true => simp; omega
 | false => simp
theorem rvAsked_ev (l : List Int) (b : Int) (hl : l.length ≤ 1000000000) : Ev (fun k => spec_rvAsked.f k l b) (gd l b && decide (l.length ≤ 12)) := by
 unfold spec_rvAsked.f
 refine evb (spec_rvGood_ev l b hl) ?_
 cases gd l b with
 | true => exact evp rfl (evr (by simp; omega))
 | false => exact evn (by simp) (evr (by simp))
theorem sources_no (l : List Int) (b : Int) (hl : l.length ≤ 1000000000) (h : (gd l b && decide (l.length ≤ 12)) = false) : (Ev (fun k => impl_CountSources.f k l b) (0, false) ∧ Ev (fun k => spec_CountSources.f k l b) (0, false)) ∧ (Ev (fun k => impl_FirstSource.f k l b) ([], false) ∧ Ev (fun k => spec_FirstSource.f k l b) ([], false)) := by
 have e1 := isSourced_eq l b
 have e2 := rvAsked_ev l b hl
 rw [h] at e1 e2
 exact ⟨⟨evc e1 (evn (by simp) (Ev.now _)), evb e2 (evn (by simp) (Ev.now _))⟩, ⟨evc e1 (evn (by simp) (Ev.now _)), evb e2 (evn (by simp) (Ev.now _))⟩⟩
theorem sources_yes (D : List Nat) (b : Nat) (hb : 2 ≤ b) (hb2 : b ≤ 16) (h1 : 1 ≤ D.length) (h12 : D.length ≤ 12) (hDb : ∀ d ∈ D, d < b) (hg : gd (ic D) (b : Int) = true) :
  (Ev (fun k => impl_CountSources.f k (ic D) (b : Int)) ((srcNum b D : Int), true) ∧ Ev (fun k => spec_CountSources.f k (ic D) (b : Int)) ((srcNum b D : Int), true)) ∧ (Ev (fun k => impl_FirstSource.f k (ic D) (b : Int)) (ic (srcOne b D), decide (srcOne b D ≠ [])) ∧ Ev (fun k => spec_FirstSource.f k (ic D) (b : Int)) (ic (srcOne b D), decide (srcOne b D ≠ []))) := by
 have e1 := isSourced_eq (ic D) b
 have e2 := rvAsked_ev (ic D) b (by rw [ic_length]; omega)
 rw [hg, ic_length, decide_eq_true h12] at e1 e2
 have i1 := impl_src_ev b (D.length - 1) hb hb2 (by omega) D h12 (by omega) hDb
 have i2 := impl_src_ev b D.length hb hb2 h12 D h12 (by omega) hDb
 obtain ⟨v1, b1, _, _⟩ := srcAll_inv b (D.length - 1) hb hb2 (by omega) D (by omega) hDb
 obtain ⟨v2, b2, _, _⟩ := srcAll_inv b D.length hb hb2 h12 D (by omega) hDb
 refine ⟨⟨?_, ?_⟩, ?_, ?_⟩
 ·unfold impl_CountSources.f
  rw [ic_length, we1 D.length h1 (by omega)]
  refine evc e1 (evp rfl (evb i1 (evb i2 (evr ?_))))
  unfold srcNum
  simp only
  rw [w64 (by omega) (by omega)]
  exact Prod.ext (by simp only; omega) rfl
 ·unfold spec_CountSources.f
  rw [ic_length, we1 D.length h1 (by omega)]
  refine evb e2 (evp rfl ?_)
  refine cs_l0 D b (D.length - 1) 1 0 hb hb2 (by omega) (by omega) (by omega) hDb (by omega) _ ?_
  rw [show D.length - 1 + 1 = D.length by omega]
  refine cs_l0 D b D.length 0 _ hb hb2 h12 (by omega) (by omega) hDb (by omega) _ ?_
  refine evs (fun k => by rw [spec_CountSources.l0]) ?_
  rw [ic_length]
  refine evn (by omega) (evr ?_)
  unfold srcNum
  rw [Nat.zero_add]
 ·unfold impl_FirstSource.f srcOne
  rw [ic_length, we1 D.length h1 (by omega)]
  refine evc e1 (evp rfl (evb i1 ?_))
  by_cases hF : (srcAll b (D.length - 1) D).2 = []
  ·rw [if_pos hF]
   refine evp (by rw [hF]; rfl) (evb i2 (evr ?_))
   refine Prod.ext rfl ?_
   simp only
   by_cases h2 : (srcAll b D.length D).2 = []
   ·rw [decide_eq_false (fun h => h (by rw [h2]; rfl)), decide_eq_false (fun h => h h2)]
   ·rw [decide_eq_true (show ic (srcAll b D.length D).2 ≠ [] from fun h => h2 (List.map_eq_nil_iff.1 h)), decide_eq_true h2]
  ·rw [if_neg hF, decide_eq_true hF]
   exact evn (fun h => hF (List.map_eq_nil_iff.1 h)) (Ev.now _)
 ·unfold spec_FirstSource.f
  rw [ic_length, we1 D.length h1 (by omega)]
  refine evb e2 (evp rfl ?_)
  refine fs_l0 D b (D.length - 1) 1 hb hb2 (by omega) (by omega) (by omega) hDb _ (fun h => ?_) (fun h => ?_)
  ·unfold srcOne
   rw [if_neg h, decide_eq_true h]
  ·rw [show D.length - 1 + 1 = D.length by omega]
   have e : srcOne b D = (srcAll b D.length D).2 := if_pos h
   rw [e]
   refine fs_l0 D b D.length 0 hb hb2 h12 (by omega) (by omega) hDb _ (fun h => ?_) (fun h => ?_)
   ·rw [decide_eq_true h]
   ·refine evs (fun k => by rw [spec_FirstSource.l0]) ?_
    rw [ic_length]
    refine evn (by omega) (evr ?_)
    rw [h]
    rfl
theorem srcOne_facts (D : List Nat) (b : Nat) (hb : 2 ≤ b) (hb2 : b ≤ 16) (h1 : 1 ≤ D.length) (h12 : D.length ≤ 12) (hDb : ∀ d ∈ D, d < b) : (srcOne b D ≠ [] ↔ 0 < srcNum b D) ∧ srcNum b D ≤ 10000000000 ∧ (srcOne b D ≠ [] → 1 ≤ (srcOne b D).length ∧ (srcOne b D).length ≤ 12 ∧ (∀ d ∈ srcOne b D, d < b) ∧ 0 < (srcOne b D).getD 0 0 ∧ addSum b (srcOne b D) = D) := by
 obtain ⟨v1, b1, o1, _⟩ := srcAll_inv b (D.length - 1) hb hb2 (by omega) D (by omega) hDb
 obtain ⟨v2, b2, o2, _⟩ := srcAll_inv b D.length hb hb2 h12 D (by omega) hDb
 have key : ∀ m, m ≤ 12 → ((srcAll b m D).2 = [] ∨ ∃ S, srcGood b m S ∧ srcOk b m D S ∧ 1 ≤ m ∧ (srcAll b m D).2 = srcFst b m S) → (srcAll b m D).2 ≠ [] → 1 ≤ (srcAll b m D).2.length ∧ (srcAll b m D).2.length ≤ 12 ∧ (∀ d ∈ (srcAll b m D).2, d < b) ∧ 0 < (srcAll b m D).2.getD 0 0 ∧ addSum b (srcAll b m D).2 = D := by
  intro m hm2 ho hne
  rcases ho with h | ⟨S, hS, ok, hm, e⟩
  ·exact absurd h hne
  ·rw [e]
   obtain ⟨f1, f2, f3⟩ := srcFst_facts b m hb S hS.2 hS.1 ok.1
   refine ⟨by rw [srcFst_len]; omega, by rw [srcFst_len]; omega, f2, f3 hm, ?_⟩
   unfold addSum
   rw [f1, ok.2, List.reverse_reverse]
 unfold srcOne srcNum
 by_cases h : (srcAll b (D.length - 1) D).2 = []
 ·rw [if_pos h]
  have hz := v1.1.1 h
  refine ⟨⟨fun h2 => ?_, fun h2 h3 => ?_⟩, by omega, key D.length h12 o2⟩
  ·have : (srcAll b D.length D).1 ≠ 0 := fun h3 => h2 (v2.1.2 h3)
   omega
  ·have := v2.1.1 h3
   omega
 ·rw [if_neg h]
  refine ⟨⟨fun h2 => ?_, fun _ => h⟩, by omega, key (D.length - 1) (by omega) o1⟩
  have : (srcAll b (D.length - 1) D).1 ≠ 0 := fun h3 => h (v1.1.2 h3)
  omega
theorem srcOne_own (ds : List Nat) (b : Nat) (hb : 2 ≤ b) (hb2 : b ≤ 16) (h1 : 1 ≤ ds.length) (hd : ∀ d ∈ ds, d < b) (h0 : 0 < ds.getD 0 0) (D : List Nat) (hD : D = addSum b ds) (h12 : D.length ≤ 12) (hDb : ∀ d ∈ D, d < b) :
  srcOne b D ≠ [] ∧ ((srcOne b D).length < ds.length ∨ (srcOne b D).length = ds.length ∧ val b 0 (srcOne b D) ≤ val b 0 ds) := by
 obtain ⟨over, p1, _, _, _, p5, _, _⟩ := add_facts ds b hb h1 hd
 rw [← hD] at p5
 obtain ⟨m1, m2, m3⟩ := src_own b hb ds D h1 hd h0 hD
 obtain ⟨v1, b1, _, q1⟩ := srcAll_inv b (D.length - 1) hb hb2 (by omega) D (by omega) hDb
 obtain ⟨v2, b2, _, q2⟩ := srcAll_inv b D.length hb hb2 h12 D (by omega) hDb
 unfold srcOne
 rcases Nat.le_one_iff_eq_zero_or_eq_one.1 p1 with h | h
 ·have hl : D.length = ds.length := by omega
  rw [hl] at q2 v2 ⊢
  obtain ⟨n1, n2⟩ := q2 h1 _ m1 m2
  by_cases hF : (srcAll b (ds.length - 1) D).2 = []
  ·rw [if_pos hF]
   exact ⟨n1, Or.inr ⟨(v2.2.resolve_left n1).1, by omega⟩⟩
  ·rw [if_neg hF]
   rw [hl] at v1
   refine ⟨hF, Or.inl ?_⟩
   have := (v1.2.resolve_left hF).1
   have := List.length_pos_iff.2 hF
   omega
 ·have hl : D.length - 1 = ds.length := by omega
  rw [hl] at q1 v1 ⊢
  obtain ⟨n1, n2⟩ := q1 h1 _ m1 m2
  rw [if_neg n1]
  exact ⟨n1, Or.inr ⟨(v1.2.resolve_left n1).1, by omega⟩⟩
theorem addRev_ev (ds : List Nat) (b : Nat) (hb : 2 ≤ b) (hb2 : b ≤ 16) (h2 : ds.length ≤ 40) (hd : ∀ d ∈ ds, d < b) (hg : gd (ic ds) (b : Int) = true) : Ev (fun k => impl_AddReversed.f k (ic ds) (b : Int)) (if (addSum b ds).length ≤ 40 then (ic (addSum b ds), true) else ([], false)) := by
 unfold impl_AddReversed.f
 refine evc (impl_isLong_eq _ _) (evp hg (evb (summed_ev ds b hb hb2 h2 hd) ?_))
 by_cases h : (addSum b ds).length ≤ 40
 ·rw [if_pos h]
  exact evn (by simp only [ic_length]; omega) (Ev.now _)
 ·rw [if_neg h]
  exact evp (by simp only [ic_length]; omega) (Ev.now _)
theorem j2_true (L : List Int) (b : Int) (S : List Int) : Ev (fun k => laws_FnSourcesOfSums.j2 k L b S true) true := by
 refine evs (fun k => by rw [laws_FnSourcesOfSums.j2]) ?_
 exact evp rfl (Ev.now _)
theorem j1_ok (l : List Int) (hl : Bs l) : Ev (fun k => laws_FnSourcesOfSums.j1 k l) true := by
 obtain ⟨L, b, p, s, e, hL, _⟩ := digits_ok l hl 0 0 9 (by omega) (by omega) (by omega)
 refine evs (fun k => by rw [laws_FnSourcesOfSums.j1]) ?_
 refine evb (a := (L, b)) (evb e (Ev.now _)) ?_
 by_cases hg : gd L b = true
 ·obtain ⟨ds, B, rfl, rfl, g1, g2, g3, g4, g5, g6⟩ := gd_nat hg
  have ha := addRev_ev ds B g1 g2 g4 g5 hg
  by_cases h40 : (addSum B ds).length ≤ 40
  ·rw [if_pos h40] at ha
   refine evb ha (evp rfl ?_)
   simp only [ic_length]
   by_cases h12 : (addSum B ds).length > 12
   ·exact evp (by omega) (j2_true _ _ _)
   ·have hrd := ds_rd ds 0 (by omega)
    refine evn (by omega) (evp (by omega) ?_)
    rw [show (0 : Int) = ((0 : Nat) : Int) from rfl, hrd]
    by_cases h0 : ds.getD 0 0 = 0
    ·have hx : ((ds.getD 0 0 : Nat) : Int) == ((0 : Nat) : Int) := by rw [h0]; rfl
     rw [hx]
     exact j2_true _ _ _
    ·have hx : (((ds.getD 0 0 : Nat) : Int) == ((0 : Nat) : Int)) = false := beq_eq_false_iff_ne.mpr (by omega)
     rw [hx]
     have hgs := sum_good ds B g1 g2 g3 g5 g6 h40
     obtain ⟨D, hD⟩ : ∃ D, D = addSum B ds := ⟨_, rfl⟩
     rw [← hD] at hgs h12 ⊢
     obtain ⟨D', B', hD', hB', _, _, s3, _, s5, _⟩ := gd_nat hgs
     have hDD := ic_inj hD'
     have hBB : B = B' := by omega
     rw [← hDD] at s3
     rw [← hDD, ← hBB] at s5
     obtain ⟨⟨y1, _⟩, y3, _⟩ := sources_yes D B g1 g2 s3 (by omega) s5 hgs
     obtain ⟨o1, o2⟩ := srcOne_own ds B g1 g2 g3 g5 (by omega) D hD (by omega) s5
     obtain ⟨f1, f2, f3⟩ := srcOne_facts D B g1 g2 s3 (by omega) s5
     have hpos := f1.1 o1
     obtain ⟨_, _, f6, _, _⟩ := f3 o1
     refine evs (fun k => by rw [laws_FnSourcesOfSums.j2]) ?_
     refine evn (by simp) (evb y1 (evb y3 (evp rfl (evp (by simp only; omega) (evp (decide_eq_true o1) ?_)))))
     simp only [ic_length]
     rcases o2 with o2 | ⟨o2, o3⟩
     ·exact evp (by omega) (Ev.now _)
     ·refine evn (by omega) (evp (by omega) (evb (laws_qLess_less B ds (srcOne B D) o2 (by omega) g5 f6) (evr ?_)))
      rw [decide_eq_false (by omega)]
      rfl
  ·rw [if_neg h40] at ha
   exact evb ha (evn (by simp) (j2_true _ _ _))
 ·exact evb (a := ([], false)) (evc (impl_isLong_eq _ _) (evn hg (Ev.now _))) (evn (by simp) (j2_true _ _ _))
theorem FnSourcesOfSums : laws_FnSourcesOfSums.Pure := by
 intro l0 l1 _ _ w0 _ _ w1
 have hb : ∀ l : List Int, (∀ x ∈ l, (Lit.int .u8 x).wf = true) → ∀ x ∈ l, 0 ≤ x ∧ x ≤ 255 := by
  intro l h x hx
  have := h x hx
  simpa [Lit.wf, IntKind.min, IntKind.max, IntKind.signed, IntKind.bits] using this
 have hl0 := hb l0 w0
 have hl1 := hb l1 w1
 refine Ev.rounds (g := fun k => laws_FnSourcesOfSums.f k l0 l1) ?_
 unfold laws_FnSourcesOfSums.f
 obtain ⟨t, ht⟩ : ∃ t, laws_big.f l0 l1 = some t := by
  unfold laws_big.f
  split <;> exact ⟨_, rfl⟩
 refine evc ht ?_
 cases t with
 | true => exact evp rfl (Ev.now _)
 | false =>
  refine evn (by simp) ?_
  obtain ⟨R, b, p, s, e, hR⟩ := added_ok l0 hl0
  have hj1 := j1_ok l1 hl1
  have hd : Ev (fun k => spec_DrawCountSources.f k l0) (R, b) := evb (a := (R, b)) (evb e (Ev.now _)) (Ev.now _)
  refine evb hd ?_
  by_cases hq : (gd R b && decide (R.length ≤ 12)) = true
  ·obtain ⟨hg, h12⟩ := (Bool.and_eq_true _ _).mp hq
   obtain ⟨D, B, rfl, rfl, g1, g2, g3, g4, g5, g6⟩ := gd_nat hg
   rw [ic_length] at h12
   have h12' := of_decide_eq_true h12
   obtain ⟨⟨y1, y2⟩, y3, y4⟩ := sources_yes D B g1 g2 g3 h12' g5 hg
   obtain ⟨f1, f2, f3⟩ := srcOne_facts D B g1 g2 g3 h12' g5
   refine evb y1 (evb y2 (evb y3 (evb y4 (evn (by simp) (evp rfl (evn (by simp) (evb (laws_qSame_self _ (by rw [ic_length]; by_cases h : srcOne B D = []; rw [h]; simp; have := f3 h; omega)) (evp rfl (evp rfl ?_)))))))))
   have hx : (decide (srcOne B D ≠ []) != decide (((srcNum B D : Nat) : Int) > 0)) = false := by
    by_cases h : srcOne B D = []
    ·have hn : ¬ 0 < srcNum B D := fun h2 => f1.2 h2 h
     rw [decide_eq_false (fun h2 => h2 h), decide_eq_false (by omega)]
     rfl
    ·have hn := f1.1 h
     rw [decide_eq_true h, decide_eq_true (by omega)]
     rfl
   simp only
   rw [hx]
   refine evs (fun k => by rw [laws_FnSourcesOfSums.j0]) ?_
   refine evn (by simp) ?_
   by_cases h : srcOne B D = []
   ·exact evn (by rw [decide_eq_true_eq]; exact fun h2 => h2 h) hj1
   ·obtain ⟨z1, z2, z3, z4, z5⟩ := f3 h
    have hgo := gd_of (srcOne B D) B g1 g2 z1 (by omega) z3 (Or.inl z4)
    have ha := addRev_ev (srcOne B D) B g1 g2 (by omega) z3 hgo
    rw [z5, if_pos (by omega)] at ha
    exact evp (decide_eq_true h) (evb ha (evp rfl (evb (laws_qSame_self _ (by rw [ic_length]; omega)) (evp rfl hj1))))
  ·have hq2 : (gd R b && decide (R.length ≤ 12)) = false := by simpa using hq
   obtain ⟨⟨y1, y2⟩, y3, y4⟩ := sources_no R b (by omega) hq2
   refine evb y1 (evb y2 (evb y3 (evb y4 (evn (by simp) (evp rfl (evn (by simp) (evb (laws_qSame_self _ (by simp)) (evp rfl (evn (by simp) ?_)))))))))
   refine evs (fun k => by rw [laws_FnSourcesOfSums.j0]) ?_
   exact evn (by simp) (evn (by simp) hj1)

end Go.Proofs.Ytiheocddlopfcaa.Pure
