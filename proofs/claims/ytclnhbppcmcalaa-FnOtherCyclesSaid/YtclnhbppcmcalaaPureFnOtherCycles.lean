/- For all codes: cycles with other numbers added go round, and words of cycles are fractions that come back. -/
import Derived.Test.YtclnhbppcmcalaaPFnOtherCyclesx10
import Derived.Test.YtclnhbppcmcalaaWMore
set_option linter.unusedVariables false
set_option linter.unusedSimpArgs false
namespace Go.Proofs.Ytclnhbppcmcalaa.Pure
open Go.RowKit Go.Proofs.Ytclnhbppcmcalaa.PFnOtherCycles Go.Proofs.YtclnhbppcmcalaaW.PrintWords Go.Proofs.YtclnhbppcmcalaaW.PrintLast

theorem w64 {x : Int} (h1 : -9223372036854775808 ≤ x) (h2 : x ≤ 9223372036854775807) : wrap64 x = x := by unfold wrap64; omega
theorem w64o {x : Int} (h1 : -9223372036854775808 ≤ x := by omega) (h2 : x ≤ 9223372036854775807 := by omega) : wrap64 x = x := w64 h1 h2
abbrev Bs (l : List Int) : Prop := ∀ x ∈ l, 0 ≤ x ∧ x ≤ 255

theorem w64n (n : Nat) (h : n ≤ 9223372036854775807) : wrap64 (n : Int) = (n : Int) := w64 (by omega) (by omega)

theorem evp {α : Type} {c : Prop} [Decidable c] {a b : Nat → Option α} {r : α} (h : c) (k : Ev a r) : Ev (fun n => if c then a n else b n) r := Ev.congr (fun _ => if_pos h) k
theorem evn {α : Type} {c : Prop} [Decidable c] {a b : Nat → Option α} {r : α} (h : ¬ c) (k : Ev b r) : Ev (fun n => if c then a n else b n) r := Ev.congr (fun _ => if_neg h) k
theorem evr {α : Type} {x r : α} (h : x = r) : Ev (fun _ => some x) r := h ▸ Ev.now x
theorem evb {α β : Type} {g : Nat → Option α} {f : Nat → α → Option β} {a : α} {r : β} (h : Ev g a) (k : Ev (fun n => f n a) r) : Ev (fun n => (g n).bind fun x => f n x) r := Ev.bind h k
theorem evc {α β : Type} {x : Option α} {a : α} {f : Nat → α → Option β} {r : β} (h : x = some a) (k : Ev (fun n => f n a) r) : Ev (fun n => x.bind fun y => f n y) r := by subst h; exact k
theorem evs {α : Type} {g f : Nat → Option α} {r : α} (h : ∀ k, g (k + 1) = f k) (k : Ev f r) : Ev g r := Ev.step h k
theorem rd_mid (pre post : List Int) (x : Int) : rd (pre ++ x :: post) (pre.length : Int) = x := by simp [rd]
theorem rd_nat (xs : List Int) (i : Nat) : rd xs (i : Int) = xs.getD i 0 := by simp [rd]
theorem rd_get (xs : List Int) (i : Nat) (h : i < xs.length) : rd xs (i : Int) = xs[i] := by simp [rd, h]
theorem rd_mem (xs : List Int) (i : Int) (h0 : 0 ≤ i) (h : i < xs.length) : rd xs i ∈ xs := by
 have hi : i.toNat < xs.length := by omega
 simp only [rd, List.getD_eq_getElem?_getD, List.getElem?_eq_getElem hi, Option.getD_some]
 exact List.getElem_mem hi
def ic (l : List Nat) : List Int := l.map (fun x : Nat => (x : Int))
theorem ic_cons (x : Nat) (l : List Nat) : ic (x :: l) = (x : Int) :: ic l := rfl
theorem ic_append (l m : List Nat) : ic (l ++ m) = ic l ++ ic m := by simp [ic]
theorem ic_length (l : List Nat) : (ic l).length = l.length := by simp [ic]
theorem ic_drop (l : List Nat) (k : Nat) : (ic l).drop k = ic (l.drop k) := by simp [ic, List.map_drop]
theorem ic_rd (pre post : List Nat) (x : Nat) : rd (ic (pre ++ x :: post)) (pre.length : Int) = (x : Int) := by
 rw [ic_append, ic_cons, show ((pre.length : Nat) : Int) = (((ic pre).length : Nat) : Int) by simp [ic], rd_mid]

def rot {α : Type} (k : Nat) (l : List α) : List α := l.drop k ++ l.take k
theorem rot_len {α : Type} (k : Nat) (l : List α) (h : k ≤ l.length) : (rot k l).length = l.length := by simp [rot]; omega
theorem rot_get {α : Type} (k : Nat) (l : List α) (h : k < l.length) (i : Nat) (hi : i < l.length) : (rot k l)[i]'(by rw [rot_len k l (by omega)]; exact hi) = l[(i + k) % l.length]'(Nat.mod_lt _ (by omega)) := by
 unfold rot
 by_cases h2 : i < (l.drop k).length
 ·rw [List.getElem_append_left h2]
  rw [List.length_drop] at h2
  simp only [List.getElem_drop]
  congr 1
  rw [Nat.mod_eq_of_lt (by omega), Nat.add_comm]
 ·rw [List.getElem_append_right (by omega)]
  rw [List.length_drop] at h2
  simp only [List.getElem_take, List.length_drop]
  congr 1
  rw [Nat.mod_eq_sub_mod (by omega), Nat.mod_eq_of_lt (by omega)]
  omega
theorem rot_mem {α : Type} (k : Nat) (l : List α) (x : α) : x ∈ rot k l ↔ x ∈ l := by
 unfold rot
 rw [List.mem_append, Or.comm, ← List.mem_append, List.take_append_drop]
theorem rot_nodup {α : Type} (k : Nat) (l : List α) (h : l.Nodup) : (rot k l).Nodup := by
 unfold rot
 have h2 := h
 rw [← List.take_append_drop k l, List.nodup_append] at h2
 exact List.nodup_append.2 ⟨h2.2.1, h2.1, fun a ha b hb e => h2.2.2 b hb a ha e.symm⟩
def leastI (l : List Int) : Int := l.foldl min (l.headD 0)
theorem foldmin_le (l : List Int) : ∀ a : Int, l.foldl min a ≤ a ∧ (∀ x ∈ l, l.foldl min a ≤ x) ∧ (l.foldl min a = a ∨ l.foldl min a ∈ l) := by
 induction l with
 | nil => intro a; simp
 | cons y l ih =>
  intro a
  obtain ⟨h1, h2, h3⟩ := ih (min a y)
  simp only [List.foldl_cons]
  refine ⟨by omega, fun x hx => ?_, ?_⟩
  ·rcases List.mem_cons.1 hx with rfl | hx
   ·omega
   ·exact h2 x hx
  ·rcases h3 with h3 | h3
   ·by_cases h : a ≤ y
    ·left; omega
    ·right; rw [h3, show min a y = y by omega]; exact List.mem_cons_self
   ·right; exact List.mem_cons_of_mem _ h3
theorem leastI_le (l : List Int) (x : Int) (h : x ∈ l) : leastI l ≤ x := (foldmin_le l _).2.1 x h
theorem leastI_mem (l : List Int) (h : l ≠ []) : leastI l ∈ l := by
 cases l with
 | nil => exact absurd rfl h
 | cons a l =>
  rcases (foldmin_le (a :: l) ((a :: l).headD 0)).2.2 with h2 | h2
  ·unfold leastI
   rw [h2]
   exact List.mem_cons_self
  ·exact h2
def leastFirst (l : List Int) : List Int := rot (l.idxOf (leastI l)) l
theorem leastFirst_mem (l : List Int) (x : Int) : x ∈ leastFirst l ↔ x ∈ l := rot_mem _ _ _
theorem leastFirst_len (l : List Int) : (leastFirst l).length = l.length := by
 unfold leastFirst
 exact rot_len _ _ List.idxOf_le_length
theorem leastFirst_zero (l : List Int) (h : l ≠ []) : (leastFirst l)[0]'(by rw [leastFirst_len]; exact List.length_pos_iff.2 h) = leastI l := by
 have hm := leastI_mem l h
 have hi := List.idxOf_lt_length_iff.2 hm
 have := rot_get (l.idxOf (leastI l)) l hi 0 (List.length_pos_iff.2 h)
 unfold leastFirst
 rw [this]
 simp only [Nat.zero_add, Nat.mod_eq_of_lt hi]
 exact List.getElem_idxOf hi
theorem leastFirst_round (l : List Int) (h : l ≠ []) (s : Int → Int) (hr : ∀ i (hi : i < l.length), s l[i] = l[(i + 1) % l.length]'(Nat.mod_lt _ (by omega))) (i : Nat) (hi : i < l.length) :
  s ((leastFirst l)[i]'(by rw [leastFirst_len]; exact hi)) = (leastFirst l)[(i + 1) % l.length]'(by rw [leastFirst_len]; exact Nat.mod_lt _ (by omega)) := by
 have hk := List.idxOf_lt_length_iff.2 (leastI_mem l h)
 unfold leastFirst
 rw [rot_get _ l hk i hi, rot_get _ l hk _ (Nat.mod_lt _ (by omega)), hr]
 congr 1
 simp [Nat.add_right_comm]

def idxI (x : Int) : List Int → Nat → Int
 | [], _ => -1
 | y :: l, i => if x = y then (i : Int) else idxI x l (i + 1)
theorem impl_in_eq (a b c : Int) : impl_in.f a b c = some (decide (b ≤ a ∧ a ≤ c)) := by
 unfold impl_in.f
 by_cases h : b ≤ a <;> simp [h]
theorem spec_l1In_eq (a b c : Int) : spec_l1In.f a b c = some (decide (b ≤ a ∧ a ≤ c)) := by
 unfold spec_l1In.f
 by_cases h : b ≤ a <;> simp [h]

theorem tmod_cast (a b : Nat) : Int.tmod (a : Int) (b : Int) = ((a % b : Nat) : Int) := (Int.ofNat_tmod a b).symm
theorem tdiv_cast (a b : Nat) : Int.tdiv (a : Int) (b : Int) = ((a / b : Nat) : Int) := (Int.ofNat_tdiv a b).symm
theorem natOf {a : Int} (h : 0 ≤ a) : ∃ n : Nat, a = (n : Int) := ⟨a.toNat, by omega⟩

def its (f : Nat → Nat) : Nat → Nat → Nat
 | 0, n => n
 | i + 1, n => its f i (f n)
theorem its_succ (f : Nat → Nat) (i n : Nat) : its f (i + 1) n = f (its f i n) := by
 induction i generalizing n with
 | zero => rfl
 | succ i ih => exact ih (f n)
theorem its_add (f : Nat → Nat) (i j n : Nat) : its f (i + j) n = its f i (its f j n) := by
 induction i with
 | zero => rw [Nat.zero_add]; rfl
 | succ i ih => rw [Nat.add_right_comm, its_succ, its_succ, ih]
def runto (f : Nat → Nat) (n : Nat) : Nat → List Nat
 | 0 => []
 | k + 1 => runto f n k ++ [its f k n]
theorem runto_len (f : Nat → Nat) (n k : Nat) : (runto f n k).length = k := by
 induction k with
 | zero => rfl
 | succ k ih => simp [runto, ih]
theorem runto_mem (f : Nat → Nat) (n k x : Nat) : x ∈ runto f n k ↔ ∃ i, i < k ∧ its f i n = x := by
 induction k with
 | zero => simp [runto]
 | succ k ih =>
  simp only [runto, List.mem_append, List.mem_singleton, ih]
  constructor
  ·rintro (⟨i, h, rfl⟩ | rfl)
   ·exact ⟨i, by omega, rfl⟩
   ·exact ⟨k, by omega, rfl⟩
  ·rintro ⟨i, h, rfl⟩
   by_cases e : i = k
   ·subst e; exact .inr rfl
   ·exact .inl ⟨i, by omega, rfl⟩
theorem runto_get (f : Nat → Nat) (n k i : Nat) (h : i < k) : (runto f n k)[i]? = some (its f i n) := by
 induction k with
 | zero => omega
 | succ k ih =>
  simp only [runto]
  by_cases e : i = k
  ·subst e
   rw [List.getElem?_append_right (by rw [runto_len]; omega), runto_len, Nat.sub_self]
   rfl
  ·rw [List.getElem?_append_left (by rw [runto_len]; omega), ih (by omega)]
structure Comes (f : Nat → Nat) (n len t : Nat) : Prop where
 lt : t < len
 back : its f len n = its f t n
 new : ∀ i j, i < j → j < len → its f i n ≠ its f j n
theorem Comes.mem {f : Nat → Nat} {n len t : Nat} (h : Comes f n len t) : ∀ i, its f i n ∈ runto f n len := by
 intro i
 induction i with
 | zero => exact (runto_mem f n len _).2 ⟨0, by have := h.lt; omega, rfl⟩
 | succ i ih =>
  obtain ⟨j, hj, e⟩ := (runto_mem f n len _).1 ih
  rw [its_succ, ← e, ← its_succ f j n]
  by_cases h2 : j + 1 < len
  ·exact (runto_mem f n len _).2 ⟨j + 1, h2, rfl⟩
  ·have : j + 1 = len := by omega
   rw [this, h.back]
   exact (runto_mem f n len _).2 ⟨t, h.lt, rfl⟩
theorem Comes.not_mem {f : Nat → Nat} {n len t : Nat} (h : Comes f n len t) (k : Nat) (hk : k < len) : its f k n ∉ runto f n k := by
 intro hm
 obtain ⟨i, hi, e⟩ := (runto_mem f n k _).1 hm
 exact h.new i k hi hk e
theorem idxOf_runto {f : Nat → Nat} {n len t : Nat} (h : Comes f n len t) : (runto f n len).idxOf (its f len n) = t := by
 have hlt := h.lt
 have hl := runto_len f n len
 have hm : its f len n ∈ runto f n len := h.mem len
 have hi : (runto f n len).idxOf (its f len n) < (runto f n len).length := List.idxOf_lt_length_iff.2 hm
 have hg : (runto f n len)[(runto f n len).idxOf (its f len n)]'hi = its f len n := List.getElem_idxOf hi
 generalize hq : (runto f n len).idxOf (its f len n) = q at *
 have hg2 := runto_get f n len q (by omega)
 rw [List.getElem?_eq_getElem hi, hg, h.back] at hg2
 injection hg2 with hg2
 rcases Nat.lt_trichotomy q t with h1 | h1 | h1
 ·exact absurd hg2.symm (h.new q t h1 hlt)
 ·exact h1
 ·exact absurd hg2 (h.new t q h1 (by omega))
theorem runto_nodup {f : Nat → Nat} {n len t : Nat} (h : Comes f n len t) : ∀ k, k ≤ len → (runto f n k).Nodup := by
 intro k
 induction k with
 | zero => intro _; exact List.nodup_nil
 | succ k ih =>
  intro hk
  simp only [runto]
  refine List.nodup_append.2 ⟨ih (by omega), by simp, fun x hx y hy => ?_⟩
  obtain rfl := List.mem_singleton.1 hy
  intro e
  subst e
  exact h.not_mem k (by omega) hx
theorem Comes.round {f : Nat → Nat} {n len t : Nat} (h : Comes f n len t) : ∀ i, t ≤ i → its f (i + (len - t)) n = its f i n := by
 intro i hi
 obtain ⟨d, rfl⟩ : ∃ d, i = d + t := ⟨i - t, by omega⟩
 have hlt := h.lt
 rw [show d + t + (len - t) = d + len by omega, its_add, h.back, ← its_add]

theorem slices_Index_int_int_loop (x : Int) (whole : List Int) (post : List Int) : ∀ pre : List Int, whole = pre ++ post → whole.length ≤ 4611686018427387904 →
  Ev (fun k => slices_Index_int_int.l0 k whole x (whole.length : Int) (pre.length : Int)) (idxI x post pre.length) := by
 induction post with
 | nil =>
  intro pre hw h
  refine evs (fun k => by rw [slices_Index_int_int.l0]) ?_
  exact evn (by simp [hw]) (Ev.now _)
 | cons y post ih =>
  intro pre hw h
  have hl : whole.length = pre.length + (post.length + 1) := by simp [hw]
  have hx : rd whole (pre.length : Int) = y := by rw [hw, rd_mid]
  refine evs (fun k => by rw [slices_Index_int_int.l0]) ?_
  rw [hx]
  refine evp (by omega) (evp (by omega) (evp (by omega) ?_))
  by_cases he : x = y
  ·exact evp he (evr (by simp [idxI, he]))
  ·refine evn he ?_
   have h2 := ih (pre ++ [y]) (by simp [hw]) h
   rw [w64 (by omega) (by omega)]
   simpa [idxI, he] using h2
theorem slices_Index_int_int_ev (l : List Int) (x : Int) (h : l.length ≤ 4611686018427387904) : Ev (fun k => slices_Index_int_int.f k l x) (idxI x l 0) := by
 unfold slices_Index_int_int.f
 simpa using slices_Index_int_int_loop x l l [] rfl h

theorem leastFirst_ev (l : List Int) (hl : l.length ≤ 1000000) (h0 : l ≠ []) : Ev (fun k => impl_leastFirst.f k l) (leastFirst l) := by
 have hp := List.length_pos_iff.2 h0
 have hm : slices_Min_int_int.f l = some (leastI l) := by
  unfold slices_Min_int_int.f
  rw [if_neg (by omega)]
  rfl
 have hi := slices_Index_int_int_ev l (leastI l) (by omega)
 have hmem := leastI_mem l h0
 have hx : idxI (leastI l) l 0 = ((l.idxOf (leastI l) : Nat) : Int) := by
  suffices h : ∀ (m : List Int) (x : Int) (i : Nat), x ∈ m → idxI x m i = ((i + m.idxOf x : Nat) : Int) by rw [h l _ 0 hmem, Nat.zero_add]
  intro m x
  induction m with
  | nil => intro i h; simp at h
  | cons y m ih =>
   intro i h
   simp only [idxI]
   by_cases e : x = y
   ·subst e; simp
   ·have hb : (y == x) = false := beq_eq_false_iff_ne.2 (fun e2 => e e2.symm)
    rw [if_neg e, List.idxOf_cons, hb, ih (i + 1) (by simpa [e] using h)]
    simp only [cond_false]
    omega
 rw [hx] at hi
 have hlt := List.idxOf_lt_length_iff.2 hmem
 unfold impl_leastFirst.f
 refine evc hm (evb hi (evp (by omega) (evp (by omega) (evc (a := leastFirst l) ?_ (Ev.now _)))))
 unfold slices_Concat_int_int.f
 have e2 : ([l.drop (((l.idxOf (leastI l) : Nat) : Int)).toNat, l.take (((l.idxOf (leastI l) : Nat) : Int)).toNat] : List (List Int)).flatten = leastFirst l := by
  rw [Int.toNat_natCast]
  simp [leastFirst, rot]
 rw [e2, if_pos (by rw [leastFirst_len]; omega)]

theorem spec_turn_loop (l : List Nat) (hl : l.length ≤ 1000000000) (e : Nat) : ∀ (i m : Nat), i + e = l.length → (m < l.length) → (∀ j, j < i → l.getD m 0 ≤ l.getD j 0) →
  ∃ m', m' < l.length ∧ (∀ j, j < l.length → l.getD m' 0 ≤ l.getD j 0) ∧ Ev (fun k => spec_pwTurned.l0 k (ic l) (m : Int) (ic l) (l.length : Int) (i : Int)) (ic (l.drop m' ++ l.take m')) := by
 induction e with
 | zero =>
  intro i m h hm hle
  have : i = l.length := by omega
  subst this
  refine ⟨m, hm, hle, evs (fun k => by rw [spec_pwTurned.l0]) ?_⟩
  have e1 : (ic l).drop (m : Int).toNat = ic (l.drop m) := by rw [Int.toNat_natCast, ic_drop]
  have e2 : (ic l).take (m : Int).toNat = ic (l.take m) := by rw [Int.toNat_natCast]; simp [ic, List.map_take]
  rw [e1, e2]
  refine evn (by omega) (evp (by omega) (evp (by rw [ic_length]; omega) (evc (a := ic (l.drop m)) ?_ (evp ?_ ?_))))
  ·unfold spec_l1Own.f
   rw [Option.bind_some, if_pos (by rw [ic_length]; simp; omega), List.nil_append]
  ·rw [ic_length, ic_length]; simp; omega
  ·exact evr (by rw [ic_append])
 | succ e ih =>
  intro i m h hm hle
  have key : ∀ x : Nat, x < l.length → rd (ic l) (x : Int) = ((l.getD x 0 : Nat) : Int) := by
   intro x hx
   rw [rd_nat]
   simp [ic, List.getD_eq_getElem?_getD, hx]
  by_cases g : l.getD i 0 < l.getD m 0
  ·obtain ⟨m', h1, h2, h3⟩ := ih (i + 1) i (by omega) (by omega) (fun j hj => by
    by_cases e : j = i
    ·subst e; exact Nat.le_refl _
    ·have := hle j (by omega); omega)
   refine ⟨m', h1, h2, evs (fun k => by rw [spec_pwTurned.l0]) ?_⟩
   rw [key i (by omega), key m hm, ic_length, w64o (x := (i : Int) + 1)]
   exact evp (by omega) (evp (by omega) (evp (by omega) (evp (by omega) (evp (by omega) (evp (by omega) h3)))))
  ·obtain ⟨m', h1, h2, h3⟩ := ih (i + 1) m (by omega) hm (fun j hj => by
    by_cases e : j = i
    ·subst e; omega
    ·exact hle j (by omega))
   refine ⟨m', h1, h2, evs (fun k => by rw [spec_pwTurned.l0]) ?_⟩
   rw [key i (by omega), key m hm, ic_length, w64o (x := (i : Int) + 1)]
   exact evp (by omega) (evp (by omega) (evp (by omega) (evp (by omega) (evp (by omega) (evn (by omega) h3)))))
theorem spec_turn_ev (l : List Nat) (hl : l.length ≤ 1000000000) (h0 : 1 ≤ l.length) : ∃ m', m' < l.length ∧ (∀ j, j < l.length → l.getD m' 0 ≤ l.getD j 0) ∧ Ev (fun k => spec_pwTurned.f k (ic l)) (ic (l.drop m' ++ l.take m')) := by
 unfold spec_pwTurned.f
 rw [ic_length]
 exact spec_turn_loop l hl l.length 0 0 (by omega) (by omega) (fun j hj => by omega)

def st (d x : Nat) : Nat := if x % 2 = 0 then x / 2 else 3 * x + d
theorem st_pos {d x : Nat} (h : 1 ≤ x) : 1 ≤ st d x := by unfold st; split <;> omega
theorem st_le {d x : Nat} (hd : d ≤ 99) (h : x ≤ 1000000000000) : st d x ≤ 3000000000099 := by unfold st; split <;> omega
theorem impl_st (d x : Nat) (hd : d ≤ 99) (h : x ≤ 1000000000000) : impl_stepWith.f (x : Int) (d : Int) = some ((st d x : Nat) : Int) := by
 unfold impl_stepWith.f st
 rw [show (2 : Int) = ((2 : Nat) : Int) from rfl, tmod_cast, tdiv_cast]
 by_cases hc : x % 2 = 0
 ·rw [if_pos (by omega), if_pos hc, w64n _ (by omega)]
 ·rw [if_neg (by omega), if_neg hc, w64o (x := 3 * (x : Int)), w64 (by omega) (by omega)]
  congr 1
theorem spec_st (d x : Nat) (hd : d ≤ 99) (h : x ≤ 1000000000000) : spec_stStep.f (x : Int) (d : Int) = some ((st d x : Nat) : Int) := by
 have : spec_stStep.f (x : Int) (d : Int) = impl_stepWith.f (x : Int) (d : Int) := rfl
 rw [this, impl_st d x hd h]
theorem stNumber_eq (a : Int) : spec_stNumber.f a = some (decide (1 ≤ a ∧ a ≤ 1000000000000)) := by
 unfold spec_stNumber.f
 rw [spec_l1In_eq]
 rfl
theorem cw_mem (l : List Nat) (x : Nat) : (x : Int) ∈ ic l ↔ x ∈ l := by
 unfold ic
 rw [List.mem_map]
 constructor
 ·rintro ⟨y, hy, e⟩
  rwa [← Int.ofNat.inj e]
 ·intro h
  exact ⟨x, h, rfl⟩
theorem cw_idx (l : List Nat) (x : Nat) : (ic l).idxOf (x : Int) = l.idxOf x := by
 induction l with
 | nil => rfl
 | cons y l ih =>
  rw [ic_cons, List.idxOf_cons, List.idxOf_cons, ih]
  by_cases e : y = x
  ·subst e; simp
  ·rw [beq_eq_false_iff_ne.2 e, beq_eq_false_iff_ne.2 (show (y : Int) ≠ (x : Int) by omega)]
theorem ic_runto (f : Nat → Nat) (n q : Nat) : ic (runto f n q) ++ [((its f q n : Nat) : Int)] = ic (runto f n (q + 1)) := by
 simp [runto, ic]
def cyc (d n : Nat) : Nat → Nat → Option (List Nat)
 | 0, _ => none
 | f + 1, M => if its (st d) (M + 1) n > 1000000000000 then none else if its (st d) (M + 1) n ∈ runto (st d) n (M + 1) then some ((runto (st d) n (M + 1)).drop ((runto (st d) n (M + 1)).idxOf (its (st d) (M + 1) n))) else cyc d n f (M + 1)
def cyr : Option (List Nat) → List Int × Bool
 | none => ([], false)
 | some c => (leastFirst (ic c), true)
theorem impl_cyc (d n : Nat) (hd : d ≤ 99) (f : Nat) : ∀ M, f + M = 1000 → (∀ i, i ≤ M → its (st d) i n ≤ 1000000000000) →
  Ev (fun k => impl_cycleWith.l0 k ((its (st d) M n : Nat) : Int) (d : Int) (ic (runto (st d) n (M + 1))) (M : Int)) (cyr (cyc d n f M)) := by
 induction f with
 | zero =>
  intro M hM hB
  refine evs (fun k => by rw [impl_cycleWith.l0]) ?_
  exact evn (by omega) (Ev.now _)
 | succ f ih =>
  intro M hM hB
  have hb := hB M (Nat.le_refl _)
  have hs := st_le (d := d) hd hb
  refine evs (fun k => by rw [impl_cycleWith.l0]) ?_
  refine evp (by omega) (evc (impl_st d _ hd hb) ?_)
  rw [show st d (its (st d) M n) = its (st d) (M + 1) n from (its_succ _ _ _).symm]
  rw [show st d (its (st d) M n) = its (st d) (M + 1) n from (its_succ _ _ _).symm] at hs
  refine evp (by omega) ?_
  unfold cyc
  by_cases h1 : its (st d) (M + 1) n > 1000000000000
  ·rw [if_pos h1]
   exact evp (by omega) (Ev.now _)
  ·rw [if_neg h1]
   refine evn (by omega) ?_
   by_cases h2 : its (st d) (M + 1) n ∈ runto (st d) n (M + 1)
   ·rw [if_pos h2]
    refine evp ((cw_mem _ _).2 h2) ?_
    have hlt := List.idxOf_lt_length_iff.2 h2
    have hl := runto_len (st d) n (M + 1)
    rw [cw_idx, ic_drop]
    exact evb (leastFirst_ev _ (by rw [ic_length, List.length_drop]; omega) (by
     intro e
     have := congrArg List.length e
     rw [ic_length, List.length_drop] at this
     simp at this
     omega)) (Ev.now _)
   ·rw [if_neg h2]
    refine evn (fun h => h2 ((cw_mem _ _).1 h)) (evp (by rw [ic_length, runto_len]; omega) ?_)
    rw [ic_runto, w64o (x := (M : Int) + 1), show (M : Int) + 1 = ((M + 1 : Nat) : Int) by omega]
    exact ih (M + 1) (by omega) (fun i hi => by
     by_cases e : i = M + 1
     ·subst e; omega
     ·exact hB i (by omega))
theorem cyc_comes (d n f : Nat) : ∀ M, (∀ i, i ≤ M → its (st d) i n ≤ 1000000000000) → (∀ i j, i < j → j ≤ M → its (st d) i n ≠ its (st d) j n) → ∀ c, cyc d n f M = some c →
  ∃ len t, Comes (st d) n len t ∧ c = (runto (st d) n len).drop t ∧ len ≤ M + f ∧ (∀ i, i < len → its (st d) i n ≤ 1000000000000) := by
 induction f with
 | zero => intro M _ _ c h; simp [cyc] at h
 | succ f ih =>
  intro M hB hN c h
  unfold cyc at h
  by_cases h1 : its (st d) (M + 1) n > 1000000000000
  ·rw [if_pos h1] at h; simp at h
  ·rw [if_neg h1] at h
   by_cases h2 : its (st d) (M + 1) n ∈ runto (st d) n (M + 1)
   ·rw [if_pos h2] at h
    obtain ⟨t, ht, e⟩ := (runto_mem _ _ _ _).1 h2
    have hc : Comes (st d) n (M + 1) t := ⟨ht, e.symm, fun i j hij hj => hN i j hij (by omega)⟩
    rw [idxOf_runto hc] at h
    exact ⟨M + 1, t, hc, (Option.some.inj h).symm, by omega, fun i hi => hB i (by omega)⟩
   ·rw [if_neg h2] at h
    obtain ⟨len, t, g1, g2, g3, g4⟩ := ih (M + 1) (fun i hi => by
     by_cases e : i = M + 1
     ·subst e; omega
     ·exact hB i (by omega)) (fun i j hij hj => by
     by_cases e : j = M + 1
     ·subst e
      exact fun e => h2 ((runto_mem _ _ _ _).2 ⟨i, by omega, e⟩)
     ·exact hN i j hij (by omega)) c h
    exact ⟨len, t, g1, g2, by omega, g4⟩
theorem turn_least (l : List Nat) (hl : l.length ≤ 1000000) (h0 : 1 ≤ l.length) (hn : l.Nodup) : Ev (fun k => spec_pwTurned.f k (ic l)) (leastFirst (ic l)) := by
 obtain ⟨m, h1, h2, h3⟩ := spec_turn_ev l (by omega) h0
 have e1 : leastI (ic l) = ((l[m] : Nat) : Int) := by
  have hmem := leastI_mem (ic l) (fun e => by have h9 := congrArg List.length e; rw [ic_length, List.length_nil] at h9; omega)
  have hle := leastI_le (ic l) ((l[m] : Nat) : Int) ((cw_mem _ _).2 (List.getElem_mem h1))
  unfold ic at hmem
  obtain ⟨y, hy, e⟩ := List.mem_map.1 hmem
  obtain ⟨j, hj, rfl⟩ := List.getElem_of_mem hy
  have h4 := h2 j hj
  simp only [List.getD_eq_getElem?_getD, List.getElem?_eq_getElem h1, List.getElem?_eq_getElem hj, Option.getD_some] at h4
  have e' : ((l[j] : Nat) : Int) = leastI (ic l) := e
  omega
 have e2 : l.idxOf l[m] = m := hn.idxOf_getElem m h1
 have e3 : leastFirst (ic l) = ic (l.drop m ++ l.take m) := by
  unfold leastFirst rot
  rw [e1, cw_idx, e2]
  simp [ic, List.map_drop, List.map_take]
 rw [e3]
 exact h3
def lastAt (x : Int) : List Int → Int → Int → Int
 | [], _, a => a
 | y :: l, i, a => lastAt x l (i + 1) (if x = y then i else a)
theorem lastAt_no (x : Int) (l : List Int) : ∀ i a, x ∉ l → lastAt x l i a = a := by
 induction l with
 | nil => intro i a _; rfl
 | cons y l ih =>
  intro i a h
  simp only [List.mem_cons, not_or] at h
  simp only [lastAt]
  rw [if_neg h.1, ih _ _ h.2]
theorem lastAt_yes (x : Int) (l : List Int) : ∀ (i : Nat) (a : Int), l.Nodup → x ∈ l → lastAt x l (i : Int) a = ((i + l.idxOf x : Nat) : Int) := by
 induction l with
 | nil => intro i a _ h; simp at h
 | cons y l ih =>
  intro i a hn h
  have h1 := List.nodup_cons.1 hn
  simp only [lastAt]
  rw [List.idxOf_cons]
  by_cases e : x = y
  ·subst e
   rw [if_pos rfl, lastAt_no _ _ _ _ h1.1]
   simp
  ·rw [if_neg e, show (i : Int) + 1 = ((i + 1 : Nat) : Int) by omega, ih (i + 1) a h1.2 (by simpa [e] using h), beq_eq_false_iff_ne.2 (fun e2 => e e2.symm)]
   simp only [cond_false]
   omega
theorem l2_scan (d most : Int) (out : List (List Int)) (n x : Int) (xs : List Int) (R : List (List Int) × Bool) (hxs : xs.length ≤ 1000000) (post : List Int) : ∀ (pre : List Int) (a : Int), xs = pre ++ post →
  Ev (fun k => if lastAt x post pre.length a < 0 then (if xs.length < 17592186044416 then (spec_CyclesWith.l1 k d most out n (xs ++ [x]) (lastAt x post pre.length a)) else (none)) else (spec_CyclesWith.l1 k d most out n xs (lastAt x post pre.length a))) R →
  Ev (fun k => spec_CyclesWith.l2 k d most out n xs a x xs (xs.length : Int) (pre.length : Int)) R := by
 induction post with
 | nil =>
  intro pre a he h
  rw [List.append_nil] at he
  refine evs (fun k => by rw [spec_CyclesWith.l2]) ?_
  exact evn (by rw [he]; omega) h
 | cons y post ih =>
  intro pre a he h
  have hl : xs.length = pre.length + (post.length + 1) := by rw [he]; simp
  have hrd : rd xs (pre.length : Int) = y := by rw [he, rd_mid]
  have h4 := ih (pre ++ [y]) (if x = y then (pre.length : Int) else a) (by rw [he]; simp)
  have e2 : (((pre ++ [y]).length : Nat) : Int) = (pre.length : Int) + 1 := by simp
  rw [e2] at h4
  simp only [lastAt] at h
  have h5 := h4 h
  refine evs (fun k => by rw [spec_CyclesWith.l2]) ?_
  rw [hrd, w64o (x := (pre.length : Int) + 1)]
  refine evp (by omega) (evp (by omega) (evp (by omega) ?_))
  by_cases e : x = y
  ·rw [if_pos e] at h5
   exact evp e h5
  ·rw [if_neg e] at h5
   exact evn e h5
theorem spec_cyc (d n : Nat) (hd : d ≤ 99) (hn : 1 ≤ n) (most : Int) (out : List (List Int)) (R : List (List Int) × Bool) (f : Nat) : ∀ M, f + M = 1000 → (∀ i, i ≤ M → its (st d) i n ≤ 1000000000000) → (∀ i j, i < j → j ≤ M → its (st d) i n ≠ its (st d) j n) →
  (cyc d n f M = none → R = ([], false)) → (∀ c, cyc d n f M = some c → Ev (fun k => spec_CyclesWith.l3 k (d : Int) most out (n : Int) (leastFirst (ic c)) 0) R) →
  Ev (fun k => spec_CyclesWith.l1 k (d : Int) most out (n : Int) (ic (runto (st d) n (M + 1))) (-1)) R := by
 have hpos : ∀ i, 1 ≤ its (st d) i n := fun i => by
  induction i with
  | zero => exact hn
  | succ i ih => rw [its_succ]; exact st_pos ih
 induction f with
 | zero =>
  intro M hM hB hN h1 h2
  have hb := hB M (Nat.le_refl _)
  have hl : (ic (runto (st d) n (M + 1))).length = M + 1 := by rw [ic_length, runto_len]
  have hrd : rd (ic (runto (st d) n (M + 1))) (M : Int) = ((its (st d) M n : Nat) : Int) := by
   have h3 := ic_rd (runto (st d) n M) [] (its (st d) M n)
   rw [runto_len] at h3
   exact h3
  have hno : ∀ b : Bool, b = true → Ev (fun k => spec_CyclesWith.j3 k (d : Int) most out (n : Int) (ic (runto (st d) n (M + 1))) (-1) ((st d (its (st d) M n) : Nat) : Int) b) R := by
   intro b hb
   subst hb
   refine evs (fun k => by rw [spec_CyclesWith.j3]) ?_
   exact evp rfl (evr (h1 rfl).symm)
  refine evs (fun k => by rw [spec_CyclesWith.l1]) ?_
  rw [hl, w64o (x := ((M + 1 : Nat) : Int) - 1), show ((M + 1 : Nat) : Int) - 1 = (M : Int) by omega, hrd]
  refine evp (by omega) (evp (by omega) (evp (by omega) (evc (spec_st d _ hd hb) (evc (stNumber_eq _) ?_))))
  by_cases h3 : 1 ≤ ((st d (its (st d) M n) : Nat) : Int) ∧ ((st d (its (st d) M n) : Nat) : Int) ≤ 1000000000000
  ·exact evp (decide_eq_true h3) (hno _ (decide_eq_true (by omega)))
  ·exact evn (by rw [decide_eq_false h3]; simp) (hno _ rfl)
 | succ f ih =>
  intro M hM hB hN h1 h2
  have hb := hB M (Nat.le_refl _)
  have hl : (ic (runto (st d) n (M + 1))).length = M + 1 := by rw [ic_length, runto_len]
  have hrd : rd (ic (runto (st d) n (M + 1))) (M : Int) = ((its (st d) M n : Nat) : Int) := by
   have h3 := ic_rd (runto (st d) n M) [] (its (st d) M n)
   rw [runto_len] at h3
   exact h3
  have hp := hpos (M + 1)
  refine evs (fun k => by rw [spec_CyclesWith.l1]) ?_
  rw [hl, w64o (x := ((M + 1 : Nat) : Int) - 1), show ((M + 1 : Nat) : Int) - 1 = (M : Int) by omega, hrd]
  refine evp (by omega) (evp (by omega) (evp (by omega) (evc (spec_st d _ hd hb) (evc (stNumber_eq _) ?_))))
  rw [show st d (its (st d) M n) = its (st d) (M + 1) n from (its_succ _ _ _).symm]
  unfold cyc at h1 h2
  by_cases g1 : its (st d) (M + 1) n > 1000000000000
  ·rw [if_pos g1] at h1
   refine evn (by rw [decide_eq_false (by omega)]; simp) (evs (fun k => by rw [spec_CyclesWith.j3]) ?_)
   exact evp rfl (evr (h1 rfl).symm)
  ·rw [if_neg g1] at h1 h2
   refine evp (decide_eq_true (by omega)) (evs (fun k => by rw [spec_CyclesWith.j3]) ?_)
   rw [decide_eq_false (by omega)]
   refine evn (by simp) ?_
   have hscan := l2_scan (d : Int) most out (n : Int) ((its (st d) (M + 1) n : Nat) : Int) (ic (runto (st d) n (M + 1))) R (by omega) (ic (runto (st d) n (M + 1))) [] (-1) rfl
   refine hscan ?_
   clear hscan
   by_cases g2 : its (st d) (M + 1) n ∈ runto (st d) n (M + 1)
   ·rw [if_pos g2] at h1 h2
    obtain ⟨t, ht, e⟩ := (runto_mem _ _ _ _).1 g2
    have hc : Comes (st d) n (M + 1) t := ⟨ht, e.symm, fun i j hij hj => hN i j hij (by omega)⟩
    have hnd := runto_nodup hc (M + 1) (Nat.le_refl _)
    have hnd2 : (ic (runto (st d) n (M + 1))).Nodup := by
     unfold ic
     exact List.pairwise_map.2 (List.Pairwise.imp (fun {a b} (h : a ≠ b) e => h (Int.ofNat.inj e)) hnd)
    have e1 := lastAt_yes ((its (st d) (M + 1) n : Nat) : Int) (ic (runto (st d) n (M + 1))) 0 (-1) hnd2 ((cw_mem _ _).2 g2)
    rw [cw_idx, idxOf_runto hc, Nat.zero_add] at e1
    have e1' : lastAt ((its (st d) (M + 1) n : Nat) : Int) (ic (runto (st d) n (M + 1))) ((([] : List Int).length : Nat) : Int) (-1) = (t : Int) := e1
    rw [e1']
    refine evn (by omega) (evs (fun k => by rw [spec_CyclesWith.l1]) ?_)
    refine evn (by omega) (evp (by omega) (evp (by omega) ?_))
    rw [Int.toNat_natCast, ic_drop]
    have h3 := h2 _ rfl
    rw [idxOf_runto hc] at h3
    exact evb (turn_least _ (by rw [List.length_drop, runto_len]; omega) (by rw [List.length_drop, runto_len]; omega) (List.Nodup.sublist (List.drop_sublist _ _) hnd)) h3
   ·rw [if_neg g2] at h1 h2
    have e1' : lastAt ((its (st d) (M + 1) n : Nat) : Int) (ic (runto (st d) n (M + 1))) ((([] : List Int).length : Nat) : Int) (-1) = -1 := lastAt_no _ _ _ _ (fun h => g2 ((cw_mem _ _).1 h))
    rw [e1']
    refine evp (by omega) (evp (by omega) ?_)
    rw [ic_runto]
    exact ih (M + 1) (by omega) (fun i hi => by
     by_cases e : i = M + 1
     ·subst e; omega
     ·exact hB i (by omega)) (fun i j hij hj => by
     by_cases e : j = M + 1
     ·subst e
      exact fun e => g2 ((runto_mem _ _ _ _).2 ⟨i, by omega, e⟩)
     ·exact hN i j hij (by omega)) h1 h2

def cy (d n : Nat) : Option (List Int) := (cyc d n 1000 0).map fun c => leastFirst (ic c)
theorem impl_cy (d n : Nat) (hd : d ≤ 99) (hn : n ≤ 1000000000000) : Ev (fun k => impl_cycleWith.f k (n : Int) (d : Int)) (match cy d n with | none => (([] : List Int), false) | some o => (o, true)) := by
 have h := impl_cyc d n hd 1000 0 rfl (fun i hi => by
  obtain rfl : i = 0 := by omega
  exact hn)
 have e : cyr (cyc d n 1000 0) = (match cy d n with | none => (([] : List Int), false) | some o => (o, true)) := by
  unfold cy
  cases cyc d n 1000 0 <;> rfl
 rw [e] at h
 unfold impl_cycleWith.f
 exact evp (by omega) h
structure GC (d : Nat) (o : List Int) : Prop where
 ne : 0 < o.length
 len : o.length ≤ 1000
 nd : o.Nodup
 bd : ∀ x ∈ o, 1 ≤ x ∧ x ≤ 1000000000000
 least : ∀ x ∈ o, rd o 0 ≤ x
 rnd : ∀ i (hi : i < o.length), ((st d (o[i]).toNat : Nat) : Int) = o[(i + 1) % o.length]'(Nat.mod_lt _ ne)
theorem gc_of {d : Nat} (l : List Int) (hp : 0 < l.length) (h1 : l.length ≤ 1000) (hbd : ∀ x ∈ l, 1 ≤ x ∧ x ≤ 1000000000000) (hnd : l.Nodup) (hrnd : ∀ i (hi : i < l.length), (fun x : Int => ((st d x.toNat : Nat) : Int)) l[i] = l[(i + 1) % l.length]'(Nat.mod_lt _ (by omega))) : GC d (leastFirst l) := by
 have hne : l ≠ [] := List.length_pos_iff.1 hp
 have hll := leastFirst_len l
 refine ⟨by omega, by omega, rot_nodup _ _ hnd, fun x hx => hbd x ((leastFirst_mem l x).1 hx), fun x hx => ?_, fun i hi => ?_⟩
 ·have h0 := leastFirst_zero l hne
  have h5 := leastI_le l x ((leastFirst_mem l x).1 hx)
  have e0 : rd (leastFirst l) 0 = leastI l := by
   rw [← h0]
   have := rd_get (leastFirst l) 0 (by omega)
   exact this
  omega
 ·have h5 := leastFirst_round l hne (fun x : Int => ((st d x.toNat : Nat) : Int)) hrnd i (by omega)
  rw [h5]
  congr 1
  rw [hll]
theorem cy_good {d n : Nat} (hn : 1 ≤ n) (hn2 : n ≤ 1000000000000) {o : List Int} (h : cy d n = some o) : GC d o ∧ ∃ len t, Comes (st d) n len t ∧ o = leastFirst (ic ((runto (st d) n len).drop t)) := by
 have hpos : ∀ i, 1 ≤ its (st d) i n := fun i => by
  induction i with
  | zero => exact hn
  | succ i ih => rw [its_succ]; exact st_pos ih
 unfold cy at h
 obtain ⟨c, hc, rfl⟩ := Option.map_eq_some_iff.1 h
 obtain ⟨len, t, h1, rfl, h3, h4⟩ := cyc_comes d n 1000 0 (fun i hi => by
  obtain rfl : i = 0 := by omega
  exact hn2) (fun i j hij hj => by omega) c hc
 refine ⟨?_, len, t, h1, rfl⟩
 have hlt := h1.lt
 have hl : (ic ((runto (st d) n len).drop t)).length = len - t := by rw [ic_length, List.length_drop, runto_len]
 have hne : ic ((runto (st d) n len).drop t) ≠ [] := fun e => by
  have h9 := congrArg List.length e
  rw [hl, List.length_nil] at h9
  omega
 have hget : ∀ i (hi : i < (ic ((runto (st d) n len).drop t)).length), (ic ((runto (st d) n len).drop t))[i] = ((its (st d) (t + i) n : Nat) : Int) := fun i hi => by
  have h5 := runto_get (st d) n len (t + i) (by omega)
  have h6 : ((runto (st d) n len).drop t)[i]? = some (its (st d) (t + i) n) := by rw [List.getElem?_drop]; exact h5
  have h7 := (List.getElem?_eq_some_iff.1 h6).2
  simp only [ic, List.getElem_map]
  rw [h7]
 have hbd : ∀ x ∈ ic ((runto (st d) n len).drop t), 1 ≤ x ∧ x ≤ 1000000000000 := fun x hx => by
  obtain ⟨i, hi, rfl⟩ := List.getElem_of_mem hx
  rw [hget i hi]
  have := hpos (t + i)
  have := h4 (t + i) (by omega)
  omega
 have hnd : (ic ((runto (st d) n len).drop t)).Nodup := by
  have h5 : ((runto (st d) n len).drop t).Nodup := List.Nodup.sublist (List.drop_sublist _ _) (runto_nodup h1 len (Nat.le_refl _))
  unfold ic
  exact List.pairwise_map.2 (List.Pairwise.imp (fun {a b} (h : a ≠ b) e => h (Int.ofNat.inj e)) h5)
 have hrnd : ∀ i (hi : i < (ic ((runto (st d) n len).drop t)).length), (fun x : Int => ((st d x.toNat : Nat) : Int)) (ic ((runto (st d) n len).drop t))[i] = (ic ((runto (st d) n len).drop t))[(i + 1) % (ic ((runto (st d) n len).drop t)).length]'(Nat.mod_lt _ (by omega)) := by
  intro i hi
  have e1 : ∀ m (hm : m < (ic ((runto (st d) n len).drop t)).length), m = (i + 1) % (ic ((runto (st d) n len).drop t)).length → its (st d) (t + m) n = its (st d) (t + i + 1) n → (fun x : Int => ((st d x.toNat : Nat) : Int)) (ic ((runto (st d) n len).drop t))[i] = (ic ((runto (st d) n len).drop t))[(i + 1) % (ic ((runto (st d) n len).drop t)).length]'(Nat.mod_lt _ (by omega)) := by
   intro m hm e e2
   subst e
   rw [hget i hi, hget _ hm, e2, its_succ]
   simp only [Int.toNat_natCast]
  by_cases g : i + 1 < len - t
  ·refine e1 (i + 1) (by omega) ?_ rfl
   rw [hl, Nat.mod_eq_of_lt g]
  ·refine e1 0 (by omega) ?_ ?_
   ·rw [hl, show i + 1 = len - t by omega, Nat.mod_self]
   ·rw [Nat.add_zero, show t + i + 1 = len by omega, h1.back]
 exact gc_of _ (by omega) (by omega) hbd hnd hrnd
theorem cmp_eq (x y : Int) : cmp_Compare_int.f x y = some (if x < y then -1 else if x > y then 1 else 0) := by
 unfold cmp_Compare_int.f cmp_isNaN_int.f
 simp only [bne_self_eq_false, Option.bind_some]
 by_cases h1 : x < y
 ·rw [if_neg (by simp), if_neg (by simp), if_pos (by omega), if_pos h1]
 ·by_cases h2 : x > y
  ·rw [if_neg (by simp), if_neg (by simp), if_neg (by omega), if_pos (by omega), if_neg h1, if_pos h2]
  ·rw [if_neg (by simp), if_neg (by simp), if_neg (by omega), if_neg (by omega), if_neg h1, if_neg h2]
theorem compare_cm (p : List Int) : ∀ (pre q : List Int), (pre ++ p).length ≤ 1000000 → (pre ++ q).length ≤ 1000000 → Ev (fun k => slices_Compare_int_int.l0 k (pre ++ p) (pre ++ q) (pre ++ p) ((pre ++ p).length : Int) (pre.length : Int)) (impl_CyclesWith.cm p q) := by
 induction p with
 | nil =>
  intro pre q h1 h2
  refine evs (fun k => by rw [slices_Compare_int_int.l0]) ?_
  refine evn (by simp) ?_
  cases q with
  | nil => exact evn (by simp) (Ev.now _)
  | cons y q => exact evp (by simp; omega) (Ev.now _)
 | cons x p ih =>
  intro pre q h1 h2
  have hl : (pre ++ x :: p).length = pre.length + (p.length + 1) := by simp
  refine evs (fun k => by rw [slices_Compare_int_int.l0]) ?_
  refine evp (by omega) (evp (by omega) (evp (by omega) ?_))
  cases q with
  | nil => exact evp (by simp) (Ev.now _)
  | cons y q =>
   have hl2 : (pre ++ y :: q).length = pre.length + (q.length + 1) := by simp
   refine evn (by omega) (evp (by omega) ?_)
   rw [rd_mid, rd_mid, cmp_eq]
   simp only [impl_CyclesWith.cm, Option.bind_some]
   by_cases g1 : x < y
   ·rw [if_pos g1, if_pos g1]
    exact evn (by omega) (Ev.now _)
   ·by_cases g2 : y < x
    ·rw [if_neg g1, if_neg g1, if_pos g2, if_pos (show x > y from g2)]
     exact evn (by omega) (Ev.now _)
    ·rw [if_neg g1, if_neg g1, if_neg g2, if_neg (show ¬ x > y from g2)]
     obtain rfl : x = y := by omega
     have h3 := ih (pre ++ [x]) q (by simpa using h1) (by simpa using h2)
     have e : (((pre ++ [x]).length : Nat) : Int) = (pre.length : Int) + 1 := by simp
     rw [e, List.append_assoc, List.append_assoc, List.singleton_append, List.singleton_append] at h3
     rw [w64o (x := (pre.length : Int) + 1)]
     exact evp rfl h3
theorem compare_ev (p q : List Int) (h1 : p.length ≤ 1000000) (h2 : q.length ≤ 1000000) : Ev (fun k => slices_Compare_int_int.f k p q) (impl_CyclesWith.cm p q) := compare_cm p [] q (by simpa using h1) (by simpa using h2)
theorem ev_all {α β : Type} (L : List α) (g : α → Nat → Option β) (r : α → β) (h : ∀ x ∈ L, Ev (g x) (r x)) : ∃ K, ∀ k, K ≤ k → ∀ x ∈ L, g x k = some (r x) := by
 induction L with
 | nil => exact ⟨0, fun k _ x hx => by simp at hx⟩
 | cons y L ih =>
  obtain ⟨K1, h1⟩ := h y (by simp)
  obtain ⟨K2, h2⟩ := ih (fun x hx => h x (by simp [hx]))
  refine ⟨K1 + K2, fun k hk x hx => ?_⟩
  rcases List.mem_cons.1 hx with rfl | hx
  ·exact h1 k (by omega)
  ·exact h2 k (by omega) x hx
theorem done_ev (L : List (List Int)) (h0 : L ≠ []) (hl : L.length ≤ 1000000) (h : ∀ o ∈ L, o.length ≤ 1000000) (r : List (List Int) × Bool) : Ev (fun k => if impl_CyclesWith.done k L = true then some r else none) r := by
 have h1 := ev_all L (fun x k => if ∀ y ∈ L, slices_Compare_int_int.f k x y = some (impl_CyclesWith.cm x y) then some () else none) (fun _ => ()) (fun x hx => by
  obtain ⟨K, hK⟩ := ev_all L (fun y k => slices_Compare_int_int.f k x y) (fun y => impl_CyclesWith.cm x y) (fun y hy => compare_ev x y (h x hx) (h y hy))
  exact ⟨K, fun k hk => if_pos (hK k hk)⟩)
 obtain ⟨K, hK⟩ := h1
 refine ⟨K, fun k hk => if_pos ((impl_CyclesWith.done_iff k L).2 ⟨h0, by omega, fun x hx y hy => ?_⟩)⟩
 have h2 := hK k hk x hx
 by_cases g : ∀ y ∈ L, slices_Compare_int_int.f k x y = some (impl_CyclesWith.cm x y)
 ·exact g y hy
 ·rw [if_neg g] at h2
  simp at h2
def allc (d : Nat) : Nat → Nat → List (List Int) → Option (List (List Int))
 | 0, _, out => some out
 | r + 1, n, out => match cy d n with
  | none => none
  | some c => if (out.any fun o => decide (rd o 0 = rd c 0)) = true then allc d r (n + 1) out else allc d r (n + 1) (out ++ [c])
def ansI : Option (List (List Int)) → List (List Int) × Bool
 | none => ([], false)
 | some o => (impl_CyclesWith.srt o, true)
def ansS : Option (List (List Int)) → List (List Int) × Bool
 | none => ([], false)
 | some o => (o, true)
theorem impl_all (d : Nat) (hd : d ≤ 99) (most : Nat) (hm : most ≤ 200) (r : Nat) : ∀ (n : Nat) (out : List (List Int)), n + r = most + 1 → 1 ≤ n → out.length ≤ n → (∀ o ∈ out, GC d o) → (out ≠ [] ∨ 1 ≤ r) →
  Ev (fun k => impl_CyclesWith.l0 k (d : Int) (most : Int) out (n : Int)) (ansI (allc d r n out)) := by
 induction r with
 | zero =>
  intro n out hn h1 hl hg h0
  refine evs (fun k => by rw [impl_CyclesWith.l0]) ?_
  exact evn (by omega) (done_ev out (by rcases h0 with h | h; exact h; omega) (by omega) (fun o ho => by have := (hg o ho).len; omega) _)
 | succ r ih =>
  intro n out hn h1 hl hg _
  have hc := impl_cy d n hd (by omega)
  refine evs (fun k => by rw [impl_CyclesWith.l0]) ?_
  refine evp (by omega) (evb hc ?_)
  unfold allc
  cases h : cy d n with
  | none => exact evn (by simp) (Ev.now _)
  | some c =>
   have hgc := (cy_good h1 (by omega) h).1
   refine evp rfl (evp ⟨hgc.ne, fun o ho => (hg o ho).ne⟩ ?_)
   simp only
   rw [w64o (x := (n : Int) + 1), show (n : Int) + 1 = ((n + 1 : Nat) : Int) by omega]
   by_cases g : (out.any fun o => decide (rd o 0 = rd c 0)) = true
   ·rw [if_pos g]
    refine evp g (ih (n + 1) out (by omega) (by omega) (by omega) hg ?_)
    left
    intro e
    rw [e] at g
    simp at g
   ·rw [if_neg g]
    refine evn g (evp (by omega) (ih (n + 1) (out ++ [c]) (by omega) (by omega) (by simp; omega) (fun o ho => ?_) (Or.inl (by simp))))
    rcases List.mem_append.1 ho with ho | ho
    ·exact hg o ho
    ·rw [List.mem_singleton.1 ho]; exact hgc
def insc (c : List Int) : List (List Int) → List (List Int)
 | [] => [c]
 | o :: l => if rd o 0 < rd c 0 then o :: insc c l else if rd o 0 = rd c 0 then o :: l else c :: o :: l
theorem insc_mem (c : List Int) (l : List (List Int)) : ∀ o, o ∈ insc c l → o = c ∨ o ∈ l := by
 induction l with
 | nil => intro o h; simp [insc] at h; exact Or.inl h
 | cons x l ih =>
  intro o h
  simp only [insc] at h
  split at h
  ·rcases List.mem_cons.1 h with h | h
   ·right; simp [h]
   ·rcases ih o h with h | h
    ·exact Or.inl h
    ·right; simp [h]
  ·split at h
   ·exact Or.inr h
   ·rcases List.mem_cons.1 h with h | h
    ·exact Or.inl h
    ·exact Or.inr h
theorem insc_keep (c : List Int) (l : List (List Int)) : ∀ o, o ∈ l → o ∈ insc c l := by
 induction l with
 | nil => intro o h; simp at h
 | cons x l ih =>
  intro o h
  simp only [insc]
  split
  ·rcases List.mem_cons.1 h with h | h
   ·simp [h]
   ·simp [ih o h]
  ·split
   ·exact h
   ·simp only [List.mem_cons] at h ⊢
    exact Or.inr h
theorem insc_has (c : List Int) (l : List (List Int)) : ∃ o, o ∈ insc c l ∧ rd o 0 = rd c 0 := by
 induction l with
 | nil => exact ⟨c, by simp [insc], rfl⟩
 | cons x l ih =>
  simp only [insc]
  split
  ·obtain ⟨o, h1, h2⟩ := ih
   exact ⟨o, by simp [h1], h2⟩
  ·split
   ·rename_i h; exact ⟨x, by simp, h⟩
   ·exact ⟨c, by simp, rfl⟩
theorem insc_sorted (c : List Int) (l : List (List Int)) (h : l.Pairwise fun a b => rd a 0 < rd b 0) : (insc c l).Pairwise fun a b => rd a 0 < rd b 0 := by
 induction l with
 | nil => simp [insc]
 | cons x l ih =>
  have h1 := List.pairwise_cons.1 h
  simp only [insc]
  split
  ·rename_i g
   refine List.pairwise_cons.2 ⟨fun a ha => ?_, ih h1.2⟩
   rcases insc_mem c l a ha with rfl | ha
   ·exact g
   ·exact h1.1 a ha
  ·split
   ·exact h
   ·refine List.pairwise_cons.2 ⟨fun a ha => ?_, h⟩
    rcases List.mem_cons.1 ha with rfl | ha
    ·omega
    ·have := h1.1 a ha; omega
theorem insc_same (c : List Int) (l : List (List Int)) (h : l.Pairwise fun a b => rd a 0 < rd b 0) : (∃ o ∈ l, rd o 0 = rd c 0) → insc c l = l := by
 induction l with
 | nil => rintro ⟨o, ho, _⟩; simp at ho
 | cons x l ih =>
  rintro ⟨o, ho, e⟩
  have h1 := List.pairwise_cons.1 h
  simp only [insc]
  rcases List.mem_cons.1 ho with rfl | ho
  ·rw [if_neg (by omega), if_pos e]
  ·rw [if_pos (by have := h1.1 o ho; omega), ih h1.2 ⟨o, ho, e⟩]
theorem insc_perm (c : List Int) (l : List (List Int)) : (∀ o ∈ l, rd o 0 ≠ rd c 0) → (insc c l).Perm (c :: l) := by
 induction l with
 | nil => intro _; exact List.Perm.refl _
 | cons x l ih =>
  intro h
  simp only [insc]
  split
  ·exact ((ih (fun o ho => h o (by simp [ho]))).cons x).trans (List.Perm.swap c x l)
  ·rw [if_neg (h x (by simp))]
theorem rdL2_mid (pre post : List (List Int)) (o : List Int) : rd_L2 (pre ++ o :: post) (pre.length : Int) = o := by simp [rd_L2]
theorem l3_ev (d most : Int) (out : List (List Int)) (n : Int) (c : List Int) (R : List (List Int) × Bool) (hc : 0 < c.length) (hout : out.length ≤ 1000000) (hne : ∀ o ∈ out, 0 < o.length) (post : List (List Int)) : ∀ pre : List (List Int), out = pre ++ post →
  Ev (fun k => spec_CyclesWith.l0 k d most (pre ++ insc c post) (wrap64 (n + 1))) R → Ev (fun k => spec_CyclesWith.l3 k d most out n c (pre.length : Int)) R := by
 induction post with
 | nil =>
  intro pre he h
  rw [List.append_nil] at he
  refine evs (fun k => by rw [spec_CyclesWith.l3]) ?_
  rw [Int.toNat_natCast, he, List.take_length, List.drop_length]
  refine evn (by omega) (evc rfl (evp (by omega) (evp (by omega) (evc rfl (evp (by rw [← he]; simp; omega) (evc rfl (evp (by rw [← he]; simp; omega) (evc rfl (evc rfl (evp (by rw [← he]; simp; omega) ?_))))))))))
  rw [List.append_nil]
  exact h
 | cons o post ih =>
  intro pre he h
  have hl : out.length = pre.length + (post.length + 1) := by rw [he]; simp
  have ho := hne o (by rw [he]; simp)
  have hrd : rd_L2 out (pre.length : Int) = o := by rw [he, rdL2_mid]
  have e2 : (((pre ++ [o]).length : Nat) : Int) = (pre.length : Int) + 1 := by simp
  simp only [insc] at h
  refine evs (fun k => by rw [spec_CyclesWith.l3]) ?_
  rw [hrd]
  refine evp (by omega) (evp (by omega) (evp (by omega) (evp (by omega) ?_)))
  by_cases g1 : rd o 0 < rd c 0
  ·rw [if_pos g1] at h
   have h3 := ih (pre ++ [o]) (by rw [he]; simp) (by simpa using h)
   rw [e2] at h3
   rw [w64o (x := (pre.length : Int) + 1)]
   exact evp g1 h3
  ·rw [if_neg g1] at h
   refine evn g1 ?_
   by_cases g2 : rd o 0 = rd c 0
   ·rw [if_pos g2, ← he] at h
    exact evp g2 h
   ·rw [if_neg g2] at h
    have et : out.take pre.length = pre := by rw [he]; simp
    have ed : out.drop pre.length = o :: post := by rw [he]; simp
    rw [Int.toNat_natCast, et, ed]
    refine evn g2 (evc rfl (evp (by omega) (evc rfl (evp (by simp; omega) (evc rfl (evp (by simp; omega) (evc rfl (evc rfl (evp (by simp; omega) ?_)))))))))
    have e5 : ([] ++ pre ++ [c]) ++ (o :: post) = pre ++ c :: o :: post := by simp
    rw [e5]
    exact h
def allo (d : Nat) : Nat → Nat → List (List Int) → Option (List (List Int))
 | 0, _, out => some out
 | r + 1, n, out => match cy d n with
  | none => none
  | some c => allo d r (n + 1) (insc c out)
theorem insc_len (c : List Int) (l : List (List Int)) : (insc c l).length ≤ l.length + 1 := by
 induction l with
 | nil => simp [insc]
 | cons x l ih =>
  simp only [insc]
  split
  ·simp; omega
  ·split <;> simp
theorem spec_all (d : Nat) (hd : d ≤ 99) (most : Nat) (hm : most ≤ 200) (r : Nat) : ∀ (n : Nat) (out : List (List Int)), n + r = most + 1 → 1 ≤ n → out.length ≤ n → (∀ o ∈ out, GC d o) →
  Ev (fun k => spec_CyclesWith.l0 k (d : Int) (most : Int) out (n : Int)) (ansS (allo d r n out)) := by
 induction r with
 | zero =>
  intro n out hn h1 hl hg
  refine evs (fun k => by rw [spec_CyclesWith.l0]) ?_
  exact evn (by omega) (Ev.now _)
 | succ r ih =>
  intro n out hn h1 hl hg
  refine evs (fun k => by rw [spec_CyclesWith.l0]) ?_
  refine evp (by omega) ?_
  have h2 := spec_cyc d n hd h1 (most : Int) out (ansS (allo d (r + 1) n out)) 1000 0 rfl (fun i hi => by
   obtain rfl : i = 0 := by omega
   show n ≤ _
   omega) (fun i j hij hj => by omega) (fun h => by
   have e : cy d n = none := by unfold cy; rw [h]; rfl
   unfold allo
   rw [e]
   rfl) (fun c h => by
   have e : cy d n = some (leastFirst (ic c)) := by unfold cy; rw [h]; rfl
   have hgc := (cy_good h1 (by omega) e).1
   unfold allo
   rw [e]
   simp only
   refine l3_ev (d : Int) (most : Int) out (n : Int) _ _ hgc.ne (by omega) (fun o ho => (hg o ho).ne) out [] rfl ?_
   rw [w64o (x := (n : Int) + 1), show (n : Int) + 1 = ((n + 1 : Nat) : Int) by omega]
   refine ih (n + 1) _ (by omega) (by omega) (by rw [List.nil_append]; have := insc_len (leastFirst (ic c)) out; omega) (fun o ho => ?_)
   rw [List.nil_append] at ho
   rcases insc_mem _ _ o ho with rfl | ho
   ·exact hgc
   ·exact hg o ho)
  exact h2
theorem all_rel (d : Nat) (r : Nat) : ∀ (n : Nat) (O S : List (List Int)), 1 ≤ n → n + r ≤ 1000 → S.Perm O → S.Pairwise (fun a b => rd a 0 < rd b 0) → (∀ o ∈ S, GC d o) →
  (allc d r n O = none ∧ allo d r n S = none) ∨ ∃ O' S', allc d r n O = some O' ∧ allo d r n S = some S' ∧ S'.Perm O' ∧ S'.Pairwise (fun a b => rd a 0 < rd b 0) ∧ (∀ o ∈ S', GC d o) ∧ (∀ o ∈ S', o ∈ S ∨ ∃ m, n ≤ m ∧ m < n + r ∧ cy d m = some o) ∧ (∀ o ∈ S, o ∈ S') ∧ (∀ m, n ≤ m → m < n + r → ∃ c, cy d m = some c ∧ ∃ o ∈ S', rd o 0 = rd c 0) := by
 induction r with
 | zero =>
  intro n O S _ _ hp hs hg
  exact Or.inr ⟨O, S, rfl, rfl, hp, hs, hg, fun o ho => Or.inl ho, fun o ho => ho, fun m h1 h2 => by omega⟩
 | succ r ih =>
  intro n O S hn hb hp hs hg
  unfold allc allo
  cases h : cy d n with
  | none => exact Or.inl ⟨rfl, rfl⟩
  | some c =>
   have hgc := (cy_good hn (by omega) h).1
   simp only
   have hg2 : ∀ o ∈ insc c S, GC d o := fun o ho => by
    rcases insc_mem c S o ho with rfl | ho
    ·exact hgc
    ·exact hg o ho
   have key : ∀ O2 : List (List Int), (insc c S).Perm O2 → (allc d r (n + 1) O2 = none ∧ allo d r (n + 1) (insc c S) = none) ∨ ∃ O' S', allc d r (n + 1) O2 = some O' ∧ allo d r (n + 1) (insc c S) = some S' ∧ S'.Perm O' ∧ S'.Pairwise (fun a b => rd a 0 < rd b 0) ∧ (∀ o ∈ S', GC d o) ∧ (∀ o ∈ S', o ∈ S ∨ ∃ m, n ≤ m ∧ m < n + (r + 1) ∧ cy d m = some o) ∧ (∀ o ∈ S, o ∈ S') ∧ (∀ m, n ≤ m → m < n + (r + 1) → ∃ c, cy d m = some c ∧ ∃ o ∈ S', rd o 0 = rd c 0) := by
    intro O2 hp2
    rcases ih (n + 1) O2 (insc c S) (by omega) (by omega) hp2 (insc_sorted c S hs) hg2 with h1 | ⟨O', S', a1, a2, a3, a4, a5, a6, a7, a8⟩
    ·exact Or.inl h1
    ·refine Or.inr ⟨O', S', a1, a2, a3, a4, a5, fun o ho => ?_, fun o ho => a7 o (insc_keep c S o ho), fun m hm1 hm2 => ?_⟩
     ·rcases a6 o ho with h1 | ⟨m, m1, m2, m3⟩
      ·rcases insc_mem c S o h1 with rfl | h1
       ·exact Or.inr ⟨n, by omega, by omega, h⟩
       ·exact Or.inl h1
      ·exact Or.inr ⟨m, by omega, by omega, m3⟩
     ·by_cases e : m = n
      ·subst e
       obtain ⟨o, o1, o2⟩ := insc_has c S
       exact ⟨c, h, o, a7 o o1, o2⟩
      ·exact a8 m (by omega) (by omega)
   by_cases g : (O.any fun o => decide (rd o 0 = rd c 0)) = true
   ·rw [if_pos g]
    obtain ⟨o, ho, e⟩ := List.any_eq_true.1 g
    have h1 := insc_same c S hs ⟨o, hp.mem_iff.2 ho, of_decide_eq_true e⟩
    exact key O (by rw [h1]; exact hp)
   ·rw [if_neg g]
    refine key (O ++ [c]) ?_
    have h1 := insc_perm c S (fun o ho e => g (List.any_eq_true.2 ⟨o, hp.mem_iff.1 ho, decide_eq_true e⟩))
    exact h1.trans ((hp.cons c).trans (List.perm_append_comm (l₁ := [c]) (l₂ := O)))
theorem cm_first {a b : List Int} (ha : 0 < a.length) (hb : 0 < b.length) (h : rd a 0 < rd b 0) : impl_CyclesWith.cm a b ≤ 0 := by
 cases a with
 | nil => simp at ha
 | cons x a =>
  cases b with
  | nil => simp at hb
  | cons y b =>
   have e : x < y := h
   simp only [impl_CyclesWith.cm]
   rw [if_pos e]
   omega
theorem allo_len (d r : Nat) : ∀ (n : Nat) (S S' : List (List Int)), allo d r n S = some S' → S'.length ≤ S.length + r := by
 induction r with
 | zero =>
  intro n S S' h
  obtain rfl := Option.some.inj h
  omega
 | succ r ih =>
  intro n S S' h
  unfold allo at h
  cases hc : cy d n with
  | none => rw [hc] at h; simp at h
  | some c =>
   rw [hc] at h
   have h1 := ih (n + 1) (insc c S) S' h
   have h2 := insc_len c S
   omega
theorem cycles_both (d most : Nat) (hd : d ≤ 99) (hodd : d % 2 = 1) (h1 : 1 ≤ most) (hm : most ≤ 200) : ∃ A : Option (List (List Int)), Ev (fun k => impl_CyclesWith.f k (d : Int) (most : Int)) (ansS A) ∧ Ev (fun k => spec_CyclesWith.f k (d : Int) (most : Int)) (ansS A) ∧
  ∀ S, A = some S → S.Pairwise (fun a b => rd a 0 < rd b 0) ∧ (∀ o ∈ S, GC d o) ∧ (∀ o ∈ S, ∃ m, 1 ≤ m ∧ m ≤ most ∧ cy d m = some o) ∧ (∀ m, 1 ≤ m → m ≤ most → ∃ c, cy d m = some c ∧ ∃ o ∈ S, rd o 0 = rd c 0) ∧ S.length ≤ 1000 := by
 have hi := impl_all d hd most hm most 1 [] (by omega) (by omega) (by simp) (fun o ho => by simp at ho) (Or.inr h1)
 have hs := spec_all d hd most hm most 1 [] (by omega) (by omega) (by simp) (fun o ho => by simp at ho)
 have ei : impl_isAdded.f (d : Int) = some true := by
  unfold impl_isAdded.f
  rw [impl_in_eq, decide_eq_true (by omega)]
  simp only [Option.bind_some, if_true]
  rw [show (2 : Int) = ((2 : Nat) : Int) from rfl, tmod_cast, hodd]
  rfl
 have es : spec_stAdded.f (d : Int) = some true := by
  unfold spec_stAdded.f
  rw [spec_l1In_eq, decide_eq_true (by omega)]
  simp only [Option.bind_some, if_true]
  rw [show (2 : Int) = ((2 : Nat) : Int) from rfl, tmod_cast, hodd]
  rfl
 have hI : ∀ {R}, Ev (fun k => impl_CyclesWith.l0 k (d : Int) (most : Int) [] ((1 : Nat) : Int)) R → Ev (fun k => impl_CyclesWith.f k (d : Int) (most : Int)) R := by
  intro R h
  unfold impl_CyclesWith.f
  rw [ei]
  simp only [impl_in_eq, Option.bind_some, decide_eq_true_eq]
  exact evp trivial (evp (by omega) h)
 have hS : ∀ {R}, Ev (fun k => spec_CyclesWith.l0 k (d : Int) (most : Int) [] ((1 : Nat) : Int)) R → Ev (fun k => spec_CyclesWith.f k (d : Int) (most : Int)) R := by
  intro R h
  unfold spec_CyclesWith.f
  rw [es]
  simp only [spec_l1In_eq, Option.bind_some]
  refine evp trivial (evs (fun k => by rw [spec_CyclesWith.j0]) ?_)
  rw [decide_eq_true (by omega)]
  exact evn (by simp) h
 rcases all_rel d most 1 [] [] (by omega) (by omega) (List.Perm.refl _) (by simp) (fun o ho => by simp at ho) with ⟨a1, a2⟩ | ⟨O', S', a1, a2, a3, a4, a5, a6, a7, a8⟩
 ·rw [a1] at hi
  rw [a2] at hs
  exact ⟨none, hI hi, hS hs, fun S h => by simp at h⟩
 ·rw [a1] at hi
  rw [a2] at hs
  have e : impl_CyclesWith.srt O' = S' := (impl_CyclesWith.srt_uniq a3 (List.Pairwise.imp_of_mem (fun {a b} ha hb h => cm_first (a5 a ha).ne (a5 b hb).ne h) a4)).symm
  have e2 : ansI (some O') = ansS (some S') := by
   show (impl_CyclesWith.srt O', true) = (S', true)
   rw [e]
  rw [e2] at hi
  refine ⟨some S', hI hi, hS hs, fun S h => ?_⟩
  obtain rfl := Option.some.inj h
  refine ⟨a4, a5, fun o ho => ?_, fun m h1 h2 => a8 m h1 (by omega), by have h9 := allo_len d most 1 [] S' a2; simp at h9; omega⟩
  rcases a6 o ho with h | ⟨m, m1, m2, m3⟩
  ·simp at h
  ·exact ⟨m, m1, by omega, m3⟩
theorem cycles_no (d most : Int) (h : ¬ ((1 ≤ d ∧ d ≤ 99) ∧ Int.tmod d 2 = 1 ∧ 1 ≤ most ∧ most ≤ 200)) : Ev (fun k => impl_CyclesWith.f k d most) (([] : List (List Int)), false) ∧ Ev (fun k => spec_CyclesWith.f k d most) (([] : List (List Int)), false) := by
 unfold impl_CyclesWith.f spec_CyclesWith.f impl_isAdded.f spec_stAdded.f
 simp only [impl_in_eq, spec_l1In_eq, Option.bind_some, decide_eq_true_eq]
 by_cases h1 : 1 ≤ d ∧ d ≤ 99
 ·rw [if_pos h1]
  simp only [Option.bind_some, beq_iff_eq]
  by_cases h2 : Int.tmod d 2 = 1
  ·have h3 : ¬ (1 ≤ most ∧ most ≤ 200) := fun h3 => h ⟨h1, h2, h3⟩
   refine ⟨evp h2 (evn h3 (Ev.now _)), evp h2 (evs (fun k => by rw [spec_CyclesWith.j0]) ?_)⟩
   rw [decide_eq_false h3]
   exact evp rfl (Ev.now _)
  ·exact ⟨evn h2 (Ev.now _), evn h2 (evs (fun k => by rw [spec_CyclesWith.j0]) (evp rfl (Ev.now _)))⟩
 ·rw [if_neg h1]
  simp only [Option.bind_some]
  exact ⟨evn (by simp) (Ev.now _), evn (by simp) (evs (fun k => by rw [spec_CyclesWith.j0]) (evp rfl (Ev.now _)))⟩

theorem low_byte (x : Int) : 0 ≤ Go.bits .and .u64 ((IntKind.u64.wrap x) / 1099511627776) 255 ∧ Go.bits .and .u64 ((IntKind.u64.wrap x) / 1099511627776) 255 ≤ 255 := by
 have h0 : 0 ≤ IntKind.u64.wrap x ∧ IntKind.u64.wrap x < 18446744073709551616 := by rw [IntKind.wrap_u64]; omega
 obtain ⟨y, hy⟩ := Int.eq_ofNat_of_zero_le (show 0 ≤ IntKind.u64.wrap x / 1099511627776 by omega)
 rw [hy]
 have h1 := bits_and_u64_nat y 255 (by omega) (by omega)
 have e : y &&& 255 = y % 256 := Nat.and_two_pow_sub_one_eq_mod y 8
 rw [e] at h1
 rw [show ((255 : Int)) = ((255 : Nat) : Int) from rfl, h1]
 omega
theorem next_ok (l : List Int) (hl : Bs l) (p s : Int) (h0 : 0 ≤ p) (h1 : p ≤ 1000000000000) :
  ∃ v s' : Int, spec_l1Cur_next.f l p s = some (v, p + 1, s') ∧ 0 ≤ v ∧ v ≤ 255 := by
 unfold spec_l1Cur_next.f
 rw [w64o (x := p + 1)]
 by_cases hp : p < (l.length : Int)
 ·have hm := hl _ (rd_mem l p h0 hp)
  rw [if_pos hp, if_pos h0]
  by_cases hq : p + 1 ≤ (l.length : Int)
  ·rw [if_pos hq]
   refine ⟨_, _, rfl, ?_⟩
   rw [w64 (by omega) (by omega)]
   exact hm
  ·omega
 ·rw [if_neg hp]
  by_cases hq : p + 1 ≤ (l.length : Int)
  ·omega
  ·rw [if_neg hq]
   refine ⟨_, _, rfl, ?_⟩
   have h := low_byte (IntKind.u64.wrap (IntKind.u64.wrap (s * 6364136223846793005)) + 1442695040888963407)
   rw [w64 (by omega) (by omega)]
   exact h
theorem pick_ok (l : List Int) (hl : Bs l) (p s n : Int) (h0 : 0 ≤ p) (h1 : p ≤ 999999999990) (hn : n ≤ 1000000) :
  ∃ v p' s' : Int, spec_l1Cur_pick.f l p s n = some (v, p', s') ∧ 0 ≤ v ∧ v ≤ 1000000 ∧ (v = 0 ∨ v < n) ∧ p ≤ p' ∧ p' ≤ p + 2 := by
 unfold spec_l1Cur_pick.f
 by_cases h : n ≤ 1
 ·rw [if_pos h]
  exact ⟨0, p, s, rfl, by omega, by omega, by omega, by omega, by omega⟩
 ·rw [if_neg h]
  obtain ⟨v, s1, e1, h2, h3⟩ := next_ok l hl p s h0 (by omega)
  rw [e1]
  simp only [Option.bind_some]
  by_cases h4 : n > 200
  ·rw [if_pos h4]
   obtain ⟨v2, s2, e2, h5, h6⟩ := next_ok l hl (p + 1) s1 (by omega) (by omega)
   rw [e2]
   simp only [Option.bind_some]
   rw [if_neg (by omega), w64o (x := v * 256), w64 (by omega) (by omega)]
   have h7 := Int.tmod_nonneg n (show 0 ≤ v * 256 + v2 by omega)
   have h8 := Int.tmod_lt_of_pos (v * 256 + v2) (show 0 < n by omega)
   exact ⟨_, _, _, rfl, h7, by omega, Or.inr h8, by omega, by omega⟩
  ·rw [if_neg h4, if_neg (by omega)]
   have h7 := Int.tmod_nonneg n (show 0 ≤ v by omega)
   have h8 := Int.tmod_lt_of_pos v (show 0 < n by omega)
   exact ⟨_, _, _, rfl, h7, by omega, Or.inr h8, by omega, by omega⟩
theorem among_ok (l : List Int) (hl : Bs l) (p s : Int) (m : List Int) (hm : m ≠ []) (hm2 : m.length ≤ 1000000) (h0 : 0 ≤ p) (h1 : p ≤ 999999999990) :
  ∃ v p' s' : Int, spec_l1Cur_among.f l p s m = some (v, p', s') ∧ v ∈ m ∧ p ≤ p' ∧ p' ≤ p + 2 := by
 unfold spec_l1Cur_among.f
 have hpos := List.length_pos_iff.2 hm
 obtain ⟨v, p', s', e1, h2, h3, h4, h5, h6⟩ := pick_ok l hl p s m.length h0 h1 (by omega)
 rw [e1]
 simp only [Option.bind_some]
 rw [if_pos h2, if_pos (by omega)]
 exact ⟨_, _, _, rfl, rd_mem m v h2 (by omega), h5, h6⟩

theorem one_ok (l : List Int) (hl : Bs l) (p s n : Int) (h0 : 0 ≤ p) (h1 : p ≤ 999999999990) (hn : n ≤ 1000000) : ∃ (v : Bool) (p' s' : Int), spec_l1Cur_one.f l p s n = some (v, p', s') ∧ p ≤ p' ∧ p' ≤ p + 2 := by
 obtain ⟨v1, p1, s1, e1, a1, b1, c1, d1, f1⟩ := pick_ok l hl p s n h0 h1 hn
 unfold spec_l1Cur_one.f
 rw [e1]
 exact ⟨_, _, _, rfl, d1, f1⟩
theorem sureNumber_loop (l : List Int) (hl : Bs l) (d : Nat) : ∀ x p s : Int, 0 ≤ p → p + 2 * (d : Int) ≤ 100000000 → ∃ v p' s' : Int, Ev (fun k => spec_l1Cur_sureNumber.l0 k x (d : Int) l p s) (v, p', s') ∧ p ≤ p' ∧ p' ≤ p + 2 * (d : Int) := by
 induction d with
 | zero =>
  intro x p s h0 h1
  exact ⟨x, p, s, evs (fun k => by rw [spec_l1Cur_sureNumber.l0]) (evn (by omega) (Ev.now _)), by omega, by omega⟩
 | succ d ih =>
  intro x p s h0 h1
  obtain ⟨v, p1, s1, e1, _, _, _, h2, h3⟩ := pick_ok l hl p s 10 h0 (by omega) (by omega)
  obtain ⟨v', p2, s2, e2, h4, h5⟩ := ih (wrap64 (wrap64 (x * 10) + v)) p1 s1 (by omega) (by omega)
  refine ⟨v', p2, s2, evs (fun k => by rw [spec_l1Cur_sureNumber.l0]) (evp (by omega) ?_), by omega, by omega⟩
  simp only [e1, Option.bind_some]
  rw [w64 (x := (((d + 1 : Nat)) : Int) - 1) (by omega) (by omega), show (((d + 1 : Nat)) : Int) - 1 = (d : Int) by omega]
  exact e2
theorem sureNumber_ok (l : List Int) (hl : Bs l) (p s : Int) (h0 : 0 ≤ p) (h1 : p ≤ 90000000) : ∃ v p' s' : Int, Ev (fun k => spec_l1Cur_sureNumber.f k l p s) (v, p', s') ∧ p ≤ p' ∧ p' ≤ p + 30 := by
 obtain ⟨v1, p1, s1, e1, a1, b1, c1, d1, f1⟩ := pick_ok l hl p s 8 (by omega) (by omega) (by omega)
 simp only [spec_l1Cur_sureNumber.f, e1, Option.bind_some]
 by_cases h0 : v1 = 0
 ·obtain ⟨v2, p2, s2, e2, a2, b2, c2, d2, f2⟩ := pick_ok l hl p1 s1 256 (by omega) (by omega) (by omega)
  refine ⟨v2, p2, s2, evp h0 ?_, by omega, by omega⟩
  simp only [e2, Option.bind_some]
  exact Ev.now _
 ·by_cases h1 : v1 = 1
  ·obtain ⟨v, p2, s2, e2, _, h2, h3⟩ := among_ok l hl p1 s1 [0, 1, 9, 10, 99, 100, 153, 370, 1000, 6174, 9999, 999999999999, 1000000000000] (by simp) (by simp) (by omega) (by omega)
   refine ⟨v, p2, s2, evn h0 (evp h1 ?_), by omega, by omega⟩
   simp only [e2, Option.bind_some]
   exact Ev.now _
  ·by_cases h2 : v1 = 2
   ·obtain ⟨v2, p2, s2, e2, a2, b2, c2, d2, f2⟩ := pick_ok l hl p1 s1 256 (by omega) (by omega) (by omega)
    obtain ⟨v3, p3, s3, e3, a3, b3, c3, d3, f3⟩ := pick_ok l hl p2 s2 256 (by omega) (by omega) (by omega)
    refine ⟨wrap64 (v2 * v3), p3, s3, evn h0 (evn h1 (evp h2 ?_)), by omega, by omega⟩
    simp only [e2, e3, Option.bind_some]
    exact Ev.now _
   ·obtain ⟨v2, p2, s2, e2, a2, b2, c2, d2, f2⟩ := pick_ok l hl p1 s1 11 (by omega) (by omega) (by omega)
    obtain ⟨d, rfl⟩ := natOf (a := v2) a2
    obtain ⟨v3, p3, s3, e3, h4, h5⟩ := sureNumber_loop l hl (1 + d) 0 p2 s2 (by omega) (by omega)
    refine ⟨v3, p3, s3, evn h0 (evn h1 (evn h2 ?_)), by omega, by omega⟩
    simp only [e2, Option.bind_some]
    rw [w64o (x := (1 : Int) + (d : Int))]
    simpa using e3

theorem spoilt_loop (l : List Int) (hl : Bs l) (w : ByteArray) (hw : 1 ≤ w.size) (hw2 : w.size ≤ 100) (d : Nat) : ∀ (t : ByteArray) (p s : Int), 0 ≤ p → p + 10 * (d : Int) ≤ 100000000 → t.size + d ≤ 1000 →
  ∃ (t' : ByteArray) (p' s' : Int), t'.size ≤ t.size + d ∧ Ev (fun k => spec_l1Cur_spoilt.l0 k t w (d : Int) l p s) (t', p', s') := by
 induction d with
 | zero =>
  intro t p s h0 h1 h2
  refine ⟨t, p, s, by omega, evs (fun k => by rw [spec_l1Cur_spoilt.l0]) (evn (by omega) ?_)⟩
  refine evs (fun k => by rw [spec_l1Cur_spoilt.j1]) ?_
  exact evn (by simp) (Ev.now _)
 | succ d ih =>
  intro t p s h0 h1 h2
  by_cases ht : (t.size : Int) > 0
  ·obtain ⟨i, p1, s1, e1, a1, _, c1, d1, f1⟩ := pick_ok l hl p s (t.size : Int) h0 (by omega) (by omega)
   obtain ⟨j, p2, s2, e2, a2, _, c2, d2, f2⟩ := pick_ok l hl p1 s1 (w.size : Int) (by omega) (by omega) (by omega)
   obtain ⟨m, p3, s3, e3, a3, _, c3, d3, f3⟩ := pick_ok l hl p2 s2 3 (by omega) (by omega) (by omega)
   obtain ⟨i, rfl⟩ := natOf a1
   have hi : i < t.size := by omega
   have z1 : (t.extract 0 (i : Int).toNat).size = i := by rw [Int.toNat_natCast, ByteArray.size_extract]; omega
   have z2 : (strOfNums [bt w j]).size = 1 := by rw [strOfNums_size]; rfl
   have z3 : (t.extract (i : Int).toNat t.size).size = t.size - i := by rw [Int.toNat_natCast, ByteArray.size_extract]; omega
   have z4 : (t.extract ((i : Int) + 1).toNat t.size).size = t.size - (i + 1) := by rw [show ((i : Int) + 1).toNat = i + 1 by omega, ByteArray.size_extract]; omega
   have go : ∀ t2 : ByteArray, t2.size ≤ t.size + 1 → (∀ (r : ByteArray × Int × Int), Ev (fun k => spec_l1Cur_spoilt.l0 k t2 w (wrap64 (((d + 1 : Nat) : Int) - 1)) l p3 s3) r → Ev (fun k => spec_l1Cur_spoilt.j1 k t w ((d + 1 : Nat) : Int) true l p s) r) →
     ∃ (t' : ByteArray) (p' s' : Int), t'.size ≤ t.size + (d + 1) ∧ Ev (fun k => spec_l1Cur_spoilt.l0 k t w ((d + 1 : Nat) : Int) l p s) (t', p', s') := by
    intro t2 h3 h4
    obtain ⟨t', p', s', g1, g2⟩ := ih t2 p3 s3 (by omega) (by omega) (by omega)
    refine ⟨t', p', s', by omega, evs (fun k => by rw [spec_l1Cur_spoilt.l0]) (evp (by omega) ?_)⟩
    rw [decide_eq_true ht]
    refine h4 _ ?_
    rw [w64 (x := (((d + 1 : Nat)) : Int) - 1) (by omega) (by omega), show (((d + 1 : Nat)) : Int) - 1 = (d : Int) by omega]
    exact g2
   by_cases g0 : m = 0
   ·refine go (((t.extract 0 (i : Int).toNat) ++ (strOfNums [bt w j])) ++ (t.extract (i : Int).toNat t.size)) (by rw [ByteArray.size_append, ByteArray.size_append, z1, z2, z3]; omega) (fun r hr => ?_)
    refine evs (fun k => by rw [spec_l1Cur_spoilt.j1]) (evp rfl ?_)
    simp only [e1, e2, e3, Option.bind_some]
    exact evp a2 (evp (by omega) (evp g0 (evp (by omega) (evp (by omega) (evp (by rw [z1, z2]; omega) (evp (by rw [ByteArray.size_append, z1, z2, z3]; omega) hr))))))
   ·by_cases g1 : m = 1
    ·refine go (((t.extract 0 (i : Int).toNat) ++ (strOfNums [bt w j])) ++ (t.extract ((i : Int) + 1).toNat t.size)) (by rw [ByteArray.size_append, ByteArray.size_append, z1, z2, z4]; omega) (fun r hr => ?_)
     refine evs (fun k => by rw [spec_l1Cur_spoilt.j1]) (evp rfl ?_)
     simp only [e1, e2, e3, Option.bind_some]
     rw [w64o (x := (i : Int) + 1)]
     exact evp a2 (evp (by omega) (evn g0 (evp g1 (evp (by omega) (evp (by omega) (evp (by rw [z1, z2]; omega) (evp (by omega) (evp (by omega) (evp (by rw [ByteArray.size_append, z1, z2, z4]; omega) hr)))))))))
    ·refine go ((t.extract 0 (i : Int).toNat) ++ (t.extract ((i : Int) + 1).toNat t.size)) (by rw [ByteArray.size_append, z1, z4]; omega) (fun r hr => ?_)
     refine evs (fun k => by rw [spec_l1Cur_spoilt.j1]) (evp rfl ?_)
     simp only [e1, e2, e3, Option.bind_some]
     rw [w64o (x := (i : Int) + 1)]
     exact evp a2 (evp (by omega) (evn g0 (evn g1 (evp (by omega) (evp (by omega) (evp (by omega) (evp (by omega) (evp (by rw [z1, z4]; omega) hr))))))))
  ·refine ⟨t, p, s, by omega, evs (fun k => by rw [spec_l1Cur_spoilt.l0]) (evp (by omega) ?_)⟩
   rw [decide_eq_false ht]
   refine evs (fun k => by rw [spec_l1Cur_spoilt.j1]) ?_
   exact evn (by simp) (Ev.now _)

theorem of_ok (l : List Int) (hl : Bs l) (p s : Int) (h0 : 0 ≤ p) (h1 : p ≤ 999999999990) : ∃ (v : ByteArray) (p' s' : Int), spec_l1Cur_of.f l p s [(⟨#[48]⟩ : ByteArray), (⟨#[49]⟩ : ByteArray)] = some (v, p', s') ∧ v.size = 1 ∧ p ≤ p' ∧ p' ≤ p + 2 := by
 obtain ⟨v, p1, s1, e1, a1, _, c1, d1, f1⟩ := pick_ok l hl p s 2 h0 h1 (by omega)
 unfold spec_l1Cur_of.f
 rw [show ((([(⟨#[48]⟩ : ByteArray), (⟨#[49]⟩ : ByteArray)] : List ByteArray).length : Nat) : Int) = 2 from rfl, e1]
 simp only [Option.bind_some]
 rcases (show v = 0 ∨ v = 1 by omega) with rfl | rfl
 ·exact ⟨_, _, _, rfl, rfl, d1, f1⟩
 ·exact ⟨_, _, _, rfl, rfl, d1, f1⟩
theorem letters_loop (l : List Int) (hl : Bs l) (d : Nat) : ∀ (t : ByteArray) (p s : Int), 0 ≤ p → p + 2 * (d : Int) ≤ 1000000 → t.size + d ≤ 100 →
  ∃ (t' : ByteArray) (p' s' : Int), t'.size ≤ 1000 ∧ Ev (fun k => spec_l1Cur_letters.l0 k t (d : Int) l p s) (t', p', s') := by
 induction d with
 | zero =>
  intro t p s h0 h1 h2
  obtain ⟨v, p1, s1, e1, d1, f1⟩ := one_ok l hl p s 12 h0 (by omega) (by omega)
  by_cases g : v = true
  ·obtain ⟨m, p2, s2, e2, a2, _, c2, d2, f2⟩ := pick_ok l hl p1 s1 2 (by omega) (by omega) (by omega)
   obtain ⟨m, rfl⟩ := natOf a2
   have z : (t ++ (⟨#[49]⟩ : ByteArray)).size = t.size + 1 := by rw [ByteArray.size_append]; rfl
   obtain ⟨t', p3, s3, g1, g2⟩ := spoilt_loop l hl (⟨#[48, 49, 50, 120]⟩ : ByteArray) (by decide) (by decide) (1 + m) (t ++ (⟨#[49]⟩ : ByteArray)) p2 s2 (by omega) (by omega) (by omega)
   refine ⟨t', p3, s3, by omega, evs (fun k => by rw [spec_l1Cur_letters.l0]) (evn (by omega) ?_)⟩
   simp only [e1, Option.bind_some]
   refine evp g (evp (by omega) (evb (a := (t', p3, s3)) ?_ (Ev.now _)))
   simp only [spec_l1Cur_spoilt.f, e2, Option.bind_some]
   rw [w64o (x := (1 : Int) + (m : Int)), show (1 : Int) + (m : Int) = ((1 + m : Nat) : Int) by omega]
   exact g2
  ·refine ⟨t, p1, s1, by omega, evs (fun k => by rw [spec_l1Cur_letters.l0]) (evn (by omega) ?_)⟩
   simp only [e1, Option.bind_some]
   exact evn g (Ev.now _)
 | succ d ih =>
  intro t p s h0 h1 h2
  obtain ⟨v, p1, s1, e1, hv, d1, f1⟩ := of_ok l hl p s h0 (by omega)
  have z : (t ++ v).size = t.size + 1 := by rw [ByteArray.size_append, hv]
  obtain ⟨t', p', s', g1, g2⟩ := ih (t ++ v) p1 s1 (by omega) (by omega) (by omega)
  refine ⟨t', p', s', g1, evs (fun k => by rw [spec_l1Cur_letters.l0]) (evp (by omega) ?_)⟩
  simp only [e1, Option.bind_some]
  rw [w64 (x := (((d + 1 : Nat)) : Int) - 1) (by omega) (by omega), show (((d + 1 : Nat)) : Int) - 1 = (d : Int) by omega]
  exact evp (by omega) g2
theorem drawWord_ok (l : List Int) (hl : Bs l) : ∃ t : ByteArray, t.size ≤ 1000 ∧ Ev (fun k => spec_DrawNumberOfWord.f k l) t := by
 obtain ⟨v, p1, s1, e1, hm, d1, f1⟩ := among_ok l hl 0 0 [0, 1, 2, 4, 7, 12, 20, 21] (by simp) (by simp) (by omega) (by omega)
 have hv : 0 ≤ v ∧ v ≤ 21 := by
  simp only [List.mem_cons, List.not_mem_nil, or_false] at hm
  omega
 obtain ⟨v, rfl⟩ := natOf hv.1
 obtain ⟨t, p2, s2, g1, g2⟩ := letters_loop l hl v (⟨#[]⟩ : ByteArray) p1 s1 (by omega) (by omega) (by show 0 + v ≤ 100; omega)
 refine ⟨t, g1, ?_⟩
 unfold spec_DrawNumberOfWord.f
 refine evb (a := (t, p2, s2)) ?_ (Ev.now _)
 unfold spec_l1Cur_letters.f
 exact evc e1 g2

theorem all_iff (w : ByteArray) (n : Nat) : impl_isParity.all w n = true ↔ ∀ i : Nat, i < n → bt w (i : Int) = 48 ∨ bt w (i : Int) = 49 := by
 induction n with
 | zero => simp [impl_isParity.all]
 | succ n ih =>
  simp only [impl_isParity.all, impl_isParity.ok, Bool.and_eq_true, ih, decide_eq_true_eq]
  constructor
  ·intro h i hi
   by_cases e : i = n
   ·subst e; exact h.2
   ·exact h.1 i (by omega)
  ·intro h
   exact ⟨fun i hi => h i (by omega), h n (by omega)⟩
theorem letters_ev (w : ByteArray) (hw : w.size ≤ 20) (e : Nat) : ∀ i : Nat, i + e = w.size → impl_isParity.all w i = true → Ev (fun k => spec_stLetters.l0 k w (i : Int)) (impl_isParity.all w w.size) := by
 induction e with
 | zero =>
  intro i h ha
  have : i = w.size := by omega
  subst this
  rw [ha]
  refine evs (fun k => by rw [spec_stLetters.l0]) ?_
  exact evn (by omega) (Ev.now _)
 | succ e ih =>
  intro i h ha
  refine evs (fun k => by rw [spec_stLetters.l0]) ?_
  refine evp (by omega) (evp (by omega) ?_)
  rw [w64o (x := (i : Int) + 1)]
  by_cases h1 : bt w (i : Int) = 48 ∨ bt w (i : Int) = 49
  ·have h2 := ih (i + 1) (by omega) (by simp only [impl_isParity.all, impl_isParity.ok, ha, Bool.true_and, decide_eq_true_eq]; exact h1)
   rw [show ((i + 1 : Nat) : Int) = (i : Int) + 1 by omega] at h2
   by_cases h3 : bt w (i : Int) = 48
   ·exact evp h3 h2
   ·exact evn h3 (evp (by omega) h2)
  ·have h2 : impl_isParity.all w w.size = false := by
    cases hb : impl_isParity.all w w.size with
    | false => rfl
    | true => exact absurd ((all_iff _ _).1 hb i (by omega)) h1
   rw [h2]
   exact evn (by omega) (evn (by omega) (Ev.now _))

theorem shl_nat (x p : Nat) (hp : p ≤ 60) (h : x * 2 ^ p ≤ 9223372036854775807) : shl .i64 (x : Int) (p : Int) = ((x * 2 ^ p : Nat) : Int) := by
 unfold shl
 rw [Int.toNat_natCast, show IntKind.bits .i64 = 64 from rfl, Nat.min_eq_left (by omega), i64_w]
 have e : (x : Int) * 2 ^ p = ((x * 2 ^ p : Nat) : Int) := by simp
 rw [e, w64n _ h]

theorem impl_gcd_loop (b : Nat) : ∀ a : Nat, Ev (fun k => impl_gcd.l0 k (a : Int) (b : Int)) ((Nat.gcd a b : Nat) : Int) := by
 induction b using Nat.strongRecOn with
 | _ b ih =>
  intro a
  refine evs (fun k => by rw [impl_gcd.l0]) ?_
  by_cases hb : b = 0
  ·subst hb
   exact evp (by simp) (evr (by simp))
  ·refine evn (by omega) ?_
   rw [tmod_cast, Nat.gcd_comm a b, Nat.gcd_rec, Nat.gcd_comm]
   exact ih (a % b) (Nat.mod_lt _ (by omega)) b
theorem impl_gcd_ev (a b : Nat) : Ev (fun k => impl_gcd.f k (a : Int) (b : Int)) ((Nat.gcd a b : Nat) : Int) := impl_gcd_loop b a

def bo (w : ByteArray) (i : Nat) : Bool := decide (bt w (i : Int) = 49)
def on (w : ByteArray) : Nat → Nat
 | 0 => 0
 | i + 1 => on w i + if bo w i = true then 1 else 0
theorem on_le (w : ByteArray) (i : Nat) : on w i ≤ i := by
 induction i with
 | zero => exact Nat.le_refl _
 | succ i ih => simp only [on]; split <;> omega
theorem on_mono (w : ByteArray) (i e : Nat) : on w i ≤ on w (i + e) := by
 induction e with
 | zero => exact Nat.le_refl _
 | succ e ih => show _ ≤ on w (i + e) + _; omega
def tm (w : ByteArray) (J q : Nat) : Nat := if bo w q = true then 2 ^ q * 3 ^ (J - on w (q + 1)) else 0
def sm (w : ByteArray) (J : Nat) : Nat → Nat
 | 0 => 0
 | i + 1 => sm w J i + tm w J i
theorem p23 (q j : Nat) (hq : q ≤ 20) (hj : j ≤ 20) : 2 ^ q ≤ 1048576 ∧ 3 ^ j ≤ 3486784401 ∧ 1 ≤ 2 ^ q ∧ 1 ≤ 3 ^ j := by
 have h1 : 2 ^ q ≤ 2 ^ 20 := Nat.pow_le_pow_right (by omega) hq
 have h2 : 3 ^ j ≤ 3 ^ 20 := Nat.pow_le_pow_right (by omega) hj
 have h3 : 2 ^ 20 = 1048576 := by decide
 have h4 : 3 ^ 20 = 3486784401 := by decide
 have h5 : 0 < 2 ^ q := Nat.pow_pos (by omega)
 have h6 : 0 < 3 ^ j := Nat.pow_pos (by omega)
 omega
theorem tm_le (w : ByteArray) (J q : Nat) (hJ : J ≤ 20) (hq : q ≤ 20) : tm w J q ≤ 3656158440062976 := by
 unfold tm
 split
 ·obtain ⟨h1, h2, _, _⟩ := p23 q (J - on w (q + 1)) hq (by omega)
  have := Nat.mul_le_mul h1 h2
  omega
 ·omega
theorem sm_le (w : ByteArray) (J i : Nat) (hJ : J ≤ 20) (hi : i ≤ 20) : sm w J i ≤ i * 3656158440062976 := by
 induction i with
 | zero => exact Nat.zero_le _
 | succ i ih =>
  have h1 := ih (by omega)
  have h2 := tm_le w J i hJ (by omega)
  simp only [sm]
  rw [Nat.add_mul]
  omega
theorem sm_mono (w : ByteArray) (J i e : Nat) : sm w J i ≤ sm w J (i + e) := by
 induction e with
 | zero => exact Nat.le_refl _
 | succ e ih => show _ ≤ sm w J (i + e) + _; omega
theorem impl_p3 (p : Nat) (hp : p ≤ 20) (e : Nat) : ∀ i : Nat, i + e = p → Ev (fun k => impl_toPower.l0 k 3 ((3 ^ i : Nat) : Int) (p : Int) (i : Int)) ((3 ^ p : Nat) : Int) := by
 induction e with
 | zero =>
  intro i h
  obtain rfl : i = p := h
  refine evs (fun k => by rw [impl_toPower.l0]) ?_
  exact evn (by omega) (Ev.now _)
 | succ e ih =>
  intro i h
  have h1 := (p23 0 (i + 1) (by omega) (by omega)).2.1
  have h2 := ih (i + 1) (by omega)
  rw [show ((i + 1 : Nat) : Int) = (i : Int) + 1 by omega] at h2
  refine evs (fun k => by rw [impl_toPower.l0]) ?_
  rw [w64o (x := (i : Int) + 1), show ((3 ^ i : Nat) : Int) * 3 = ((3 ^ (i + 1) : Nat) : Int) by rw [Nat.pow_succ, Int.natCast_mul]; rfl, w64n _ (by omega)]
  exact evp (by omega) h2
theorem impl_p3_ev (p : Nat) (hp : p ≤ 20) : Ev (fun k => impl_toPower.f k 3 (p : Int)) ((3 ^ p : Nat) : Int) := impl_p3 p hp p 0 (by omega)
theorem spec_po (b p : Nat) (hb : b = 2 ∨ b = 3) (hp : p ≤ 20) (e : Nat) : ∀ i : Nat, i + e = p → Ev (fun k => spec_pwOf.l0 k (b : Int) (e : Int) ((b ^ i : Nat) : Int)) ((b ^ p : Nat) : Int) := by
 have hB : ∀ i, i ≤ 20 → b ^ i ≤ 3486784401 := fun i hi => by
  have h1 := p23 i i hi hi
  rcases hb with rfl | rfl <;> omega
 induction e with
 | zero =>
  intro i h
  obtain rfl : i = p := h
  refine evs (fun k => by rw [spec_pwOf.l0]) ?_
  exact evn (by omega) (Ev.now _)
 | succ e ih =>
  intro i h
  have h1 := hB (i + 1) (by omega)
  have h2 := ih (i + 1) (by omega)
  refine evs (fun k => by rw [spec_pwOf.l0]) ?_
  rw [w64o (x := ((e + 1 : Nat) : Int) - 1), show ((e + 1 : Nat) : Int) - 1 = (e : Int) by omega, show ((b ^ i : Nat) : Int) * (b : Int) = ((b ^ (i + 1) : Nat) : Int) by rw [Nat.pow_succ, Int.natCast_mul], w64n _ (by omega)]
  exact evp (by omega) h2
theorem spec_po_ev (b p : Nat) (hb : b = 2 ∨ b = 3) (hp : p ≤ 20) : Ev (fun k => spec_pwOf.f k (b : Int) (p : Int)) ((b ^ p : Nat) : Int) := spec_po b p hb hp p 0 (by omega)
theorem ones_ev (w : ByteArray) (hw : w.size ≤ 20) (e : Nat) : ∀ i : Nat, i + e = w.size → Ev (fun k => spec_stOnes.l0 k w ((on w i : Nat) : Int) (i : Int)) ((on w w.size : Nat) : Int) := by
 induction e with
 | zero =>
  intro i h
  have h : i = w.size := by omega
  subst h
  refine evs (fun k => by rw [spec_stOnes.l0]) ?_
  exact evn (by omega) (Ev.now _)
 | succ e ih =>
  intro i h
  have h2 := ih (i + 1) (by omega)
  have h3 := on_le w i
  simp only [on, bo, decide_eq_true_eq] at h2
  rw [show ((i + 1 : Nat) : Int) = (i : Int) + 1 by omega] at h2
  refine evs (fun k => by rw [spec_stOnes.l0]) ?_
  rw [w64o (x := (i : Int) + 1), w64o (x := ((on w i : Nat) : Int) + 1)]
  refine evp (by omega) (evp (by omega) ?_)
  by_cases g : bt w (i : Int) = 49
  ·rw [if_pos g] at h2
   exact evp g h2
  ·rw [if_neg g] at h2
   exact evn g h2
theorem mpGcd_ev (b : Nat) : ∀ a : Nat, Ev (fun k => spec_mpGcd.f k (a : Int) (b : Int)) ((Nat.gcd a b : Nat) : Int) := by
 induction b using Nat.strongRecOn with
 | _ b ih =>
  intro a
  refine evs (fun k => by rw [spec_mpGcd.f]) ?_
  by_cases hb : b = 0
  ·subst hb
   exact evp (by simp) (evr (by simp))
  ·refine evn (by omega) ?_
   rw [tmod_cast]
   have h := ih (a % b) (Nat.mod_lt _ (by omega)) b
   rw [show Nat.gcd b (a % b) = Nat.gcd a b by rw [Nat.gcd_comm a b, Nat.gcd_rec b a, Nat.gcd_comm]] at h
   exact evb h (Ev.now _)
def wnum (w : ByteArray) : Nat := sm w (on w w.size) w.size
def wden (w : ByteArray) : Int := ((2 ^ w.size : Nat) : Int) - ((3 ^ on w w.size : Nat) : Int)
def wg (w : ByteArray) : Nat := Nat.gcd (wnum w) (wden w).natAbs
def wres (w : ByteArray) : Int × Int × Bool := if wden w < 0 then (Int.tdiv (-((wnum w : Nat) : Int)) ((wg w : Nat) : Int), Int.tdiv (-(wden w)) ((wg w : Nat) : Int), true) else (Int.tdiv ((wnum w : Nat) : Int) ((wg w : Nat) : Int), Int.tdiv (wden w) ((wg w : Nat) : Int), true)
theorem w_facts (w : ByteArray) (h1 : 1 ≤ w.size) (h2 : w.size ≤ 20) : wnum w ≤ 73123168801259520 ∧ -3486784401 ≤ wden w ∧ wden w ≤ 1048576 ∧ wden w ≠ 0 ∧ 1 ≤ wg w := by
 have hJ := on_le w w.size
 have a1 := sm_le w (on w w.size) w.size (by omega) h2
 obtain ⟨b1, b2, b3, b4⟩ := p23 w.size (on w w.size) h2 (by omega)
 have hne : (2 ^ w.size : Nat) ≠ 3 ^ on w w.size := by
  intro e
  have e1 : (2 ^ w.size : Nat) % 2 = 0 := by
   obtain ⟨m, hm⟩ : ∃ m, w.size = m + 1 := ⟨w.size - 1, by omega⟩
   rw [hm, Nat.pow_succ, Nat.mul_mod_left]
  have e2 : ∀ j : Nat, 3 ^ j % 2 = 1 := fun j => by
   induction j with
   | zero => rfl
   | succ j ih => rw [Nat.pow_succ, Nat.mul_mod, ih]
  have e3 := e2 (on w w.size)
  omega
 have hd : wden w ≠ 0 := by unfold wden; omega
 refine ⟨by unfold wnum; omega, by unfold wden; omega, by unfold wden; omega, hd, ?_⟩
 unfold wg
 have := Nat.gcd_pos_of_pos_right (wnum w) (show 0 < (wden w).natAbs by omega)
 omega
theorem wgcd (w : ByteArray) : Ev (fun k => impl_gcd.f k ((wnum w : Nat) : Int) (((wden w).natAbs : Nat) : Int)) ((wg w : Nat) : Int) ∧ Ev (fun k => spec_mpGcd.f k ((wnum w : Nat) : Int) (((wden w).natAbs : Nat) : Int)) ((wg w : Nat) : Int) := ⟨impl_gcd_ev _ _, mpGcd_ev _ _⟩
theorem tdiv_small {a b : Int} (hb : 1 ≤ b) (h1 : -9223372036854775807 ≤ a) (h2 : a ≤ 9223372036854775807) : wrap64 (Int.tdiv a b) = Int.tdiv a b := by
 have h3 : (Int.tdiv a b).natAbs ≤ a.natAbs := by rw [Int.natAbs_tdiv]; exact Nat.div_le_self _ _
 rw [w64 (by omega) (by omega)]
theorem word_neg (G : Nat → Int → Int → Option Int) (N : Nat) (D : Int) (g : Nat) (hN : N ≤ 73123168801259520) (h1 : -3486784401 ≤ D) (h2 : D < 0) (hG : Ev (fun k => G k (N : Int) ((D.natAbs : Nat) : Int)) (g : Int)) (hg : 1 ≤ g) :
  Ev (fun k => (G k (N : Int) (wrap64 (-D))).bind fun t => (if t = 0 then (none) else (some (wrap64 (Int.tdiv (wrap64 (-(N : Int))) t), wrap64 (Int.tdiv (wrap64 (-D)) t), true)))) (Int.tdiv (-(N : Int)) (g : Int), Int.tdiv (-D) (g : Int), true) := by
 rw [w64o (x := -D), w64o (x := -(N : Int))]
 rw [show ((D.natAbs : Nat) : Int) = -D by omega] at hG
 refine evb hG (evn (by omega) (evr ?_))
 rw [tdiv_small (by omega) (by omega) (by omega), tdiv_small (by omega) (by omega) (by omega)]
theorem word_pos (G : Nat → Int → Int → Option Int) (N : Nat) (D : Int) (g : Nat) (hN : N ≤ 73123168801259520) (h1 : 0 < D) (h2 : D ≤ 1048576) (hG : Ev (fun k => G k (N : Int) ((D.natAbs : Nat) : Int)) (g : Int)) (hg : 1 ≤ g) :
  Ev (fun k => (G k (N : Int) D).bind fun t => (if t = 0 then (none) else (some (wrap64 (Int.tdiv (N : Int) t), wrap64 (Int.tdiv D t), true)))) (Int.tdiv (N : Int) (g : Int), Int.tdiv D (g : Int), true) := by
 rw [show ((D.natAbs : Nat) : Int) = D by omega] at hG
 refine evb hG (evn (by omega) (evr ?_))
 rw [tdiv_small (by omega) (by omega) (by omega), tdiv_small (by omega) (by omega) (by omega)]
theorem abs_neg (N : Nat) (hN : N ≤ 73123168801259520) : mx (wrap64 (-(N : Int))) (wrap64 (-(wrap64 (-(N : Int))))) = (N : Int) ∧ spec_l1Abs.f (wrap64 (-(N : Int))) = some (N : Int) ∧ mx (N : Int) (wrap64 (-(N : Int))) = (N : Int) ∧ spec_l1Abs.f (N : Int) = some (N : Int) := by
 unfold spec_l1Abs.f spec_l1Most.f mx
 rw [w64o (x := -(N : Int)), Int.neg_neg, w64n N (by omega)]
 refine ⟨by split <;> omega, ?_, by split <;> omega, ?_⟩
 ·by_cases h : -(N : Int) > (N : Int)
  ·omega
  ·rw [if_neg h]; rfl
 ·by_cases h : (N : Int) > -(N : Int)
  ·rw [if_pos h]; rfl
  ·rw [if_neg h, show -(N : Int) = (N : Int) by omega]; rfl
theorem impl_word (w : ByteArray) (h1 : 1 ≤ w.size) (h2 : w.size ≤ 20) (i : Nat) : i ≤ w.size → Ev (fun k => impl_CycleOfWord.l0 k w ((sm w (on w w.size) w.size - sm w (on w w.size) i : Nat) : Int) ((on w w.size - on w i : Nat) : Int) ((i : Int) - 1)) (wres w) := by
 have hJ := on_le w w.size
 have hs := sm_le w (on w w.size) w.size (by omega) h2
 induction i with
 | zero =>
  intro _
  obtain ⟨f1, f2, f3, f4, f5⟩ := w_facts w h1 h2
  obtain ⟨b1, b2, b3, b4⟩ := p23 w.size (on w w.size) h2 (by omega)
  have hp := impl_p3_ev (on w w.size) (by omega)
  have es := shl_nat 1 w.size (by omega) (by omega)
  rw [Nat.one_mul] at es
  have es2 : shl .i64 1 (w.size : Int) = ((2 ^ w.size : Nat) : Int) := es
  have hd : wrap64 (((2 ^ w.size : Nat) : Int) - ((3 ^ on w w.size : Nat) : Int)) = wden w := by
   unfold wden
   rw [w64 (by omega) (by omega)]
  have hg := (wgcd w).1
  have e0 : (sm w (on w w.size) w.size - sm w (on w w.size) 0 : Nat) = wnum w := by simp [sm, wnum]
  have e1 : (on w w.size - on w 0 : Nat) = on w w.size := by simp [on]
  rw [e0, e1]
  refine evs (fun k => by rw [impl_CycleOfWord.l0]) ?_
  refine evn (by omega) (evb hp ?_)
  rw [es2, hd]
  clear hd es es2 hp hs
  unfold wres
  obtain ⟨a1, a2, a3, a4⟩ := abs_neg (wnum w) f1
  by_cases hneg : wden w < 0
  ·rw [if_pos hneg, a1]
   exact evp hneg (word_neg impl_gcd.f (wnum w) (wden w) (wg w) f1 f2 hneg hg f5)
  ·rw [if_neg hneg, a3]
   exact evn hneg (word_pos impl_gcd.f (wnum w) (wden w) (wg w) f1 (by omega) f3 hg f5)
 | succ i ih =>
  intro hi
  have ih := ih (by omega)
  have h3 := on_mono w (i + 1) (w.size - (i + 1))
  rw [show i + 1 + (w.size - (i + 1)) = w.size by omega] at h3
  have h4 := sm_mono w (on w w.size) (i + 1) (w.size - (i + 1))
  rw [show i + 1 + (w.size - (i + 1)) = w.size by omega] at h4
  have h5 : on w (i + 1) = on w i + if bo w i = true then 1 else 0 := rfl
  have h6 : sm w (on w w.size) (i + 1) = sm w (on w w.size) i + tm w (on w w.size) i := rfl
  refine evs (fun k => by rw [impl_CycleOfWord.l0]) ?_
  rw [show ((i + 1 : Nat) : Int) - 1 = (i : Int) by omega, w64o (x := (i : Int) - 1)]
  refine evp (by omega) (evp (by omega) (evp (by omega) ?_))
  by_cases g : bt w (i : Int) = 49
  ·have gb : bo w i = true := decide_eq_true g
   have h7 : tm w (on w w.size) i = 2 ^ i * 3 ^ (on w w.size - on w (i + 1)) := by unfold tm; rw [if_pos gb]
   have h8 := tm_le w (on w w.size) i (by omega) (by omega)
   have es := shl_nat 1 i (by omega) (by have := (p23 i 0 (by omega) (by omega)).1; omega)
   rw [Nat.one_mul] at es
   have es2 : shl .i64 1 (i : Int) = ((2 ^ i : Nat) : Int) := es
   rw [if_pos gb] at h5
   refine evp g (evb (impl_p3_ev (on w w.size - on w (i + 1)) (by omega)) ?_)
   rw [es2, ← Int.natCast_mul, ← h7, w64n _ (by omega)]
   have e1 : wrap64 (((sm w (on w w.size) w.size - sm w (on w w.size) (i + 1) : Nat) : Int) + ((tm w (on w w.size) i : Nat) : Int)) = ((sm w (on w w.size) w.size - sm w (on w w.size) i : Nat) : Int) := by
    rw [w64 (by omega) (by omega)]
    omega
   have e2 : wrap64 (((on w w.size - on w (i + 1) : Nat) : Int) + 1) = ((on w w.size - on w i : Nat) : Int) := by
    rw [w64 (by omega) (by omega)]
    omega
   rw [e1, e2]
   exact ih
  ·have gb : bo w i = false := decide_eq_false g
   have h7 : tm w (on w w.size) i = 0 := by unfold tm; rw [gb]; rfl
   rw [gb] at h5
   simp only [Bool.false_eq_true, if_false, Nat.add_zero] at h5
   rw [h6, h7, Nat.add_zero, h5]
   exact evn g ih
theorem spec_word (w : ByteArray) (h1 : 1 ≤ w.size) (h2 : w.size ≤ 20) (e : Nat) : ∀ i : Nat, i + e = w.size → Ev (fun k => spec_CycleOfWord.l0 k w ((sm w (on w w.size) i : Nat) : Int) ((on w w.size - on w i : Nat) : Int) (i : Int)) (wres w) := by
 have hJ := on_le w w.size
 have hs := sm_le w (on w w.size) w.size (by omega) h2
 induction e with
 | zero =>
  intro i hi
  obtain rfl : i = w.size := hi
  obtain ⟨f1, f2, f3, f4, f5⟩ := w_facts w h1 h2
  obtain ⟨b1, b2, b3, b4⟩ := p23 w.size (on w w.size) h2 (by omega)
  have hd : wrap64 (((2 ^ w.size : Nat) : Int) - ((3 ^ on w w.size : Nat) : Int)) = wden w := by
   unfold wden
   rw [w64 (by omega) (by omega)]
  have hg := (wgcd w).2
  have ho : Ev (fun k => spec_stOnes.f k w) ((on w w.size : Nat) : Int) := ones_ev w h2 w.size 0 (by omega)
  refine evs (fun k => by rw [spec_CycleOfWord.l0]) ?_
  refine evn (by omega) (evb (spec_po_ev 2 w.size (Or.inl rfl) h2) (evb ho (evb (spec_po_ev 3 (on w w.size) (Or.inr rfl) (by omega)) ?_)))
  rw [hd]
  show Ev (fun k => if wden w < 0 then ((spec_l1Abs.f (wrap64 (-((wnum w : Nat) : Int)))).bind fun t376 => ((spec_mpGcd.f k t376 (wrap64 (-(wden w)))).bind fun t377 => (if t377 = 0 then (none) else (some (wrap64 (Int.tdiv (wrap64 (-((wnum w : Nat) : Int))) t377), wrap64 (Int.tdiv (wrap64 (-(wden w))) t377), true))))) else ((spec_l1Abs.f ((wnum w : Nat) : Int)).bind fun t378 => ((spec_mpGcd.f k t378 (wden w)).bind fun t379 => (if t379 = 0 then (none) else (some (wrap64 (Int.tdiv ((wnum w : Nat) : Int) t379), wrap64 (Int.tdiv (wden w) t379), true)))))) (wres w)
  clear hd hs
  unfold wres
  obtain ⟨a1, a2, a3, a4⟩ := abs_neg (wnum w) f1
  by_cases hneg : wden w < 0
  ·rw [if_pos hneg]
   exact evp hneg (evc a2 (word_neg spec_mpGcd.f (wnum w) (wden w) (wg w) f1 f2 hneg hg f5))
  ·rw [if_neg hneg]
   exact evn hneg (evc a4 (word_pos spec_mpGcd.f (wnum w) (wden w) (wg w) f1 (by omega) f3 hg f5))
 | succ e ih =>
  intro i hi
  have ih := ih (i + 1) (by omega)
  have h3 := on_mono w (i + 1) (w.size - (i + 1))
  rw [show i + 1 + (w.size - (i + 1)) = w.size by omega] at h3
  have h4 := sm_mono w (on w w.size) (i + 1) (w.size - (i + 1))
  rw [show i + 1 + (w.size - (i + 1)) = w.size by omega] at h4
  have h5 : on w (i + 1) = on w i + if bo w i = true then 1 else 0 := rfl
  have h6 : sm w (on w w.size) (i + 1) = sm w (on w w.size) i + tm w (on w w.size) i := rfl
  rw [show ((i + 1 : Nat) : Int) = (i : Int) + 1 by omega] at ih
  refine evs (fun k => by rw [spec_CycleOfWord.l0]) ?_
  rw [w64o (x := (i : Int) + 1)]
  refine evp (by omega) (evp (by omega) ?_)
  by_cases g : bt w (i : Int) = 49
  ·have gb : bo w i = true := decide_eq_true g
   have h7 : tm w (on w w.size) i = 2 ^ i * 3 ^ (on w w.size - on w (i + 1)) := by unfold tm; rw [if_pos gb]
   have h8 := tm_le w (on w w.size) i (by omega) (by omega)
   rw [if_pos gb] at h5
   have e2 : wrap64 (((on w w.size - on w i : Nat) : Int) - 1) = ((on w w.size - on w (i + 1) : Nat) : Int) := by
    rw [w64 (by omega) (by omega)]
    omega
   rw [e2]
   refine evp g (evb (spec_po_ev 2 i (Or.inl rfl) (by omega)) (evb (spec_po_ev 3 (on w w.size - on w (i + 1)) (Or.inr rfl) (by omega)) ?_))
   rw [← Int.natCast_mul, ← h7, w64n _ (by omega)]
   have e1 : wrap64 (((sm w (on w w.size) i : Nat) : Int) + ((tm w (on w w.size) i : Nat) : Int)) = ((sm w (on w w.size) (i + 1) : Nat) : Int) := by
    rw [w64 (by omega) (by omega)]
    omega
   rw [e1]
   exact ih
  ·have gb : bo w i = false := decide_eq_false g
   have h7 : tm w (on w w.size) i = 0 := by unfold tm; rw [gb]; rfl
   rw [gb] at h5
   simp only [Bool.false_eq_true, if_false, Nat.add_zero] at h5
   rw [h6, h7, Nat.add_zero, h5] at ih
   exact evn g ih
theorem tl_len (w : ByteArray) (e : Nat) : ∀ (i : Nat) (r : List UInt8), i + e = w.size → (ByteArray.toList.loop w i r).length = e + r.length := by
 induction e with
 | zero =>
  intro i r h
  rw [ByteArray.toList.loop, if_neg (by omega), List.length_reverse, Nat.zero_add]
 | succ e ih =>
  intro i r h
  rw [ByteArray.toList.loop, if_pos (by omega), ih (i + 1) _ (by omega), List.length_cons]
  omega
theorem toList_nil (w : ByteArray) : (w.toList == ([] : List UInt8)) = decide (w.size = 0) := by
 have h : w.toList.length = w.size := tl_len w w.size 0 [] (by omega)
 by_cases h0 : w.size = 0
 ·rw [decide_eq_true h0, List.eq_nil_of_length_eq_zero (h.trans h0)]
  rfl
 ·rw [decide_eq_false h0]
  refine beq_eq_false_iff_ne.2 (fun e => h0 ?_)
  rw [e] at h
  exact h.symm
theorem word_both (w : ByteArray) (hw : w.size ≤ 1000000) : ∃ u : Int × Int × Bool, Ev (fun k => impl_CycleOfWord.f k w) u ∧ Ev (fun k => spec_CycleOfWord.f k w) u ∧ (u.2.2 = true → 1 ≤ w.size ∧ w.size ≤ 20 ∧ u = wres w) := by
 have ei : impl_isParity.f w = some (impl_isParity.all w w.size && decide (w.size ≤ 20)) := by
  unfold impl_isParity.f
  rw [if_pos (by omega)]
 unfold impl_CycleOfWord.f spec_CycleOfWord.f
 by_cases h2 : w.size ≤ 20
 ·have es : Ev (fun k => spec_stLetters.f k w) (impl_isParity.all w w.size) := by
   unfold spec_stLetters.f
   exact evn (by omega) (letters_ev w h2 w.size 0 (by omega) rfl)
  rw [decide_eq_true h2, Bool.and_true] at ei
  cases ha : impl_isParity.all w w.size with
  | false =>
   rw [ha] at ei es
   refine ⟨(0, 0, false), evc ei (evn (by simp) (evs (fun k => by rw [impl_CycleOfWord.j0]) (evp rfl (Ev.now _)))), evb es (evn (by simp) (evs (fun k => by rw [spec_CycleOfWord.j0]) (evp rfl (Ev.now _)))), fun h => by simp at h⟩
  | true =>
   rw [ha] at ei es
   by_cases h1 : w.size = 0
   ·have e0 : (w.toList == ([] : List UInt8)) = true := by rw [toList_nil, decide_eq_true h1]
    rw [e0]
    refine ⟨(0, 0, false), evc ei (evp rfl (evs (fun k => by rw [impl_CycleOfWord.j0]) (evp rfl (Ev.now _)))), evb es (evp rfl (evs (fun k => by rw [spec_CycleOfWord.j0]) (evp rfl (Ev.now _)))), fun h => by simp at h⟩
   ·have e0 : (w.toList == ([] : List UInt8)) = false := by rw [toList_nil, decide_eq_false h1]
    rw [e0]
    have h3 := impl_word w (by omega) h2 w.size (Nat.le_refl _)
    have h4 := spec_word w (by omega) h2 w.size 0 (by omega)
    have ho : Ev (fun k => spec_stOnes.f k w) ((on w w.size : Nat) : Int) := ones_ev w h2 w.size 0 (by omega)
    rw [Nat.sub_self, Nat.sub_self] at h3
    refine ⟨wres w, evc ei (evp rfl (evs (fun k => by rw [impl_CycleOfWord.j0]) (evn (by simp) ?_))), evb es (evp rfl (evs (fun k => by rw [spec_CycleOfWord.j0]) (evn (by simp) (evb ho h4)))), fun _ => ⟨by omega, h2, rfl⟩⟩
    rw [w64o (x := (w.size : Int) - 1)]
    exact h3
 ·have es : Ev (fun k => spec_stLetters.f k w) false := by
   unfold spec_stLetters.f
   exact evp (by omega) (Ev.now _)
  rw [decide_eq_false h2, Bool.and_false] at ei
  exact ⟨(0, 0, false), evc ei (evn (by simp) (evs (fun k => by rw [impl_CycleOfWord.j0]) (evp rfl (Ev.now _)))), evb es (evn (by simp) (evs (fun k => by rw [spec_CycleOfWord.j0]) (evp rfl (Ev.now _)))), fun h => by simp at h⟩
theorem wres_back (w : ByteArray) (h1 : 1 ≤ w.size) (h2 : w.size ≤ 20) : 1 ≤ (wres w).2.1 ∧ (wres w).2.1 * ((wnum w : Nat) : Int) = (wres w).1 * wden w ∧ (wres w).1.natAbs ≤ wnum w ∧ (wres w).2.1.natAbs ≤ (wden w).natAbs := by
 obtain ⟨f1, f2, f3, f4, f5⟩ := w_facts w h1 h2
 have hN : (wg w : Int) ∣ ((wnum w : Nat) : Int) := Int.natCast_dvd_natCast.2 (Nat.gcd_dvd_left _ _)
 have hD : (wg w : Int) ∣ wden w := Int.natAbs_dvd_natAbs.1 (by rw [Int.natAbs_natCast]; exact Nat.gcd_dvd_right _ _)
 obtain ⟨a, ha⟩ := hN
 obtain ⟨b, hb⟩ := hD
 have hg0 : (wg w : Int) ≠ 0 := by omega
 unfold wres
 by_cases hneg : wden w < 0
 ·rw [if_pos hneg]
  have e1 : Int.tdiv (-((wnum w : Nat) : Int)) (wg w : Int) = -a := by rw [ha, ← Int.mul_neg, Int.mul_tdiv_cancel_left _ hg0]
  have e2 : Int.tdiv (-(wden w)) (wg w : Int) = -b := by rw [hb, ← Int.mul_neg, Int.mul_tdiv_cancel_left _ hg0]
  simp only
  rw [e1, e2]
  refine ⟨?_, ?_, ?_, ?_⟩
  ·have h3 : b < 0 := by
    rw [hb] at hneg
    exact Int.neg_of_mul_neg_right hneg (by omega)
   omega
  ·rw [ha, hb, Int.neg_mul, Int.neg_mul, Int.mul_left_comm b, Int.mul_left_comm a, Int.mul_comm a b]
  ·have h4 : ((wnum w : Nat) : Int).natAbs = (wg w : Int).natAbs * a.natAbs := by rw [ha, Int.natAbs_mul]
   rw [Int.natAbs_neg]
   rw [Int.natAbs_natCast, Int.natAbs_natCast] at h4
   rw [h4]
   exact Nat.le_mul_of_pos_left _ f5
  ·have h4 : (wden w).natAbs = (wg w : Int).natAbs * b.natAbs := by rw [← Int.natAbs_mul, ← hb]
   rw [Int.natAbs_neg]
   rw [Int.natAbs_natCast] at h4
   rw [h4]
   exact Nat.le_mul_of_pos_left _ f5
 ·rw [if_neg hneg]
  have e1 : Int.tdiv ((wnum w : Nat) : Int) (wg w : Int) = a := by rw [ha, Int.mul_tdiv_cancel_left _ hg0]
  have e2 : Int.tdiv (wden w) (wg w : Int) = b := by rw [hb, Int.mul_tdiv_cancel_left _ hg0]
  simp only
  rw [e1, e2]
  refine ⟨?_, ?_, ?_, ?_⟩
  ·have h3 : 0 < b := by
    have h5 : 0 < wden w := by omega
    rw [hb] at h5
    exact Int.pos_of_mul_pos_right h5 (by omega)
   omega
  ·rw [ha, hb, Int.mul_left_comm b, Int.mul_left_comm a, Int.mul_comm a b]
  ·have h4 : ((wnum w : Nat) : Int).natAbs = (wg w : Int).natAbs * a.natAbs := by rw [ha, Int.natAbs_mul]
   rw [Int.natAbs_natCast, Int.natAbs_natCast] at h4
   rw [h4]
   exact Nat.le_mul_of_pos_left _ f5
  ·have h4 : (wden w).natAbs = (wg w : Int).natAbs * b.natAbs := by rw [← Int.natAbs_mul, ← hb]
   rw [Int.natAbs_natCast] at h4
   rw [h4]
   exact Nat.le_mul_of_pos_left _ f5

theorem laws_rSame_loop (post : List Int) : ∀ (pre post' : List Int), post'.length = post.length → (pre ++ post).length ≤ 4611686018427387904 →
  Ev (fun k => laws_rSame.l0 k (pre ++ post) (pre ++ post') ((pre ++ post).length : Int) (pre.length : Int)) (decide (post = post')) := by
 induction post with
 | nil =>
  intro pre post' hl h
  obtain rfl : post' = [] := List.eq_nil_of_length_eq_zero hl
  refine evs (fun k => by rw [laws_rSame.l0]) ?_
  exact evn (by simp) (evr (by simp))
 | cons x post ih =>
  intro pre post' hl h
  obtain ⟨y, post', rfl⟩ : ∃ y z, post' = y :: z := by cases post' with
   | nil => simp at hl
   | cons y z => exact ⟨y, z, rfl⟩
  refine evs (fun k => by rw [laws_rSame.l0]) ?_
  refine evp (by simp; omega) (evp (by omega) (evp (by simp; omega) (evp (by simp; omega) ?_)))
  rw [rd_mid, rd_mid]
  by_cases he : x = y
  ·subst he
   refine evp rfl ?_
   have h2 := ih (pre ++ [x]) post' (by simpa using hl) (by simpa using h)
   simp only [List.append_assoc, List.singleton_append] at h2
   rw [w64 (by omega) (by simp at h; omega)]
   simpa using h2
  ·exact evn he (evr (by simp [he]))
theorem laws_rSame_ev (l l' : List Int) (h : l.length ≤ 4611686018427387904) : Ev (fun k => laws_rSame.f k l l') (decide (l = l')) := by
 unfold laws_rSame.f
 by_cases hl : l.length = l'.length
 ·exact evp (by omega) (by simpa using laws_rSame_loop l [] l' hl.symm (by simpa using h))
 ·exact evn (by omega) (evr (by symm; rw [decide_eq_false_iff_not]; exact fun e => hl (by rw [e])))
theorem laws_rSame_self (l : List Int) (h : l.length ≤ 4611686018427387904) : Ev (fun k => laws_rSame.f k l l) true := by simpa using laws_rSame_ev l l h

theorem rows_self (X : List (List Int)) (hr : ∀ x ∈ X, x.length ≤ 1000000) (hX : X.length ≤ 1000000) (post : List (List Int)) : ∀ pre : List (List Int), X = pre ++ post → Ev (fun k => laws_rRows.l0 k X X (X.length : Int) (pre.length : Int)) true := by
 induction post with
 | nil =>
  intro pre hw
  refine evs (fun k => by rw [laws_rRows.l0]) ?_
  exact evn (by simp [hw]) (Ev.now _)
 | cons x post ih =>
  intro pre hw
  have hl : X.length = pre.length + (post.length + 1) := by rw [hw]; simp
  have hx : rd_L2 X (pre.length : Int) = x := by rw [hw, rdL2_mid]
  have h2 := ih (pre ++ [x]) (by rw [hw]; simp)
  have e2 : (((pre ++ [x]).length : Nat) : Int) = (pre.length : Int) + 1 := by simp
  rw [e2] at h2
  have hxl := hr x (by rw [hw]; simp)
  refine evs (fun k => by rw [laws_rRows.l0]) ?_
  rw [hx, w64o (x := (pre.length : Int) + 1)]
  exact evp (by omega) (evp (by omega) (evp (by omega) (evp (by omega) (evb (laws_rSame_self _ (by omega)) (evp rfl h2)))))
theorem rows_ev (X : List (List Int)) (hr : ∀ x ∈ X, x.length ≤ 1000000) (hX : X.length ≤ 1000000) : Ev (fun k => laws_rRows.f k X X) true := by
 unfold laws_rRows.f
 exact evp rfl (rows_self X hr hX X [] rfl)
/-! The fraction of a word. -/
def XX (w : ByteArray) (num den : Int) : Nat → Int
 | 0 => num
 | i + 1 => if bo w i = true then 3 * XX w num den i + den * ((2 ^ i : Nat) : Int) else XX w num den i
def YY (w : ByteArray) : Nat → Nat
 | 0 => 0
 | i + 1 => if bo w i = true then 3 * YY w i + 2 ^ i else YY w i
theorem XX_form (w : ByteArray) (num den : Int) (i : Nat) : XX w num den i = ((3 ^ on w i : Nat) : Int) * num + den * ((YY w i : Nat) : Int) := by
 induction i with
 | zero => simp [XX, on, YY]
 | succ i ih =>
  simp only [XX, on, YY]
  by_cases g : bo w i = true
  ·rw [if_pos g, if_pos g, if_pos g, ih, Nat.pow_succ, Int.natCast_mul, Int.natCast_add, Int.natCast_mul, Int.mul_add, Int.mul_add]
   have e1 : ((3 ^ on w i : Nat) : Int) * ((3 : Nat) : Int) * num = 3 * (((3 ^ on w i : Nat) : Int) * num) := by rw [Int.mul_comm ((3 ^ on w i : Nat) : Int) ((3 : Nat) : Int), Int.mul_assoc]; rfl
   have e2 : den * (((3 : Nat) : Int) * ((YY w i : Nat) : Int)) = 3 * (den * ((YY w i : Nat) : Int)) := by rw [Int.mul_left_comm]; rfl
   rw [e1, e2]
   omega
  ·rw [if_neg g, if_neg g, if_neg g, ih, Nat.add_zero]
theorem YY_form (w : ByteArray) (J i : Nat) : on w i ≤ J → sm w J i = 3 ^ (J - on w i) * YY w i := by
 induction i with
 | zero => intro _; simp [sm, YY]
 | succ i ih =>
  intro h
  have h5 : on w (i + 1) = on w i + if bo w i = true then 1 else 0 := rfl
  have h6 := ih (by omega)
  simp only [sm, YY, tm]
  rw [h6]
  by_cases g : bo w i = true
  ·rw [if_pos g] at h5
   rw [if_pos g, if_pos g, h5, Nat.mul_add]
   have e1 : J - on w i = (J - (on w i + 1)) + 1 := by omega
   rw [e1, Nat.pow_succ, Nat.mul_assoc, Nat.mul_comm (2 ^ i)]
  ·rw [if_neg g] at h5
   rw [if_neg g, if_neg g, h5]
   rfl
theorem XX_end (w : ByteArray) (num den : Int) (h : den * ((wnum w : Nat) : Int) = num * wden w) : XX w num den w.size = num * ((2 ^ w.size : Nat) : Int) := by
 have e1 : wnum w = YY w w.size := by
  unfold wnum
  rw [YY_form w _ _ (Nat.le_refl _), Nat.sub_self, Nat.pow_zero, Nat.one_mul]
 rw [XX_form, ← e1, h]
 unfold wden
 rw [Int.mul_sub, Int.mul_comm num ((3 ^ on w w.size : Nat) : Int)]
 omega
theorem small_word (w : ByteArray) (h2 : w.size ≤ 12) : wnum w ≤ 26121388032 ∧ -531441 ≤ wden w ∧ wden w ≤ 4096 := by
 have hJ := on_le w w.size
 have p : ∀ q j : Nat, q ≤ 12 → j ≤ 12 → 2 ^ q ≤ 4096 ∧ 3 ^ j ≤ 531441 ∧ 1 ≤ 2 ^ q ∧ 1 ≤ 3 ^ j := fun q j hq hj => by
  have a5 : 0 < 2 ^ q := Nat.pow_pos (by omega)
  have a6 : 0 < 3 ^ j := Nat.pow_pos (by omega)
  have a1 : 2 ^ q ≤ 2 ^ 12 := Nat.pow_le_pow_right (by omega) hq
  have a2 : 3 ^ j ≤ 3 ^ 12 := Nat.pow_le_pow_right (by omega) hj
  have a3 : 2 ^ 12 = 4096 := by decide
  have a4 : 3 ^ 12 = 531441 := by decide
  omega
 have ht : ∀ q, q ≤ 12 → tm w (on w w.size) q ≤ 2176782336 := fun q hq => by
  unfold tm
  split
  ·obtain ⟨b1, b2, _, _⟩ := p q (on w w.size - on w (q + 1)) hq (by omega)
   have := Nat.mul_le_mul b1 b2
   omega
  ·omega
 have hs : ∀ i, i ≤ 12 → sm w (on w w.size) i ≤ i * 2176782336 := fun i => by
  induction i with
  | zero => intro _; exact Nat.zero_le _
  | succ i ih =>
   intro hi
   have b1 := ih (by omega)
   have b2 := ht i (by omega)
   simp only [sm]
   rw [Nat.add_mul]
   omega
 obtain ⟨b1, b2, b4, b5⟩ := p w.size (on w w.size) h2 (by omega)
 have b3 := hs w.size h2
 unfold wnum wden
 refine ⟨?_, by omega, by omega⟩
 have : w.size * 2176782336 ≤ 12 * 2176782336 := Nat.mul_le_mul_right _ h2
 omega
theorem XX_bound (w : ByteArray) (num den : Int) (h1 : num.natAbs ≤ 100000000000) (h2 : den.natAbs ≤ 1000000) (i : Nat) : (XX w num den i).natAbs ≤ 4 ^ i * 100000000000 := by
 induction i with
 | zero => simpa [XX] using h1
 | succ i ih =>
  simp only [XX]
  have hp : 4 ^ (i + 1) = 4 * 4 ^ i := by rw [Nat.pow_succ, Nat.mul_comm]
  have h24 : 2 ^ i ≤ 4 ^ i := Nat.pow_le_pow_left (by omega) i
  have h3 : (den * ((2 ^ i : Nat) : Int)).natAbs ≤ 1000000 * 4 ^ i := by
   rw [Int.natAbs_mul, Int.natAbs_natCast]
   exact Nat.mul_le_mul h2 h24
  rw [hp, Nat.mul_assoc]
  generalize 4 ^ i = P at *
  generalize den * ((2 ^ i : Nat) : Int) = T at *
  split <;> omega
theorem arith1 (Q T : Int) (P : Nat) (h1 : Q.natAbs ≤ P * 100000000000) (h2 : P ≤ 16777216) (h3 : T.natAbs ≤ 4096000000) : wrap64 ((wrap64 (3 * Q)) + (wrap64 T)) = 3 * Q + T := by
 rw [w64o (x := 3 * Q), w64o (x := T), w64 (by omega) (by omega)]
theorem arith2 (T : Int) (h : T.natAbs ≤ 409600000000000) : wrap64 T = T := w64 (by omega) (by omega)
theorem arith3 (a b : Nat) (h : a ≤ 4096) (e : b = a * 2) : wrap64 ((a : Int) * 2) = (b : Int) := by rw [w64 (by omega) (by omega)]; omega
theorem arith4 (i : Nat) (h : i ≤ 1000) : wrap64 ((i : Int) + 1) = ((i + 1 : Nat) : Int) := by rw [w64 (by omega) (by omega)]; omega
theorem pow_small (i : Nat) (hi : i ≤ 12) : 4 ^ i ≤ 16777216 ∧ 2 ^ i ≤ 4096 := by
 have a1 : 4 ^ i ≤ 4 ^ 12 := Nat.pow_le_pow_right (by omega) hi
 have a2 : 2 ^ i ≤ 2 ^ 12 := Nat.pow_le_pow_right (by omega) hi
 have a3 : 4 ^ 12 = 16777216 := by decide
 have a4 : 2 ^ 12 = 4096 := by decide
 omega
theorem l3_ok (w : ByteArray) (h12 : w.size ≤ 12) (num den : Int) (h0 : 1 ≤ den) (h1 : num.natAbs ≤ 100000000000) (h2 : den.natAbs ≤ 1000000) (h : den * ((wnum w : Nat) : Int) = num * wden w) (e : Nat) : ∀ i : Nat, i + e = w.size →
  Ev (fun k => laws_FnOtherCycles.l3 k w num den (XX w num den i) ((2 ^ i : Nat) : Int) (i : Int)) true := by
 induction e with
 | zero =>
  intro i hi
  obtain rfl : i = w.size := hi
  have hT : wrap64 (num * ((2 ^ w.size : Nat) : Int)) = num * ((2 ^ w.size : Nat) : Int) := by
   refine arith2 _ ?_
   rw [Int.natAbs_mul, Int.natAbs_natCast]
   exact Nat.mul_le_mul h1 (pow_small w.size h12).2
  have hX := XX_end w num den h
  clear h h1 h2
  refine evs (fun k => by rw [laws_FnOtherCycles.l3]) ?_
  refine evn (by omega) (evs (fun k => by rw [laws_FnOtherCycles.j8]) ?_)
  refine evn (by simp) (evp h0 (evn (Int.not_lt.2 (Int.ofNat_le.2 h12)) (evr ?_)))
  rw [hX, hT]
  exact beq_self_eq_true _
 | succ e ih =>
  intro i hi
  have q1 : i ≤ 12 ∧ i + 1 + e = w.size ∧ (i : Int) < (w.size : Int) ∧ (0 : Int) ≤ (i : Int) := by clear h h1 h2; omega
  have h3 := ih (i + 1) q1.2.1
  have e4 : wrap64 ((wrap64 (3 * XX w num den i)) + (wrap64 (den * ((2 ^ i : Nat) : Int)))) = 3 * XX w num den i + den * ((2 ^ i : Nat) : Int) := by
   refine arith1 _ _ (4 ^ i) (XX_bound w num den h1 h2 i) (pow_small i q1.1).1 ?_
   rw [Int.natAbs_mul, Int.natAbs_natCast]
   exact Nat.mul_le_mul h2 (pow_small i q1.1).2
  have e2 : wrap64 (((2 ^ i : Nat) : Int) * 2) = ((2 ^ (i + 1) : Nat) : Int) := arith3 _ _ (pow_small i q1.1).2 (Nat.pow_succ 2 i)
  have e3 := arith4 i (Nat.le_trans q1.1 (by decide))
  clear ih h h1 h2
  refine evs (fun k => by rw [laws_FnOtherCycles.l3]) ?_
  refine evp q1.2.2.1 (evs (fun k => by rw [laws_FnOtherCycles.j8]) ?_)
  rw [decide_eq_true (show (w.size : Int) ≤ 12 from Int.ofNat_le.2 h12), e2, e3, e4]
  refine evp rfl (evp q1.2.2.2 (evp q1.2.2.1 ?_))
  simp only [XX] at h3
  by_cases g : bt w (i : Int) = 49
  ·have gb : bo w i = true := decide_eq_true g
   rw [if_pos gb] at h3
   exact evp g h3
  ·have gb : bo w i = false := decide_eq_false g
   rw [gb] at h3
   exact evn g h3
theorem l3_long (w : ByteArray) (h12 : 12 < w.size) (num den x s : Int) (h0 : 1 ≤ den) : Ev (fun k => laws_FnOtherCycles.l3 k w num den x s 0) true := by
 have hj : Ev (fun k => laws_FnOtherCycles.j8 k w num den x s 0 false) true := evs (fun k => by rw [laws_FnOtherCycles.j8]) (evn (by simp) (evp h0 (evp (by omega) (Ev.now _))))
 refine evs (fun k => by rw [laws_FnOtherCycles.l3]) ?_
 refine evp (by omega) ?_
 rw [decide_eq_false (show ¬ (w.size : Int) ≤ 12 by omega)]
 exact hj
theorem step_both (a d : Int) : ∃ u : Int × Bool, Ev (fun k => impl_StepWith.f k a d) u ∧ Ev (fun k => spec_StepWith.f k a d) u := by
 have noI : ∀ b : Bool, b = true → Ev (fun k => impl_StepWith.j0 k a d b) (0, false) := by
  intro b hb
  subst hb
  refine evs (fun k => by rw [impl_StepWith.j0]) ?_
  exact evp rfl (Ev.now _)
 have noS : ∀ b : Bool, b = true → Ev (fun k => spec_StepWith.j0 k a d b) (0, false) := by
  intro b hb
  subst hb
  refine evs (fun k => by rw [spec_StepWith.j0]) ?_
  exact evp rfl (Ev.now _)
 unfold impl_StepWith.f spec_StepWith.f impl_isPlace.f impl_isAdded.f spec_stAdded.f
 simp only [impl_in_eq, stNumber_eq, spec_l1In_eq, Option.bind_some, decide_eq_true_eq]
 by_cases h1 : 1 ≤ a ∧ a ≤ 1000000000000
 ·by_cases h2 : 1 ≤ d ∧ d ≤ 99
  ·rw [if_pos h2]
   simp only [Option.bind_some]
   by_cases h3 : (Int.tmod d 2 == 1) = true
   ·obtain ⟨x, rfl⟩ := natOf (a := a) (by omega)
    obtain ⟨e, rfl⟩ := natOf (a := d) (by omega)
    have hs := st_le (d := e) (x := x) (by omega) (by omega)
    have hp := st_pos (d := e) (x := x) (by omega)
    rw [h3]
    by_cases h4 : st e x ≤ 1000000000000
    ·refine ⟨(((st e x : Nat) : Int), true), evp h1 (evs (fun k => by rw [impl_StepWith.j0]) (evn (by simp) (evc (impl_st e x (by omega) (by omega)) ?_))), evp h1 (evs (fun k => by rw [spec_StepWith.j0]) (evn (by simp) (evc (spec_st e x (by omega) (by omega)) ?_)))⟩
     ·unfold impl_told.f
      rw [if_neg (by omega)]
      exact evc rfl (Ev.now _)
     ·unfold spec_stIf.f
      rw [stNumber_eq, decide_eq_true (by omega)]
      exact evc rfl (Ev.now _)
    ·refine ⟨(0, false), evp h1 (evs (fun k => by rw [impl_StepWith.j0]) (evn (by simp) (evc (impl_st e x (by omega) (by omega)) ?_))), evp h1 (evs (fun k => by rw [spec_StepWith.j0]) (evn (by simp) (evc (spec_st e x (by omega) (by omega)) ?_)))⟩
     ·unfold impl_told.f
      rw [if_pos (by omega)]
      exact evc rfl (Ev.now _)
     ·unfold spec_stIf.f
      rw [stNumber_eq, decide_eq_false (by omega)]
      exact evc rfl (Ev.now _)
   ·rw [Bool.not_eq_true] at h3
    rw [h3]
    exact ⟨(0, false), evp h1 (noI _ rfl), evp h1 (noS _ rfl)⟩
  ·rw [if_neg h2]
   simp only [Option.bind_some]
   exact ⟨(0, false), evp h1 (noI _ rfl), evp h1 (noS _ rfl)⟩
 ·exact ⟨(0, false), evn h1 (noI _ rfl), evn h1 (noS _ rfl)⟩
theorem drawStep_ok (l : List Int) (hl : Bs l) : ∃ a b : Int, Ev (fun k => spec_DrawStepWith.f k l) (a, b) := by
 have st : ∃ a p' s' : Int, Ev (fun k => spec_l1Cur_stepped.f k l 0 0) (a, p', s') ∧ 0 ≤ p' ∧ p' ≤ 1000 := by
  obtain ⟨v, p1, s1, e1, d1, f1⟩ := one_ok l hl 0 0 16 (by omega) (by omega) (by omega)
  by_cases g : v = true
  ·obtain ⟨a, p2, s2, e2, _, d2, f2⟩ := among_ok l hl p1 s1 [0, (-1), 1000000000000, 1000000000001, 4611686018427387904] (by simp) (by simp) (by omega) (by omega)
   refine ⟨a, p2, s2, ?_, by omega, by omega⟩
   unfold spec_l1Cur_stepped.f
   exact evc e1 (evp g (evc e2 (Ev.now _)))
  ·obtain ⟨x1, p2, s2, e2, _, _, _, d2, f2⟩ := pick_ok l hl p1 s1 200 (by omega) (by omega) (by omega)
   obtain ⟨x2, p3, s3, e3, _, _, _, d3, f3⟩ := pick_ok l hl p2 s2 250 (by omega) (by omega) (by omega)
   obtain ⟨x3, p4, s4, e4, d4, f4⟩ := sureNumber_ok l hl p3 s3 (by omega) (by omega)
   obtain ⟨x4, p5, s5, e5, d5, f5⟩ := sureNumber_ok l hl p4 s4 (by omega) (by omega)
   obtain ⟨y, hy⟩ : ∃ y, spec_l1Most.f 1 x4 = some y := by unfold spec_l1Most.f; split <;> exact ⟨_, rfl⟩
   obtain ⟨a, p6, s6, e6, _, d6, f6⟩ := among_ok l hl p5 s5 [1, 2, 3, 7, 27, 97, 703, 6171, wrap64 (1 + x1), wrap64 (1 + x2), wrap64 (1 + (Int.tmod x3 1000000)), y] (by simp) (by simp) (by omega) (by omega)
   refine ⟨a, p6, s6, ?_, by omega, by omega⟩
   unfold spec_l1Cur_stepped.f
   exact evc e1 (evn g (evc e2 (evc e3 (evb e4 (evb e5 (evc hy (evc e6 (Ev.now _))))))))
 obtain ⟨a, p, s, e, h0, h1⟩ := st
 obtain ⟨b, p2, s2, e2, _, _, _⟩ := among_ok l hl p s [1, 3, 5, 7, 11, 13, 99, 100, 2, (-1), 101] (by simp) (by simp) (by omega) (by omega)
 exact ⟨a, b, evb e (evc e2 (Ev.now _))⟩
theorem j5_ok (l : List Int) (hl : Bs l) : Ev (fun k => laws_FnOtherCycles.j5 k l) true := by
 obtain ⟨a, d, e1⟩ := drawStep_ok l hl
 obtain ⟨u, u1, u2⟩ := step_both a d
 obtain ⟨w, hw, e2⟩ := drawWord_ok l hl
 obtain ⟨v, v1, v2, v3⟩ := word_both w (by omega)
 have e3 : Ev (fun k => spec_DrawCycleOfWord.f k l) w := evb e2 (Ev.now _)
 refine evs (fun k => by rw [laws_FnOtherCycles.j5]) ?_
 refine evb e1 (evb u1 (evb u2 (evb e3 (evb v1 (evb v2 ?_)))))
 refine evn (by simp) (evp rfl (evn (by simp) (evp rfl ?_)))
 have e4 : (v.2.1 != v.2.1) = false := by simp
 rw [e4]
 refine evs (fun k => by rw [laws_FnOtherCycles.j6]) ?_
 refine evn (by simp) ?_
 by_cases g : v.2.2 = true
 ·obtain ⟨h1, h2, rfl⟩ := v3 g
  obtain ⟨b1, b2, b3, b4⟩ := wres_back w h1 h2
  refine evp g ?_
  by_cases h12 : w.size ≤ 12
  ·obtain ⟨s1, s2, s3⟩ := small_word w h12
   exact l3_ok w h12 _ _ b1 (by omega) (by omega) b2 w.size 0 (by omega)
  ·exact l3_long w (by omega) _ _ _ _ b1
 ·exact evn g (Ev.now _)
/-! What is known of the cycles. -/
theorem comes_later {f : Nat → Nat} {n len s : Nat} (h : Comes f n len s) (i : Nat) (hi : s ≤ i) : its f i n ∈ (runto f n len).drop s := by
 have hlt := h.lt
 induction i using Nat.strongRecOn with
 | _ i ih =>
  by_cases g : i < len
  ·have h1 := runto_get f n len i g
   have h2 : ((runto f n len).drop s)[i - s]? = some (its f i n) := by rw [List.getElem?_drop, show s + (i - s) = i by omega]; exact h1
   exact List.mem_of_getElem? h2
  ·have h1 := h.round (i - (len - s)) (by omega)
   rw [show i - (len - s) + (len - s) = i by omega] at h1
   rw [h1]
   exact ih (i - (len - s)) (by omega) (by omega)
theorem gc_first {d : Nat} {o : List Int} (h : GC d o) : rd o 0 ∈ o := rd_mem o 0 (by omega) (by have := h.ne; omega)
def hit1 : Nat → Nat → Bool
 | 0, _ => false
 | f + 1, x => cond (Nat.beq x 1) true (hit1 f (st 1 x))
def hits : Nat → Bool
 | 0 => true
 | n + 1 => cond (hit1 130 (n + 1)) (hits n) false
theorem hits_all : hits 200 = true := by kernel_rfl
theorem hits_get (n : Nat) : hits n = true → ∀ m, 1 ≤ m → m ≤ n → hit1 130 m = true := by
 induction n with
 | zero => intro _ m h1 h2; omega
 | succ n ih =>
  intro h m h1 h2
  unfold hits at h
  cases hk : hit1 130 (n + 1) with
  | false => rw [hk, cond_false] at h; simp at h
  | true =>
   rw [hk, cond_true] at h
   by_cases e : m = n + 1
   ·subst e; exact hk
   ·exact ih h m h1 (by omega)
theorem hit1_its (f : Nat) : ∀ x, hit1 f x = true → ∃ j, its (st 1) j x = 1 := by
 induction f with
 | zero => intro x h; simp [hit1] at h
 | succ f ih =>
  intro x h
  unfold hit1 at h
  cases hb : Nat.beq x 1 with
  | true => exact ⟨0, Nat.eq_of_beq_eq_true hb⟩
  | false =>
   rw [hb, cond_false] at h
   obtain ⟨j, hj⟩ := ih _ h
   exact ⟨j + 1, hj⟩
theorem three_round (d : Nat) (hodd : d % 2 = 1) (q : Nat) : its (st d) (3 * q) d = d := by
 have e1 : st d d = 4 * d := by unfold st; rw [if_neg (by omega)]; omega
 have e2 : st d (4 * d) = 2 * d := by unfold st; rw [if_pos (by omega)]; omega
 have e3 : st d (2 * d) = d := by unfold st; rw [if_pos (by omega)]; omega
 induction q with
 | zero => rfl
 | succ q ih =>
  rw [show 3 * (q + 1) = 3 * q + 1 + 1 + 1 by omega, its_succ, its_succ, its_succ, ih, e1, e2, e3]
theorem its_d (d : Nat) (hodd : d % 2 = 1) (i : Nat) : its (st d) i d = d ∨ its (st d) i d = 4 * d ∨ its (st d) i d = 2 * d := by
 have e1 : st d d = 4 * d := by unfold st; rw [if_neg (by omega)]; omega
 have e2 : st d (4 * d) = 2 * d := by unfold st; rw [if_pos (by omega)]; omega
 have e3 : st d (2 * d) = d := by unfold st; rw [if_pos (by omega)]; omega
 induction i with
 | zero => exact Or.inl rfl
 | succ i ih =>
  rw [its_succ]
  rcases ih with h | h | h
  ·rw [h, e1]; exact Or.inr (Or.inl rfl)
  ·rw [h, e2]; exact Or.inr (Or.inr rfl)
  ·rw [h, e3]; exact Or.inl rfl
theorem one_first (m : Nat) (h1 : 1 ≤ m) (h2 : m ≤ 200) (o : List Int) (h : cy 1 m = some o) : rd o 0 = 1 := by
 obtain ⟨hg, len, s, hc, rfl⟩ := cy_good h1 (by omega) h
 obtain ⟨j, hj⟩ := hit1_its 130 m (hits_get 200 hits_all m h1 h2)
 have h3 : its (st 1) (3 * s + j) m = 1 := by rw [its_add, hj]; exact three_round 1 rfl s
 have h4 := comes_later hc (3 * s + j) (by omega)
 rw [h3] at h4
 have h5 : (1 : Int) ∈ leastFirst (ic ((runto (st 1) m len).drop s)) := (leastFirst_mem _ _).2 ((cw_mem _ 1).2 h4)
 have h6 := hg.least _ h5
 have h7 := hg.bd _ (gc_first hg)
 omega
theorem own_first (d : Nat) (h1 : 1 ≤ d) (h2 : d ≤ 99) (hodd : d % 2 = 1) (o : List Int) (h : cy d d = some o) : rd o 0 = (d : Int) := by
 obtain ⟨hg, len, s, hc, rfl⟩ := cy_good h1 (by omega) h
 have h4 := comes_later hc (3 * s) (by omega)
 rw [three_round d hodd s] at h4
 have h5 : (d : Int) ∈ leastFirst (ic ((runto (st d) d len).drop s)) := (leastFirst_mem _ _).2 ((cw_mem _ d).2 h4)
 have h6 := hg.least _ h5
 have h7 := (leastFirst_mem _ _).1 (gc_first hg)
 unfold ic at h7
 obtain ⟨y, hy, e⟩ := List.mem_map.1 h7
 obtain ⟨i, _, hi⟩ := (runto_mem _ _ _ _).1 (List.mem_of_mem_drop hy)
 have e' : (y : Int) = rd (leastFirst (ic ((runto (st d) d len).drop s))) 0 := e
 rcases its_d d hodd i with g | g | g <;> omega
theorem own_cycle (d : Nat) (h1 : 1 ≤ d) (hodd : d % 2 = 1) (o : List Int) (hg : GC d o) (h : rd o 0 = (d : Int)) : o = [(d : Int), 4 * (d : Int), 2 * (d : Int)] := by
 have e1 : st d d = 4 * d := by unfold st; rw [if_neg (by omega)]; omega
 have e2 : st d (4 * d) = 2 * d := by unfold st; rw [if_pos (by omega)]; omega
 have e3 : st d (2 * d) = d := by unfold st; rw [if_pos (by omega)]; omega
 rcases o with _ | ⟨a, _ | ⟨b, _ | ⟨c, _ | ⟨x, r⟩⟩⟩⟩
 ·have := hg.ne
  simp at this
 ·have ha : a = (d : Int) := h
  have h2 : ((st d a.toNat : Nat) : Int) = a := by
   have := hg.rnd 0 (by simp)
   simpa using this
  rw [ha, Int.toNat_natCast, e1] at h2
  omega
 ·have ha : a = (d : Int) := h
  have h2 : ((st d a.toNat : Nat) : Int) = b := by
   have := hg.rnd 0 (by simp)
   simpa using this
  have h3 : ((st d b.toNat : Nat) : Int) = a := by
   have := hg.rnd 1 (by simp)
   simpa using this
  rw [ha, Int.toNat_natCast, e1] at h2
  rw [← h2, Int.toNat_natCast, e2, ha] at h3
  omega
 ·have ha : a = (d : Int) := h
  have h2 : ((st d a.toNat : Nat) : Int) = b := by
   have := hg.rnd 0 (by simp)
   simpa using this
  have h3 : ((st d b.toNat : Nat) : Int) = c := by
   have := hg.rnd 1 (by simp)
   simpa using this
  rw [ha, Int.toNat_natCast, e1] at h2
  rw [← h2, Int.toNat_natCast, e2] at h3
  rw [ha, ← h2, ← h3, Int.natCast_mul, Int.natCast_mul]
  rfl
 ·exfalso
  have ha : a = (d : Int) := h
  have hm : ∀ i, i < 3 → (i + 1) % (a :: b :: c :: x :: r).length = i + 1 := fun i hi => Nat.mod_eq_of_lt (by simp; omega)
  have hr : ∀ i (hi : i < 3), ((st d ((a :: b :: c :: x :: r)[i]'(by simp; omega)).toNat : Nat) : Int) = (a :: b :: c :: x :: r)[i + 1]'(by simp; omega) := fun i hi => by
   rw [hg.rnd i (by simp; omega)]
   congr 1
   exact hm i hi
  have h2 : ((st d a.toNat : Nat) : Int) = b := hr 0 (by omega)
  have h3 : ((st d b.toNat : Nat) : Int) = c := hr 1 (by omega)
  have h4 : ((st d c.toNat : Nat) : Int) = x := hr 2 (by omega)
  rw [ha, Int.toNat_natCast, e1] at h2
  rw [← h2, Int.toNat_natCast, e2] at h3
  rw [← h3, Int.toNat_natCast, e3] at h4
  have h5 := (List.nodup_cons.1 hg.nd).1
  exact h5 (by rw [ha, ← h4]; simp)
theorem stepWith_good (d x : Nat) (hd : 1 ≤ d) (hd2 : d ≤ 99) (hodd : d % 2 = 1) (h1 : 1 ≤ x) (h2 : x ≤ 1000000000000) (h3 : st d x ≤ 1000000000000) : Ev (fun k => impl_StepWith.f k (x : Int) (d : Int)) (((st d x : Nat) : Int), true) := by
 have ei : impl_isAdded.f (d : Int) = some true := by
  unfold impl_isAdded.f
  rw [impl_in_eq, decide_eq_true (by omega)]
  simp only [Option.bind_some, if_true]
  rw [show (2 : Int) = ((2 : Nat) : Int) from rfl, tmod_cast, hodd]
  rfl
 unfold impl_StepWith.f impl_isPlace.f
 simp only [impl_in_eq, ei, Option.bind_some, decide_eq_true_eq]
 refine evp (by omega) (evs (fun k => by rw [impl_StepWith.j0]) (evn (by simp) (evc (impl_st d x hd2 h2) ?_)))
 unfold impl_told.f
 rw [if_neg (by omega)]
 exact evc rfl (Ev.now _)
theorem l2_ok (l : List Int) (hl : Bs l) (d : Nat) (hd2 : d ≤ 99) (X : List (List Int)) (hX : X.length ≤ 1000000) (hlen : ∀ o ∈ X, o.length ≤ 1000000) (post : List (List Int)) : ∀ (pre : List (List Int)) (b : Bool), X = pre ++ post → (b = true ∨ [(d : Int), 4 * (d : Int), 2 * (d : Int)] ∈ post) →
  Ev (fun k => laws_FnOtherCycles.l2 k l (d : Int) b X (X.length : Int) (pre.length : Int)) true := by
 induction post with
 | nil =>
  intro pre b hw h
  refine evs (fun k => by rw [laws_FnOtherCycles.l2]) ?_
  refine evn (by simp [hw]) (evp ?_ (j5_ok l hl))
  rcases h with h | h
  ·exact h
  ·simp at h
 | cons o post ih =>
  intro pre b hw h
  have hL : X.length = pre.length + (post.length + 1) := by rw [hw]; simp
  have hx : rd_L2 X (pre.length : Int) = o := by rw [hw, rdL2_mid]
  have e2 : (((pre ++ [o]).length : Nat) : Int) = (pre.length : Int) + 1 := by simp
  have hol := hlen o (by rw [hw]; simp)
  refine evs (fun k => by rw [laws_FnOtherCycles.l2]) ?_
  rw [hx, w64o (x := (pre.length : Int) + 1)]
  refine evp (by omega) (evp (by omega) (evp (by omega) ?_))
  cases b with
  | true =>
   have h3 := ih (pre ++ [o]) true (by rw [hw]; simp) (Or.inl rfl)
   rw [e2] at h3
   exact evp rfl h3
  | false =>
   have h3 := ih (pre ++ [o]) (decide (o = [(d : Int), 4 * (d : Int), 2 * (d : Int)])) (by rw [hw]; simp) (by
    rcases h with h | h
    ·simp at h
    ·rcases List.mem_cons.1 h with h | h
     ·left; exact decide_eq_true h.symm
     ·exact Or.inr h)
   rw [e2] at h3
   have hs := laws_rSame_ev o [(d : Int), wrap64 (4 * (d : Int)), wrap64 (2 * (d : Int))] (by omega)
   rw [w64o (x := 4 * (d : Int)), w64o (x := 2 * (d : Int))] at hs
   rw [w64o (x := 4 * (d : Int)), w64o (x := 2 * (d : Int))]
   exact evn (by simp) (evb hs h3)
theorem l1_ok (l : List Int) (d most : Nat) (hd : 1 ≤ d) (hd2 : d ≤ 99) (hodd : d % 2 = 1) (X : List (List Int)) (hX : X.length ≤ 1000000) (hg : ∀ o ∈ X, GC d o) (i : Nat) (o : List Int) (ho : o ∈ X) (hi : i < X.length) (hprev : 0 < i → 0 < (rd_L2 X ((i : Int) - 1)).length ∧ rd (rd_L2 X ((i : Int) - 1)) 0 < rd o 0)
  (hnext : Ev (fun k => laws_FnOtherCycles.l0 k l (d : Int) (most : Int) X X (X.length : Int) (wrap64 ((i : Int) + 1))) true) (e : Nat) : ∀ j : Nat, j + e = o.length →
  Ev (fun k => laws_FnOtherCycles.l1 k l (d : Int) (most : Int) X (i : Int) o X (X.length : Int) (i : Int) o (o.length : Int) (j : Int)) true := by
 have G := hg o ho
 have gl := G.len
 have gn := G.ne
 induction e with
 | zero =>
  intro j hj
  refine evs (fun k => by rw [laws_FnOtherCycles.l1]) ?_
  exact evn (by omega) hnext
 | succ e ih =>
  intro j hj
  have hjl : j < o.length := by omega
  have h2 := ih (j + 1) (by omega)
  have hr := G.rnd j hjl
  have hlt : (j + 1) % o.length < o.length := Nat.mod_lt _ gn
  have hb := G.bd _ (List.getElem_mem hjl)
  have hb2 := G.bd _ (List.getElem_mem hlt)
  have hle := G.least _ (List.getElem_mem hjl)
  have hrd : rd o (j : Int) = o[j] := rd_get o j hjl
  have hrd2 : rd o (((j + 1) % o.length : Nat) : Int) = o[(j + 1) % o.length] := rd_get o _ hlt
  have e2 : Int.tmod (wrap64 ((j : Int) + 1)) (o.length : Int) = (((j + 1) % o.length : Nat) : Int) := by
   rw [arith4 j (by omega), tmod_cast]
  rw [← hrd2] at hr hb2
  rw [← hrd] at hr hb hle
  clear hrd hrd2 G ih
  generalize (j + 1) % o.length = m at *
  generalize hv : rd o (j : Int) = v at *
  generalize hz : rd o (m : Int) = z at *
  generalize hy : rd o 0 = y at *
  obtain ⟨x, rfl⟩ := natOf (a := v) (by omega)
  rw [Int.toNat_natCast] at hr
  have hs := stepWith_good d x hd hd2 hodd (by omega) (by omega) (by omega)
  have e3 := arith4 j (by omega)
  have e4 : wrap64 ((i : Int) - 1) = (i : Int) - 1 := w64 (by omega) (by omega)
  have q1 : (0 : Int) ≤ (m : Int) ∧ (m : Int) < (o.length : Int) ∧ (j : Int) < (o.length : Int) ∧ (0 : Int) ≤ (j : Int) ∧ ¬ (o.length : Int) = 0 ∧ (0 : Int) < (o.length : Int) ∧ ¬ (x : Int) < y := by
   clear e2 e3 e4 hnext h2 hs hr
   omega
  obtain ⟨k1, k2, k3, k4, k5, k6, k7⟩ := q1
  have q2 : 0 < i → (i : Int) > 0 ∧ (0 : Int) ≤ (i : Int) - 1 ∧ (i : Int) - 1 < (X.length : Int) ∧ (0 : Int) < ((rd_L2 X ((i : Int) - 1)).length : Int) ∧ ¬ rd (rd_L2 X ((i : Int) - 1)) 0 ≥ y := by
   intro gi
   obtain ⟨p1, p2⟩ := hprev gi
   clear e2 e3 e4 hnext h2 hs hr
   omega
  have q3 : ¬ 0 < i → ¬ (i : Int) > 0 := by
   clear e2 e3 e4 hnext h2 hs hr
   omega
  refine evs (fun k => by rw [laws_FnOtherCycles.l1]) ?_
  rw [hv, e2, e3, e4, hz, hy]
  refine evp k3 (evp k4 (evp k3 (evb hs (evp rfl (evn k5 (evp k1 (evp k2 (evp hr (evp k6 (evn k7 ?_))))))))))
  by_cases gi : 0 < i
  ·obtain ⟨p1, p2, p3, p4, p5⟩ := q2 gi
   exact evp p1 (evp p2 (evp p3 (evp p4 (evn p5 h2))))
  ·exact evn (q3 gi) h2
theorem l0_ok (l : List Int) (hl : Bs l) (d most : Nat) (hd : 1 ≤ d) (hd2 : d ≤ 99) (hodd : d % 2 = 1) (hm : most ≤ 200) (X : List (List Int)) (hX : X.length ≤ 1000000) (hne : X ≠ []) (hs : X.Pairwise fun a b => rd a 0 < rd b 0) (hg : ∀ o ∈ X, GC d o)
  (hsrc : ∀ o ∈ X, ∃ m, 1 ≤ m ∧ m ≤ most ∧ cy d m = some o) (hcov : ∀ m, 1 ≤ m → m ≤ most → ∃ c, cy d m = some c ∧ ∃ o ∈ X, rd o 0 = rd c 0) (post : List (List Int)) : ∀ pre : List (List Int), X = pre ++ post →
  Ev (fun k => laws_FnOtherCycles.l0 k l (d : Int) (most : Int) X X (X.length : Int) (pre.length : Int)) true := by
 have hlen : ∀ o ∈ X, o.length ≤ 1000000 := fun o ho => by have := (hg o ho).len; omega
 have hj3 : Ev (fun k => laws_FnOtherCycles.j3 k l (d : Int) (most : Int) X false) true := by
  refine evs (fun k => by rw [laws_FnOtherCycles.j3]) ?_
  refine evn (by simp) ?_
  by_cases g : d ≤ most
  ·obtain ⟨c, hc, o, ho, e⟩ := hcov d hd g
   rw [own_first d hd hd2 hodd c hc] at e
   have ho2 := own_cycle d hd hodd o (hg o ho) e
   exact evp (by omega) (l2_ok l hl d hd2 X hX hlen X [] false rfl (Or.inr (ho2 ▸ ho)))
  ·exact evn (by omega) (j5_ok l hl)
 induction post with
 | nil =>
  intro pre hw
  rw [List.append_nil] at hw
  refine evs (fun k => by rw [laws_FnOtherCycles.l0]) ?_
  refine evn (by rw [hw]; omega) ?_
  by_cases g : d = 1
  ·subst g
   have hf : ∀ o ∈ X, rd o 0 = 1 := fun o ho => by
    obtain ⟨m, m1, m2, m3⟩ := hsrc o ho
    exact one_first m m1 (by omega) o m3
   cases hX2 : X with
   | nil => exact absurd hX2 hne
   | cons o r =>
    have ho := hf o (by rw [hX2]; simp)
    have hr : r = [] := by
     cases r with
     | nil => rfl
     | cons p r =>
      exfalso
      rw [hX2] at hs
      have h1 := (List.pairwise_cons.1 hs).1 p (by simp)
      have h2 := hf p (by rw [hX2]; simp)
      omega
    subst hr
    have h0 := (hg o (by rw [hX2]; simp)).ne
    rw [hX2] at hj3
    have e0 : rd_L2 [o] 0 = o := rfl
    refine evp rfl (evp rfl (evp (by simp) ?_))
    rw [e0]
    refine evp (by omega) ?_
    have e1 : (rd o 0 != 1) = false := by rw [ho]; rfl
    rw [e1]
    exact hj3
  ·exact evn (by omega) hj3
 | cons o post ih =>
  intro pre hw
  have hL : X.length = pre.length + (post.length + 1) := by rw [hw]; simp
  have hx : rd_L2 X (pre.length : Int) = o := by rw [hw, rdL2_mid]
  have h2 := ih (pre ++ [o]) (by rw [hw]; simp)
  have e2 : (((pre ++ [o]).length : Nat) : Int) = (pre.length : Int) + 1 := by simp
  rw [e2] at h2
  have ho : o ∈ X := by rw [hw]; simp
  refine evs (fun k => by rw [laws_FnOtherCycles.l0]) ?_
  rw [hx]
  refine evp (by omega) (evp (by omega) (evp (by omega) ?_))
  refine l1_ok l d most hd hd2 hodd X hX hg pre.length o ho (by omega) (fun hi => ?_) (by rw [w64o (x := (pre.length : Int) + 1)]; exact h2) o.length 0 (by omega)
  obtain ⟨p, y, rfl⟩ : ∃ p y, pre = p ++ [y] := ⟨pre.dropLast, pre.getLast (List.length_pos_iff.1 hi), (List.dropLast_concat_getLast _).symm⟩
  have e3 : rd_L2 X (((p ++ [y]).length : Int) - 1) = y := by
   rw [show (((p ++ [y]).length : Nat) : Int) - 1 = (p.length : Int) by simp, hw, List.append_assoc, List.singleton_append, rdL2_mid]
  rw [e3]
  refine ⟨(hg y (by rw [hw]; simp)).ne, ?_⟩
  rw [hw] at hs
  exact (List.pairwise_append.1 hs).2.2 y (by simp) o (by simp)
theorem FnOtherCycles : laws_FnOtherCycles.Pure := by
 intro l0 l1 _ _ w0 _ _ w1
 have hb : ∀ l : List Int, (∀ x ∈ l, (Lit.int .u8 x).wf = true) → ∀ x ∈ l, 0 ≤ x ∧ x ≤ 255 := by
  intro l h x hx
  have := h x hx
  simpa [Lit.wf, IntKind.min, IntKind.max, IntKind.signed, IntKind.bits] using this
 have hl0 := hb l0 w0
 have hl1 := hb l1 w1
 refine Ev.rounds (g := fun k => laws_FnOtherCycles.f k l0 l1) ?_
 unfold laws_FnOtherCycles.f
 obtain ⟨t, ht⟩ : ∃ t, laws_big.f l0 l1 = some t := by
  unfold laws_big.f
  split <;> exact ⟨_, rfl⟩
 rw [ht]
 simp only [Option.bind_some]
 cases t with
 | true => exact evp rfl (Ev.now _)
 | false =>
  refine evn (by simp) ?_
  obtain ⟨d, p, s, e1, hm1, _, _⟩ := among_ok l0 hl0 0 0 [1, 3, 5, 7, 11, 13, 23, 99, 2, 101] (by simp) (by simp) (by omega) (by omega)
  obtain ⟨most, p2, s2, e2, hm2, _, _⟩ := among_ok l0 hl0 p s [1, 5, 20, 60, 200, 201, 0] (by simp) (by simp) (by omega) (by omega)
  have e : spec_DrawCyclesWith.f l0 = some (d, most) := by
   simp only [spec_DrawCyclesWith.f, e1, e2, Option.bind_some]
  rw [e]
  simp only [Option.bind_some]
  clear e e1 e2 hm1 hm2
  have no : Ev (fun k => laws_FnOtherCycles.j0 k l1 d most [] false false) true := by
   refine evs (fun k => by rw [laws_FnOtherCycles.j0]) ?_
   exact evn (by simp) (evn (by simp) (j5_ok l1 hl1))
  have hempty := rows_ev [] (fun x hx => by simp at hx) (by simp)
  by_cases h : (1 ≤ d ∧ d ≤ 99) ∧ Int.tmod d 2 = 1 ∧ 1 ≤ most ∧ most ≤ 200
  ·obtain ⟨d, rfl⟩ := natOf (a := d) (by omega)
   obtain ⟨most, rfl⟩ := natOf (a := most) (by omega)
   have hodd : d % 2 = 1 := by
    have := h.2.1
    rw [show (2 : Int) = ((2 : Nat) : Int) from rfl, tmod_cast] at this
    omega
   obtain ⟨A, a1, a2, a3⟩ := cycles_both d most (by omega) hodd (by omega) (by omega)
   cases A with
   | none => exact evb a1 (evb a2 (evn (by simp [ansS]) (evb hempty no)))
   | some X =>
    obtain ⟨b1, b2, b3, b4, b5⟩ := a3 X rfl
    have hlen : X.length ≤ 1000000 := by omega
    have hne : X ≠ [] := by
     obtain ⟨c, _, o, ho, _⟩ := b4 1 (Nat.le_refl _) (by omega)
     intro e
     rw [e] at ho
     simp at ho
    have hr := rows_ev X (fun x hx => by have := (b2 x hx).len; omega) hlen
    refine evb a1 (evb a2 (evn (by simp [ansS]) (evb hr ?_)))
    refine evs (fun k => by rw [laws_FnOtherCycles.j0]) ?_
    exact evn (by simp) (evp rfl (l0_ok l1 hl1 d most (by omega) (by omega) hodd (by omega) X hlen hne b1 b2 b3 b4 X [] rfl))
  ·obtain ⟨a1, a2⟩ := cycles_no d most h
   exact evb a1 (evb a2 (evn (by simp) (evb hempty no)))

end Go.Proofs.Ytclnhbppcmcalaa.Pure
