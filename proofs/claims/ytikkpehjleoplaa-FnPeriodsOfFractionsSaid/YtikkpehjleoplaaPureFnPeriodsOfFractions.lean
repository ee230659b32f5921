/- For all codes: periods are orders if nothing is common, digits come again as told, and fractions are made of their digits again. -/
import Derived.Test.YtikkpehjleoplaaPFnPeriodsOfFractionsx5
import Derived.Test.YtikkpehjleoplaaWMore
set_option linter.unusedVariables false
set_option linter.unusedSimpArgs false
namespace Go.Proofs.Ytikkpehjleoplaa.Pure
open Go.RowKit Go.Proofs.Ytikkpehjleoplaa.PFnPeriodsOfFractions Go.Proofs.YtikkpehjleoplaaW.PrintWords Go.Proofs.YtikkpehjleoplaaW.PrintLast

theorem w64 {x : Int} (h1 : -9223372036854775808 ≤ x) (h2 : x ≤ 9223372036854775807) : wrap64 x = x := by unfold wrap64; omega

theorem w64n (n : Nat) (h : n ≤ 9223372036854775807) : wrap64 (n : Int) = (n : Int) := w64 (by omega) (by omega)

theorem evp {α : Type} {c : Prop} [Decidable c] {a b : Nat → Option α} {r : α} (h : c) (k : Ev a r) : Ev (fun n => if c then a n else b n) r := Ev.congr (fun _ => if_pos h) k
theorem evn {α : Type} {c : Prop} [Decidable c] {a b : Nat → Option α} {r : α} (h : ¬ c) (k : Ev b r) : Ev (fun n => if c then a n else b n) r := Ev.congr (fun _ => if_neg h) k
theorem evr {α : Type} {x r : α} (h : x = r) : Ev (fun _ => some x) r := h ▸ Ev.now x
theorem evb {α β : Type} {g : Nat → Option α} {f : Nat → α → Option β} {a : α} {r : β} (h : Ev g a) (k : Ev (fun n => f n a) r) : Ev (fun n => (g n).bind fun x => f n x) r := Ev.bind h k
theorem evs {α : Type} {g f : Nat → Option α} {r : α} (h : ∀ k, g (k + 1) = f k) (k : Ev f r) : Ev g r := Ev.step h k
theorem evu {α : Type} {g : Nat → Option α} {r s : α} (h : Ev g r) (k : Ev g s) : r = s := by
  obtain ⟨K, h⟩ := h
  obtain ⟨L, k⟩ := k
  have := (h (K + L) (by omega)).symm.trans (k (K + L) (by omega))
  injection this

theorem rd_mid (pre post : List Int) (x : Int) : rd (pre ++ x :: post) (pre.length : Int) = x := by simp [rd]
theorem rd_mid' (pre post : List Int) (x i : Int) (h : i = pre.length) : rd (pre ++ x :: post) i = x := by subst h; exact rd_mid pre post x
theorem set_mid {α : Type} (pre post : List α) (x y : α) : (pre ++ x :: post).set pre.length y = pre ++ y :: post := by simp
theorem set_midI {α : Type} (pre post : List α) (x y : α) (i : Int) (h : i = pre.length) : (pre ++ x :: post).set i.toNat y = pre ++ y :: post := by subst h; simp
theorem rd_nat (xs : List Int) (i : Nat) : rd xs (i : Int) = xs.getD i 0 := by simp [rd]
theorem rd_get (xs : List Int) (i : Nat) (h : i < xs.length) : rd xs (i : Int) = xs[i] := by simp [rd, h]
theorem rd_mem (xs : List Int) (i : Int) (h0 : 0 ≤ i) (h : i < xs.length) : rd xs i ∈ xs := by
  have hi : i.toNat < xs.length := by omega
  simp only [rd, List.getD_eq_getElem?_getD, List.getElem?_eq_getElem hi, Option.getD_some]
  exact List.getElem_mem hi
/-- m, m + 1, .. -/
def iota (m : Int) : Nat → List Int
  | 0 => []
  | n + 1 => m :: iota (m + 1) n
theorem iota_length (m : Int) (n : Nat) : (iota m n).length = n := by induction n generalizing m with
  | zero => rfl
  | succ n ih => simp [iota, ih]
/-- A list is cut in two. -/
theorem cut_at {α : Type} (xs : List α) (i : Nat) (h : i < xs.length) : ∃ pre x post, xs = pre ++ x :: post ∧ pre.length = i := by
  refine ⟨xs.take i, xs[i], xs.drop (i + 1), ?_, by simp; omega⟩
  simp
theorem wf64 {x : Int} (h : (Lit.int .i64 x).wf = true) : -9223372036854775808 ≤ x ∧ x ≤ 9223372036854775807 := by
  have h2 : (decide (IntKind.i64.min ≤ x) && decide (x ≤ IntKind.i64.max)) = true := h
  rw [show IntKind.i64.min = -9223372036854775808 from rfl, show IntKind.i64.max = 9223372036854775807 from rfl] at h2
  simpa using h2

def ic (l : List Nat) : List Int := l.map (fun x : Nat => (x : Int))
theorem ic_nil : ic [] = [] := rfl
theorem ic_cons (x : Nat) (l : List Nat) : ic (x :: l) = (x : Int) :: ic l := rfl
theorem ic_append (l m : List Nat) : ic (l ++ m) = ic l ++ ic m := by simp [ic]
theorem ic_length (l : List Nat) : (ic l).length = l.length := by simp [ic]
theorem ic_drop (l : List Nat) (k : Nat) : (ic l).drop k = ic (l.drop k) := by simp [ic, List.map_drop]
def digs (n b : Nat) : Nat → Nat → List Nat
  | 0, _ => []
  | k + 1, a => a * b / n :: digs n b k (a * b % n)
theorem digs_length (n b k : Nat) : ∀ a, (digs n b k a).length = k := by
  induction k with
  | zero => intro a; rfl
  | succ k ih => intro a; simp [digs, ih]

theorem impl_in_eq (a b c : Int) : impl_in.f a b c = some (decide (b ≤ a ∧ a ≤ c)) := by
  unfold impl_in.f
  by_cases h : b ≤ a <;> simp [h]
theorem spec_l1In_eq (a b c : Int) : spec_l1In.f a b c = some (decide (b ≤ a ∧ a ≤ c)) := by
  unfold spec_l1In.f
  by_cases h : b ≤ a <;> simp [h]

theorem impl_isBase_eq (b : Int) : impl_isBase.f b = some (decide (2 ≤ b ∧ b ≤ 16)) := by simp only [impl_isBase.f, impl_in_eq, Option.bind_some]
theorem spec_dgBase_eq (b : Int) : spec_dgBase.f b = some (decide (2 ≤ b ∧ b ≤ 16)) := by simp only [spec_dgBase.f, spec_l1In_eq, Option.bind_some]

theorem pigeon (n : Nat) : ∀ f : Nat → Nat, (∀ i, i ≤ n → f i < n) → ∃ i j, i < j ∧ j ≤ n ∧ f i = f j := by
  induction n with
  | zero => intro f h; exact absurd (h 0 (Nat.le_refl _)) (by omega)
  | succ n ih =>
    intro f h
    by_cases hc : ∃ i, i ≤ n ∧ f i = f (n + 1)
    · obtain ⟨i, hi, he⟩ := hc
      exact ⟨i, n + 1, by omega, Nat.le_refl _, he⟩
    · have hv := h (n + 1) (Nat.le_refl _)
      have hne : ∀ i, i ≤ n → f i ≠ f (n + 1) := fun i hi he => hc ⟨i, hi, he⟩
      obtain ⟨i, j, hij, hj, he⟩ := ih (fun i => if f i = n then f (n + 1) else f i) (fun i hi => by
        have h1 := h i (by omega)
        have h2 := hne i hi
        show (if f i = n then f (n + 1) else f i) < n
        split <;> omega)
      refine ⟨i, j, hij, by omega, ?_⟩
      have h1 := hne i (by omega)
      have h2 := hne j hj
      (try simp only at he)
      split at he <;> split at he <;> omega
theorem least_of {P : Nat → Prop} (h : ∃ k, P k) : ∃ k, P k ∧ ∀ j, j < k → ¬ P j := by
  obtain ⟨k, hk⟩ := h
  induction k using Nat.strongRecOn with
  | _ k ih =>
    by_cases hc : ∃ j, j < k ∧ P j
    · obtain ⟨j, hj, hp⟩ := hc
      exact ih j hj hp
    · exact ⟨k, hk, fun j hj hp => hc ⟨j, hj, hp⟩⟩
theorem mod_of_dvd_sub {a n : Nat} (h1 : 1 ≤ a) (h : n ∣ a - 1) : a % n = 1 % n := by
  obtain ⟨q, hq⟩ := h
  have : a = n * q + 1 := by omega
  rw [this, Nat.mul_add_mod]
theorem pow_back (b n : Nat) (hb : 0 < b) (hn : 0 < n) (hc : Nat.Coprime n b) : ∃ k, 1 ≤ k ∧ k ≤ n ∧ b ^ k % n = 1 % n := by
  obtain ⟨i, j, hij, hj, he⟩ := pigeon n (fun i => b ^ i % n) (fun i _ => Nat.mod_lt _ hn)
  refine ⟨j - i, by omega, by omega, mod_of_dvd_sub (Nat.pow_pos hb) ?_⟩
  have h1 := Nat.sub_mod_eq_zero_of_mod_eq he.symm
  have h2 := Nat.dvd_of_mod_eq_zero h1
  have h3 : b ^ j - b ^ i = b ^ i * (b ^ (j - i) - 1) := by
    rw [Nat.mul_sub, ← Nat.pow_add, Nat.mul_one]
    congr 2
    omega
  rw [h3] at h2
  exact Nat.Coprime.dvd_of_dvd_mul_left (Nat.Coprime.pow_right _ hc) h2
theorem tmod_cast (a b : Nat) : Int.tmod (a : Int) (b : Int) = ((a % b : Nat) : Int) := (Int.ofNat_tmod a b).symm
theorem tdiv_cast (a b : Nat) : Int.tdiv (a : Int) (b : Int) = ((a / b : Nat) : Int) := (Int.ofNat_tdiv a b).symm
theorem natOf {a : Int} (h : 0 ≤ a) : ∃ n : Nat, a = (n : Int) := ⟨a.toNat, by omega⟩

theorem spec_teGcd_loop (b : Nat) : ∀ a : Nat, Ev (fun k => spec_teGcd.l0 k (a : Int) (b : Int)) ((Nat.gcd a b : Nat) : Int) := by
  induction b using Nat.strongRecOn with
  | _ b ih =>
    intro a
    refine evs (fun k => by rw [spec_teGcd.l0]) ?_
    by_cases hb : b = 0
    · subst hb
      exact evn (by simp) (evr (by simp))
    · refine evp (by omega) (evn (by omega) ?_)
      rw [tmod_cast, Nat.gcd_comm a b, Nat.gcd_rec, Nat.gcd_comm]
      exact ih (a % b) (Nat.mod_lt _ (by omega)) b
theorem spec_teGcd_ev (a b : Nat) : Ev (fun k => spec_teGcd.f k (a : Int) (b : Int)) ((Nat.gcd a b : Nat) : Int) := spec_teGcd_loop b a
theorem impl_gcd_loop (b : Nat) : ∀ a : Nat, Ev (fun k => impl_gcd.l0 k (a : Int) (b : Int)) ((Nat.gcd a b : Nat) : Int) := by
  induction b using Nat.strongRecOn with
  | _ b ih =>
    intro a
    refine evs (fun k => by rw [impl_gcd.l0]) ?_
    by_cases hb : b = 0
    · subst hb
      exact evp (by simp) (evr (by simp))
    · refine evn (by omega) ?_
      rw [tmod_cast, Nat.gcd_comm a b, Nat.gcd_rec, Nat.gcd_comm]
      exact ih (a % b) (Nat.mod_lt _ (by omega)) b
theorem impl_gcd_ev (a b : Nat) : Ev (fun k => impl_gcd.f k (a : Int) (b : Int)) ((Nat.gcd a b : Nat) : Int) := impl_gcd_loop b a

theorem order_loop (n b : Nat) (hn : 0 < n) (hn2 : n ≤ 2000) (hb2 : b ≤ 16) (d : Nat) : ∀ k : Nat, 1 ≤ k → k + d ≤ n → b ^ (k + d) % n = 1 % n → (∀ j, k ≤ j → j < k + d → b ^ j % n ≠ 1 % n) →
    Ev (fun f => spec_teOrder.l0 f (n : Int) (b : Int) (k : Int) ((b ^ k % n : Nat) : Int)) ((k + d : Nat) : Int) := by
  induction d with
  | zero =>
    intro k h1 h2 h3 h4
    refine evs (fun k => by rw [spec_teOrder.l0]) ?_
    refine evn (by omega) (evp ?_ (Ev.now _))
    rw [Nat.add_zero] at h3
    rw [h3]
    rfl
  | succ d ih =>
    intro k h1 h2 h3 h4
    refine evs (fun k => by rw [spec_teOrder.l0]) ?_
    have hne := h4 k (Nat.le_refl _) (by omega)
    have hlt : b ^ k % n < n := Nat.mod_lt _ hn
    refine evn (by omega) (evn (fun e => hne ?_) ?_)
    · exact Int.ofNat.inj e
    · have hm : b ^ k % n * b ≤ 2000 * 16 := Nat.mul_le_mul (by omega) hb2
      have e1 : ((b ^ k % n : Nat) : Int) * (b : Int) = ((b ^ k % n * b : Nat) : Int) := by simp
      rw [e1, w64n _ (by omega), tmod_cast, w64 (x := (k : Int) + 1) (by omega) (by omega), Nat.mod_mul_mod, ← Nat.pow_succ]
      have h5 := ih (k + 1) (by omega) (by omega) (by rw [show k + 1 + d = k + (d + 1) by omega]; exact h3) (fun j hj hj2 => h4 j (by omega) (by omega))
      rw [show k + 1 + d = k + (d + 1) by omega] at h5
      exact h5
theorem order_ev (n b : Nat) (hn : 0 < n) (hn2 : n ≤ 2000) (hb : 0 < b) (hb2 : b ≤ 16) (hc : Nat.Coprime n b) :
    ∃ k : Nat, 1 ≤ k ∧ k ≤ n ∧ b ^ k % n = 1 % n ∧ (∀ j, 1 ≤ j → j < k → b ^ j % n ≠ 1 % n) ∧ Ev (fun f => spec_teOrder.f f (n : Int) (b : Int)) (k : Int) := by
  obtain ⟨k0, h1, h2, h3⟩ := pow_back b n hb hn hc
  obtain ⟨k, ⟨hk1, hk2⟩, hk3⟩ := least_of (P := fun k => 1 ≤ k ∧ b ^ k % n = 1 % n) ⟨k0, h1, h3⟩
  have hkn : k ≤ n := by
    by_cases h : k ≤ n
    · exact h
    · exact absurd ⟨h1, h3⟩ (hk3 k0 (by omega))
  have hmin : ∀ j, 1 ≤ j → j < k → b ^ j % n ≠ 1 % n := fun j hj hj2 he => hk3 j hj2 ⟨hj, he⟩
  refine ⟨k, hk1, hkn, hk2, hmin, ?_⟩
  unfold spec_teOrder.f
  refine evn (by omega) ?_
  have h := order_loop n b hn hn2 hb2 (k - 1) 1 (by omega) (by omega) (by rw [show 1 + (k - 1) = k by omega]; exact hk2) (fun j hj hj2 => hmin j hj (by omega))
  rw [Nat.pow_one, show 1 + (k - 1) = k by omega] at h
  rw [tmod_cast]
  exact h
theorem order_same_loop : ∀ (k : Nat) (a b c d : Int), impl_order.l0 k a b c d = spec_teOrder.l0 k a b c d
  | 0, _, _, _, _ => rfl
  | k + 1, a, b, c, d => by simp only [impl_order.l0, spec_teOrder.l0, order_same_loop k]
theorem order_same (k : Nat) (a b : Int) : impl_order.f k a b = spec_teOrder.f k a b := by simp only [impl_order.f, spec_teOrder.f, order_same_loop]

theorem spec_teFraction_eq (a n b : Int) : spec_teFraction.f a n b = some (decide ((2 ≤ b ∧ b ≤ 16) ∧ (1 ≤ n ∧ n ≤ 2000) ∧ 0 ≤ a ∧ a ≤ n - 1)) := by
  simp only [spec_teFraction.f, spec_dgBase_eq, spec_l1In_eq, Option.bind_some, decide_eq_true_eq]
  by_cases h2 : 1 ≤ n ∧ n ≤ 2000
  · rw [w64 (x := n - 1) (by omega) (by omega)]
    by_cases h1 : 2 ≤ b ∧ b ≤ 16 <;> simp [h1, h2]
  · by_cases h1 : 2 ≤ b ∧ b ≤ 16 <;> simp [h1, h2]
theorem impl_isFraction_eq (a n b : Int) : impl_isFraction.f a n b = some (decide ((2 ≤ b ∧ b ≤ 16) ∧ (1 ≤ n ∧ n ≤ 2000) ∧ 0 ≤ a ∧ a ≤ n - 1)) := by
  simp only [impl_isFraction.f, impl_isBase_eq, impl_in_eq, Option.bind_some, decide_eq_true_eq]
  by_cases h2 : 1 ≤ n ∧ n ≤ 2000
  · rw [w64 (x := n - 1) (by omega) (by omega)]
    by_cases h1 : 2 ≤ b ∧ b ≤ 16 <;> by_cases h3 : 0 ≤ a ∧ a ≤ n - 1 <;> simp [h1, h2, h3]
  · by_cases h1 : 2 ≤ b ∧ b ≤ 16 <;> simp [h1, h2]

theorem teDigits_loop (n b : Nat) (hn : 0 < n) (hn2 : n ≤ 2000) (hb2 : b ≤ 16) (d : Nat) : ∀ (a : Nat) (out : List Int), a < n → out.length + d ≤ 100000 →
    Ev (fun k => spec_teDigits.l0 k (a : Int) (n : Int) (b : Int) (d : Int) out) (out ++ ic (digs n b d a)) := by
  induction d with
  | zero =>
    intro a out ha ho
    refine evs (fun k => by rw [spec_teDigits.l0]) ?_
    exact evn (by omega) (evr (by simp [digs, ic]))
  | succ d ih =>
    intro a out ha ho
    refine evs (fun k => by rw [spec_teDigits.l0]) ?_
    refine evp (by omega) (evn (by omega) (evp (by omega) ?_))
    have hm : a * b ≤ 2000 * 16 := Nat.mul_le_mul (by omega) hb2
    have hd : a * b / n ≤ a * b := Nat.div_le_self _ _
    have e1 : ((a : Int)) * (b : Int) = ((a * b : Nat) : Int) := by simp
    rw [e1, w64n _ (by omega), tmod_cast, tdiv_cast, w64n (a * b / n) (by omega), w64 (x := ((d + 1 : Nat) : Int) - 1) (by omega) (by omega)]
    have h2 := ih (a * b % n) (out ++ [((a * b / n : Nat) : Int)]) (Nat.mod_lt _ hn) (by simp; omega)
    have e2 : (((d + 1 : Nat) : Int) - 1) = (d : Int) := by omega
    rw [e2]
    simpa [digs, ic_cons] using h2
theorem teDigits_ev (n b a d : Nat) (hn : 0 < n) (hn2 : n ≤ 2000) (hb2 : b ≤ 16) (ha : a < n) (hd : d ≤ 100000) : Ev (fun k => spec_teDigits.f k (a : Int) (n : Int) (b : Int) (d : Int)) (ic (digs n b d a)) := by
  unfold spec_teDigits.f
  simpa using teDigits_loop n b hn hn2 hb2 d a [] ha (by simpa using hd)
theorem shown_loop (n b fr t : Nat) (hn : 0 < n) (hn2 : n ≤ 2000) (hb2 : b ≤ 16) (ht : t ≤ 100000) (d : Nat) : ∀ (a i : Nat) (out : List Int), a < n → i + d = t → out.length ≤ i →
    Ev (fun k => impl_shown.l0 k (a : Int) (n : Int) (b : Int) (fr : Int) out (t : Int) (i : Int)) (out ++ ic ((digs n b d a).drop (fr - i))) := by
  induction d with
  | zero =>
    intro a i out ha hi ho
    refine evs (fun k => by rw [impl_shown.l0]) ?_
    exact evn (by omega) (evr (by simp [digs, ic]))
  | succ d ih =>
    intro a i out ha hi ho
    refine evs (fun k => by rw [impl_shown.l0]) ?_
    have hm : a * b ≤ 2000 * 16 := Nat.mul_le_mul (by omega) hb2
    have hd : a * b / n ≤ a * b := Nat.div_le_self _ _
    have e1 : ((a : Int)) * (b : Int) = ((a * b : Nat) : Int) := by simp
    rw [e1, w64n _ (by omega), tmod_cast, tdiv_cast, w64n (a * b / n) (by omega), w64 (x := (i : Int) + 1) (by omega) (by omega)]
    refine evp (by omega) ?_
    by_cases hf : fr ≤ i
    · refine evp (by omega) (evn (by omega) (evp (by omega) ?_))
      have h2 := ih (a * b % n) (i + 1) (out ++ [((a * b / n : Nat) : Int)]) (Nat.mod_lt _ hn) (by omega) (by simp; omega)
      rw [show fr - (i + 1) = 0 by omega] at h2
      rw [show fr - i = 0 by omega]
      simpa [digs, ic_cons] using h2
    · refine evn (by omega) (evn (by omega) ?_)
      have h2 := ih (a * b % n) (i + 1) out (Nat.mod_lt _ hn) (by omega) (by omega)
      rw [show fr - i = (fr - (i + 1)) + 1 by omega]
      simpa [digs] using h2
theorem shown_ev (n b a fr d : Nat) (hn : 0 < n) (hn2 : n ≤ 2000) (hb2 : b ≤ 16) (ha : a < n) (hd : fr + d ≤ 100000) : Ev (fun k => impl_shown.f k (a : Int) (n : Int) (b : Int) (fr : Int) (d : Int)) (ic ((digs n b (fr + d) a).drop fr)) := by
  unfold impl_shown.f
  rw [w64 (by omega) (by omega)]
  simpa using shown_loop n b fr (fr + d) hn hn2 hb2 hd (fr + d) a 0 [] ha (by omega) (by simp)

def seen (n : Nat) (xs : List Int) : List Int := (List.range n).map (fun i : Nat => if (i : Int) ∈ xs then (xs.idxOf (i : Int) : Int) else -1)
theorem seen_length (n : Nat) (xs : List Int) : (seen n xs).length = n := by simp [seen]
theorem seen_nil (n : Nat) : seen n [] = List.replicate n (-1) := List.ext_getElem (by simp [seen]) (fun i h1 h2 => by simp [seen])
theorem seen_at (n : Nat) (xs : List Int) (x : Int) (h0 : 0 ≤ x) (h1 : x < n) : rd (seen n xs) x = if x ∈ xs then (xs.idxOf x : Int) else -1 := by
  obtain ⟨x, rfl⟩ := natOf h0
  rw [rd_get _ _ (by rw [seen_length]; omega)]
  simp [seen]
theorem seen_set (n : Nat) (xs : List Int) (x : Int) (h0 : 0 ≤ x) (hx : x ∉ xs) : (seen n xs).set x.toNat (xs.length : Int) = seen n (xs ++ [x]) := by
  refine List.ext_getElem (by simp [seen]) (fun i h2 h3 => ?_)
  rw [List.getElem_set]
  simp only [seen, List.getElem_map, List.getElem_range]
  by_cases e : x.toNat = i
  · have e2 : (i : Int) = x := by omega
    rw [if_pos e, e2]
    simp [List.idxOf_append, hx]
  · have e2 : (i : Int) ≠ x := by omega
    rw [if_neg e]
    by_cases hm : (i : Int) ∈ xs <;> simp [List.idxOf_append, e2, hm]
theorem nodup_le (n : Nat) (xs : List Int) (h : xs.Nodup) (hb : ∀ x ∈ xs, 0 ≤ x ∧ x < n) : xs.length ≤ n := by
  by_cases hl : xs.length ≤ n
  · exact hl
  · obtain ⟨i, j, hij, hj, he⟩ := pigeon n (fun i => (xs.getD i 0).toNat) (fun i hi => by
      have hi' : i < xs.length := by omega
      have := hb _ (List.getElem_mem hi')
      simp only [List.getD_eq_getElem?_getD, List.getElem?_eq_getElem hi', Option.getD_some]
      omega)
    have hi' : i < xs.length := by omega
    have hj' : j < xs.length := by omega
    simp only [List.getD_eq_getElem?_getD, List.getElem?_eq_getElem hi', List.getElem?_eq_getElem hj', Option.getD_some] at he
    have h1 := hb _ (List.getElem_mem hi')
    have h2 := hb _ (List.getElem_mem hj')
    exact absurd (by omega) (List.pairwise_iff_getElem.1 h i j hi' hj' hij)
theorem period_loop (n b : Nat) (hn : 0 < n) (hn2 : n ≤ 2000) (hb2 : b ≤ 16) (d : Nat) : ∀ (xs : List Int) (x : Nat), xs.Nodup → (∀ y ∈ xs, 0 ≤ y ∧ y < n) → x < n → n - xs.length = d →
    ∃ (p L : Nat) (ys : List Int), p + L ≤ n ∧ 1 ≤ L ∧ ys.length = p + L ∧ Ev (fun k => spec_tePeriod.l1 k (n : Int) (b : Int) (seen n xs) (xs.length : Int) (x : Int)) ((p : Int), (L : Int)) ∧
      Ev (fun k => impl_period.run (impl_period.step (n : Int) (b : Int)) k xs (x : Int)) (ys, (p : Int)) := by
  induction d with
  | zero =>
    intro xs x hnd hb hx hd
    have hle := nodup_le n xs hnd hb
    by_cases hm : (x : Int) ∈ xs
    · have hi := List.idxOf_lt_length_of_mem hm
      refine ⟨xs.idxOf (x : Int), xs.length - xs.idxOf (x : Int), xs, by omega, by omega, by omega, ?_, ?_⟩
      · refine evs (fun k => by rw [spec_tePeriod.l1]) ?_
        rw [seen_at n xs x (by omega) (by omega), if_pos hm, seen_length]
        refine evp (by omega) (evp (by omega) (evn (by omega) (evr ?_)))
        rw [w64 (by omega) (by omega)]
        congr 1
        omega
      · refine evs (fun k => by rw [impl_period.run]) ?_
        exact evp hm (Ev.now _)
    · have := nodup_le n ((x : Int) :: xs) (List.nodup_cons.2 ⟨hm, hnd⟩) (by
        intro y hy
        rcases List.mem_cons.1 hy with rfl | hy
        · omega
        · exact hb y hy)
      simp at this
      omega
  | succ d ih =>
    intro xs x hnd hb hx hd
    have hle := nodup_le n xs hnd hb
    by_cases hm : (x : Int) ∈ xs
    · have hi := List.idxOf_lt_length_of_mem hm
      refine ⟨xs.idxOf (x : Int), xs.length - xs.idxOf (x : Int), xs, by omega, by omega, by omega, ?_, ?_⟩
      · refine evs (fun k => by rw [spec_tePeriod.l1]) ?_
        rw [seen_at n xs x (by omega) (by omega), if_pos hm, seen_length]
        refine evp (by omega) (evp (by omega) (evn (by omega) (evr ?_)))
        rw [w64 (by omega) (by omega)]
        congr 1
        omega
      · refine evs (fun k => by rw [impl_period.run]) ?_
        exact evp hm (Ev.now _)
    · have hm2 : x * b ≤ 2000 * 16 := Nat.mul_le_mul (by omega) hb2
      have e1 : ((x : Int)) * (b : Int) = ((x * b : Nat) : Int) := by simp
      obtain ⟨p, L, ys, h1, h2, h3, h4, h5⟩ := ih (xs ++ [(x : Int)]) (x * b % n) (by
          rw [List.nodup_append]
          refine ⟨hnd, by simp, ?_⟩
          intro a ha c hc
          simp at hc
          subst hc
          intro e
          subst e
          exact hm ha) (by
          intro y hy
          rcases List.mem_append.1 hy with hy | hy
          · exact hb y hy
          · simp at hy
            omega) (Nat.mod_lt _ hn) (by simp; omega)
      refine ⟨p, L, ys, h1, h2, h3, ?_, ?_⟩
      · refine evs (fun k => by rw [spec_tePeriod.l1]) ?_
        rw [seen_at n xs x (by omega) (by omega), if_neg hm, seen_length]
        refine evp (by omega) (evp (by omega) (evp (by omega) (evn (by omega) ?_)))
        rw [e1, w64n _ (by omega), tmod_cast, w64 (x := (xs.length : Int) + 1) (by omega) (by omega), seen_set n xs x (by omega) hm]
        simpa using h4
      · refine evs (fun k => by rw [impl_period.run]) ?_
        refine evn hm (evp (by omega) ?_)
        have hst : impl_period.step (n : Int) (b : Int) (x : Int) = some ((x * b % n : Nat) : Int) := by
          unfold impl_period.step
          rw [if_neg (by omega : ¬ (n : Int) = 0), e1, w64n _ (by omega), tmod_cast]
        rw [hst]
        simpa using h5
theorem period_fill (a n b : Int) (N : Nat) (hN : N ≤ 100000) (r : Int × Int) (d : Nat) : ∀ i : Nat, i + d = N → Ev (fun k => spec_tePeriod.l1 k n b (List.replicate N (-1)) 0 a) r →
    Ev (fun k => spec_tePeriod.l0 k a n b (List.replicate i (-1) ++ List.replicate d 0) (N : Int) (i : Int)) r := by
  induction d with
  | zero =>
    intro i hi h
    refine evs (fun k => by rw [spec_tePeriod.l0]) ?_
    refine evn (by omega) ?_
    have : i = N := by omega
    subst this
    simpa using h
  | succ d ih =>
    intro i hi h
    refine evs (fun k => by rw [spec_tePeriod.l0]) ?_
    refine evp (by omega) (evp (by omega) (evp (by simp; omega) ?_))
    rw [List.replicate_succ, set_midI _ _ _ _ _ (by simp), w64 (by omega) (by omega)]
    have h2 := ih (i + 1) (by omega) h
    rw [List.replicate_succ', List.append_assoc] at h2
    simpa using h2
theorem period_ev (a n b : Nat) (hn : 0 < n) (hn2 : n ≤ 2000) (hb2 : b ≤ 16) (ha : a < n) :
    ∃ p L : Nat, p + L ≤ n ∧ 1 ≤ L ∧ Ev (fun k => spec_tePeriod.f k (a : Int) (n : Int) (b : Int)) ((p : Int), (L : Int)) ∧ Ev (fun k => impl_period.f k (a : Int) (n : Int) (b : Int)) ((p : Int), (L : Int)) := by
  obtain ⟨p, L, ys, h1, h2, h3, h4, h5⟩ := period_loop n b hn hn2 hb2 n [] a List.nodup_nil (by simp) ha (by simp)
  refine ⟨p, L, h1, h2, ?_, ?_⟩
  · unfold spec_tePeriod.f
    refine evp (by omega) (evp (by omega) ?_)
    simp only [Option.bind_some, List.length_replicate, Int.toNat_natCast]
    rw [seen_nil] at h4
    simpa using period_fill a n b n (by omega) _ n 0 (by omega) h4
  · unfold impl_period.f
    refine evp (by omega) (evb h5 (evr ?_))
    rw [w64 (by simp only; omega) (by simp only; omega)]
    simp only [h3]
    congr 1
    omega

def rems (n b a t : Nat) : List Int := (List.range t).map (fun i : Nat => ((a * b ^ i % n : Nat) : Int))
theorem rems_length (n b a t : Nat) : (rems n b a t).length = t := by simp [rems]
theorem rems_succ (n b a t : Nat) : rems n b a (t + 1) = rems n b a t ++ [((a * b ^ t % n : Nat) : Int)] := by simp [rems, List.range_succ]
theorem rems_mem (n b a t : Nat) (x : Nat) : ((x : Int) ∈ rems n b a t) ↔ ∃ i, i < t ∧ a * b ^ i % n = x := by
  simp only [rems, List.mem_map, List.mem_range]
  constructor
  · rintro ⟨i, hi, he⟩
    exact ⟨i, hi, by omega⟩
  · rintro ⟨i, hi, he⟩
    exact ⟨i, hi, by omega⟩
theorem rems_idx (n b a : Nat) (p : Nat) : ∀ t, p < t → (∀ i, i < p → a * b ^ i % n ≠ a * b ^ p % n) → (rems n b a t).idxOf ((a * b ^ p % n : Nat) : Int) = p := by
  intro t
  induction t with
  | zero => intro h; omega
  | succ t ih =>
    intro hp hd
    rw [rems_succ, List.idxOf_append]
    by_cases h : p < t
    · rw [if_pos ((rems_mem n b a t _).2 ⟨p, h, rfl⟩)]
      exact ih h hd
    · have e : p = t := by omega
      subst e
      have hn : ((a * b ^ p % n : Nat) : Int) ∉ rems n b a p := by
        rw [rems_mem]
        rintro ⟨i, hi, he⟩
        exact hd i hi he
      rw [if_neg hn, rems_length]
      simp
theorem run_rems (n b a p L : Nat) (hn : 0 < n) (hn2 : n ≤ 2000) (hb2 : b ≤ 16) (hL : 1 ≤ L) (hpL : p + L ≤ 100000) (hd : ∀ i j, i < j → j < p + L → a * b ^ i % n ≠ a * b ^ j % n) (hr : a * b ^ (p + L) % n = a * b ^ p % n) (d : Nat) :
    ∀ t, t + d = p + L → Ev (fun k => impl_period.run (impl_period.step (n : Int) (b : Int)) k (rems n b a t) ((a * b ^ t % n : Nat) : Int)) (rems n b a (p + L), (p : Int)) := by
  induction d with
  | zero =>
    intro t ht
    have e : t = p + L := by omega
    subst e
    refine evs (fun k => by rw [impl_period.run]) ?_
    rw [hr]
    refine evp ((rems_mem n b a (p + L) _).2 ⟨p, by omega, rfl⟩) (evr ?_)
    rw [rems_idx n b a p (p + L) (by omega) (fun i hi => hd i p hi (by omega))]
  | succ d ih =>
    intro t ht
    refine evs (fun k => by rw [impl_period.run]) ?_
    refine evn ?_ (evp (by rw [rems_length]; omega) ?_)
    · rw [rems_mem]
      rintro ⟨i, hi, he⟩
      exact hd i t hi (by omega) he
    · have hlt : a * b ^ t % n < n := Nat.mod_lt _ hn
      have hm : a * b ^ t % n * b ≤ 2000 * 16 := Nat.mul_le_mul (by omega) hb2
      have e1 : ((a * b ^ t % n : Nat) : Int) * (b : Int) = ((a * b ^ t % n * b : Nat) : Int) := (Int.natCast_mul _ _).symm
      have hst : impl_period.step (n : Int) (b : Int) ((a * b ^ t % n : Nat) : Int) = some ((a * b ^ (t + 1) % n : Nat) : Int) := by
        unfold impl_period.step
        rw [if_neg (by omega : ¬ (n : Int) = 0), e1, w64n _ (by omega), tmod_cast, Nat.mod_mul_mod, Nat.pow_succ, Nat.mul_assoc]
      rw [hst]
      rw [← rems_succ]
      exact ih (t + 1) (by omega)
theorem first_back (n b a : Nat) (hn : 0 < n) : ∃ p L : Nat, 1 ≤ L ∧ p + L ≤ n ∧ (∀ i j, i < j → j < p + L → a * b ^ i % n ≠ a * b ^ j % n) ∧ a * b ^ (p + L) % n = a * b ^ p % n := by
  obtain ⟨j, ⟨i, hij, he⟩, hmin⟩ := least_of (P := fun j => ∃ i, i < j ∧ a * b ^ i % n = a * b ^ j % n) (by
    obtain ⟨i, j, h1, h2, h3⟩ := pigeon n (fun i => a * b ^ i % n) (fun i _ => Nat.mod_lt _ hn)
    exact ⟨j, i, h1, h3⟩)
  refine ⟨i, j - i, by omega, ?_, ?_, ?_⟩
  · obtain ⟨i2, j2, h1, h2, h3⟩ := pigeon n (fun i => a * b ^ i % n) (fun i _ => Nat.mod_lt _ hn)
    by_cases h : j ≤ n
    · omega
    · exact absurd ⟨i2, h1, h3⟩ (hmin j2 (by omega))
  · intro i2 j2 h1 h2 h3
    exact hmin j2 (by omega) ⟨i2, h1, h3⟩
  · rw [show i + (j - i) = j by omega]
    exact he.symm

theorem period_full (a n b : Nat) (hn : 0 < n) (hn2 : n ≤ 2000) (hb2 : b ≤ 16) (ha : a < n) :
    ∃ p L : Nat, 1 ≤ L ∧ p + L ≤ n ∧ (∀ i j, i < j → j < p + L → a * b ^ i % n ≠ a * b ^ j % n) ∧ a * b ^ (p + L) % n = a * b ^ p % n ∧
      Ev (fun k => spec_tePeriod.f k (a : Int) (n : Int) (b : Int)) ((p : Int), (L : Int)) ∧ Ev (fun k => impl_period.f k (a : Int) (n : Int) (b : Int)) ((p : Int), (L : Int)) := by
  obtain ⟨p, L, h1, h2, h3, h4⟩ := first_back n b a hn
  obtain ⟨p', L', g1, g2, g3, g4⟩ := period_ev a n b hn hn2 hb2 ha
  have hrun := run_rems n b a p L hn hn2 hb2 h1 (by omega) h3 h4 (p + L) 0 (by omega)
  have hi : Ev (fun k => impl_period.f k (a : Int) (n : Int) (b : Int)) ((p : Int), (L : Int)) := by
    unfold impl_period.f
    refine evp (by omega) (evb (a := (rems n b a (p + L), (p : Int))) ?_ (evr ?_))
    · have e0 : a * b ^ 0 % n = a := by rw [Nat.pow_zero, Nat.mul_one, Nat.mod_eq_of_lt ha]
      rw [e0] at hrun
      exact hrun
    · simp only [rems_length]
      rw [w64 (by omega) (by omega)]
      congr 1
      omega
  have e := evu g4 hi
  rw [e] at g3
  exact ⟨p, L, h1, h2, h3, h4, g3, hi⟩
theorem mod_cancel {n a b j d : Nat} (hc : Nat.Coprime n b) (hca : Nat.Coprime n a) (hb : 0 < b) (h : a * b ^ (j + d) % n = a * b ^ j % n) : b ^ d % n = 1 % n := by
  refine mod_of_dvd_sub (Nat.pow_pos hb) ?_
  have h1 := Nat.sub_mod_eq_zero_of_mod_eq h
  have h2 := Nat.dvd_of_mod_eq_zero h1
  have h3 : a * b ^ (j + d) - a * b ^ j = a * (b ^ j * (b ^ d - 1)) := by
    rw [← Nat.mul_sub, Nat.mul_sub (b ^ j), ← Nat.pow_add, Nat.mul_one]
  rw [h3] at h2
  exact Nat.Coprime.dvd_of_dvd_mul_left (Nat.Coprime.pow_right _ hc) (Nat.Coprime.dvd_of_dvd_mul_left hca h2)
theorem period_order (a n b p L k : Nat) (hn : 0 < n) (hb : 0 < b) (ha : a < n) (hc : Nat.Coprime n b) (hca : Nat.Coprime n a) (hL : 1 ≤ L) (hd : ∀ i j, i < j → j < p + L → a * b ^ i % n ≠ a * b ^ j % n) (hr : a * b ^ (p + L) % n = a * b ^ p % n)
    (hk : 1 ≤ k) (hk2 : b ^ k % n = 1 % n) (hk3 : ∀ j, 1 ≤ j → j < k → b ^ j % n ≠ 1 % n) : p = 0 ∧ L = k := by
  have h1 : b ^ L % n = 1 % n := mod_cancel hc hca hb hr
  have back : ∀ j, b ^ j % n = 1 % n → a * b ^ j % n = a * b ^ 0 % n := by
    intro j hj
    rw [Nat.mul_mod, hj, Nat.pow_zero, Nat.mul_mod a 1 n]
  have hp : p = 0 := by
    by_cases h : p = 0
    · exact h
    · exact absurd (back L h1).symm (hd 0 L (by omega) (by omega))
  subst hp
  refine ⟨rfl, ?_⟩
  by_cases hlt : L < k
  · exact absurd h1 (hk3 L hL hlt)
  · by_cases hgt : k < L
    · exact absurd (back k hk2).symm (hd 0 k (by omega) (by omega))
    · omega

theorem repetend_full (a n b : Nat) (hn : 0 < n) (hn2 : n ≤ 2000) (hb2 : b ≤ 16) (ha : a < n) (p L : Nat) (h1 : p + L ≤ n)
    (h3 : Ev (fun k => spec_tePeriod.f k (a : Int) (n : Int) (b : Int)) ((p : Int), (L : Int))) (h4 : Ev (fun k => impl_period.f k (a : Int) (n : Int) (b : Int)) ((p : Int), (L : Int))) :
    Ev (fun k => spec_teRepetend.f k (a : Int) (n : Int) (b : Int)) (ic ((digs n b (p + L) a).drop p)) ∧ Ev (fun k => impl_repetend.f k (a : Int) (n : Int) (b : Int)) (ic ((digs n b (p + L) a).drop p)) := by
  constructor
  · unfold spec_teRepetend.f
    refine evb h3 ?_
    have e : wrap64 ((p : Int) + (L : Int)) = ((p + L : Nat) : Int) := by rw [w64 (by omega) (by omega)]; omega
    simp only [e]
    refine evb (teDigits_ev n b a (p + L) hn hn2 hb2 ha (by omega)) (evp (by omega) (evp (by rw [ic_length, digs_length]; omega) (evr ?_)))
    rw [Int.toNat_natCast, ic_drop]
  · unfold impl_repetend.f
    refine evb h4 ?_
    exact evb (shown_ev n b a p L hn hn2 hb2 ha (by omega)) (Ev.now _)
theorem repetend_len (a n b p L : Nat) : (ic ((digs n b (p + L) a).drop p)).length = L := by simp [ic_length, digs_length]
theorem no_fraction (a n b : Int) (h : ¬ ((2 ≤ b ∧ b ≤ 16) ∧ (1 ≤ n ∧ n ≤ 2000) ∧ 0 ≤ a ∧ a ≤ n - 1)) :
    Ev (fun k => spec_PeriodOf.f k a n b) (0, 0, false) ∧ Ev (fun k => impl_PeriodOf.f k a n b) (0, 0, false) ∧ Ev (fun k => spec_RepetendOf.f k a n b) ([], false) ∧ Ev (fun k => impl_RepetendOf.f k a n b) ([], false) := by
  simp only [spec_PeriodOf.f, impl_PeriodOf.f, spec_RepetendOf.f, impl_RepetendOf.f, spec_teFraction_eq, impl_isFraction_eq, Option.bind_some, decide_eq_true_eq]
  exact ⟨evn h (Ev.now _), evn h (Ev.now _), evn h (Ev.now _), evn h (Ev.now _)⟩
theorem yes_fraction (a n b : Nat) (hb : 2 ≤ b) (hb2 : b ≤ 16) (hn : 1 ≤ n) (hn2 : n ≤ 2000) (ha : a < n) :
    ∃ p L : Nat, 1 ≤ L ∧ p + L ≤ n ∧ (∀ i j, i < j → j < p + L → a * b ^ i % n ≠ a * b ^ j % n) ∧ a * b ^ (p + L) % n = a * b ^ p % n ∧
      Ev (fun k => spec_PeriodOf.f k (a : Int) (n : Int) (b : Int)) ((p : Int), (L : Int), true) ∧ Ev (fun k => impl_PeriodOf.f k (a : Int) (n : Int) (b : Int)) ((p : Int), (L : Int), true) ∧
      ∃ r : List Int × Bool, r = (if L > 400 then ([], false) else (ic ((digs n b (p + L) a).drop p), true)) ∧ Ev (fun k => spec_RepetendOf.f k (a : Int) (n : Int) (b : Int)) r ∧ Ev (fun k => impl_RepetendOf.f k (a : Int) (n : Int) (b : Int)) r := by
  have h1 : (2 ≤ (b : Int) ∧ (b : Int) ≤ 16) ∧ (1 ≤ (n : Int) ∧ (n : Int) ≤ 2000) ∧ 0 ≤ (a : Int) ∧ (a : Int) ≤ n - 1 := by omega
  obtain ⟨p, L, g1, g2, g3, g4, g5, g6⟩ := period_full a n b (by omega) hn2 hb2 ha
  obtain ⟨g7, g8⟩ := repetend_full a n b (by omega) hn2 hb2 ha p L g2 g5 g6
  have hlen := repetend_len a n b p L
  refine ⟨p, L, g1, g2, g3, g4, ?_, ?_, _, rfl, ?_, ?_⟩
  · simp only [spec_PeriodOf.f, spec_teFraction_eq, Option.bind_some, decide_eq_true_eq]
    exact evp h1 (evb g5 (Ev.now _))
  · simp only [impl_PeriodOf.f, impl_isFraction_eq, Option.bind_some, decide_eq_true_eq]
    exact evp h1 (evb g6 (Ev.now _))
  · simp only [spec_RepetendOf.f, spec_teFraction_eq, Option.bind_some, decide_eq_true_eq]
    by_cases hL : L > 400
    · rw [if_pos hL]
      exact evp h1 (evb g5 (evp (by simp only; omega) (Ev.now _)))
    · rw [if_neg hL]
      exact evp h1 (evb g5 (evn (by simp only; omega) (evb g7 (Ev.now _))))
  · simp only [impl_RepetendOf.f, impl_isFraction_eq, Option.bind_some, decide_eq_true_eq]
    by_cases hL : L > 400
    · rw [if_pos hL]
      exact evp h1 (evb g8 (evp (by omega) (Ev.now _)))
    · rw [if_neg hL]
      exact evp h1 (evb g8 (evn (by omega) (Ev.now _)))

theorem order_info (n b : Nat) (hn : 1 ≤ n) (hn2 : n ≤ 2000) (hb : 2 ≤ b) (hb2 : b ≤ 16) :
    (Nat.gcd n b = 1 ∧ ∃ k : Nat, 1 ≤ k ∧ k ≤ n ∧ b ^ k % n = 1 % n ∧ (∀ j, 1 ≤ j → j < k → b ^ j % n ≠ 1 % n) ∧ Ev (fun f => spec_OrderOf.f f (n : Int) (b : Int)) ((k : Int), true) ∧ Ev (fun f => impl_OrderOf.f f (n : Int) (b : Int)) ((k : Int), true)) ∨
    (Nat.gcd n b ≠ 1 ∧ Ev (fun f => spec_OrderOf.f f (n : Int) (b : Int)) (0, false) ∧ Ev (fun f => impl_OrderOf.f f (n : Int) (b : Int)) (0, false)) := by
  simp only [spec_OrderOf.f, impl_OrderOf.f, spec_dgBase_eq, spec_l1In_eq, impl_in_eq, impl_isBase_eq, Option.bind_some, decide_eq_true_eq]
  have h1 : 2 ≤ (b : Int) ∧ (b : Int) ≤ 16 := by omega
  have h2 : 1 ≤ (n : Int) ∧ (n : Int) ≤ 2000 := by omega
  by_cases hg : Nat.gcd n b = 1
  · left
    obtain ⟨k, g1, g2, g3, g4, g5⟩ := order_ev n b (by omega) (by omega) (by omega) (by omega) hg
    refine ⟨hg, k, g1, g2, g3, g4, evp h1 (evp h2 (evb (spec_teGcd_ev n b) (evn (by omega) (evb g5 (Ev.now _))))), evp h2 (evp h1 (evb (impl_gcd_ev n b) (evp (by omega) (evb ?_ (Ev.now _)))))⟩
    simpa only [order_same] using g5
  · right
    have : 0 < Nat.gcd n b := Nat.gcd_pos_of_pos_left _ (by omega)
    exact ⟨hg, evp h1 (evp h2 (evb (spec_teGcd_ev n b) (evp (by omega) (Ev.now _)))), evp h2 (evp h1 (evb (impl_gcd_ev n b) (evn (by omega) (Ev.now _))))⟩
theorem no_order (n b : Int) (h : ¬ ((2 ≤ b ∧ b ≤ 16) ∧ 1 ≤ n ∧ n ≤ 2000)) : Ev (fun f => spec_OrderOf.f f n b) (0, false) ∧ Ev (fun f => impl_OrderOf.f f n b) (0, false) := by
  simp only [spec_OrderOf.f, impl_OrderOf.f, spec_dgBase_eq, spec_l1In_eq, impl_in_eq, impl_isBase_eq, Option.bind_some, decide_eq_true_eq]
  by_cases hb : 2 ≤ b ∧ b ≤ 16
  · have hn : ¬ (1 ≤ n ∧ n ≤ 2000) := fun hn => h ⟨hb, hn⟩
    exact ⟨evp hb (evn hn (Ev.now _)), evn hn (Ev.now _)⟩
  · refine ⟨evn hb (Ev.now _), ?_⟩
    by_cases hn : 1 ≤ n ∧ n ≤ 2000
    · exact evp hn (evn hb (Ev.now _))
    · exact evn hn (Ev.now _)

theorem digs_at (n b : Nat) (m : Nat) : ∀ (a i : Nat), i < m → (digs n b m a).getD i 0 = (if i = 0 then a else a * b ^ i % n) * b / n := by
  induction m with
  | zero => intro a i h; omega
  | succ m ih =>
    intro a i h
    cases i with
    | zero => simp [digs]
    | succ i =>
      have h2 := ih (a * b % n) i (by omega)
      simp only [digs, List.getD_cons_succ, h2]
      rw [if_neg (by omega : ¬ i + 1 = 0)]
      by_cases h0 : i = 0
      · subst h0
        rw [if_pos rfl, Nat.zero_add, Nat.pow_one]
      · rw [if_neg h0, Nat.mod_mul_mod, Nat.mul_assoc, ← Nat.pow_succ']
theorem digs_rd (n b m a i : Nat) (ha : a < n) (hi : i < m) : rd (ic (digs n b m a)) (i : Int) = ((a * b ^ i % n * b / n : Nat) : Int) := by
  have h := digs_at n b m a i hi
  have hl : i < (digs n b m a).length := by rw [digs_length]; exact hi
  rw [rd_get _ _ (by rw [ic_length]; exact hl)]
  have e : (ic (digs n b m a))[i]'(by rw [ic_length]; exact hl) = (((digs n b m a).getD i 0 : Nat) : Int) := by
    simp [ic, List.getD_eq_getElem?_getD, hl]
  rw [e, h]
  by_cases h0 : i = 0
  · subst h0
    rw [if_pos rfl, Nat.pow_zero, Nat.mul_one, Nat.mod_eq_of_lt ha]
  · rw [if_neg h0]

theorem fd_both (a n b m : Int) : ∃ r : List Int × Bool, r.1.length ≤ 100000 ∧ Ev (fun k => spec_FractionDigits.f k a n b m) r ∧ Ev (fun k => impl_FractionDigits.f k a n b m) r := by
  simp only [spec_FractionDigits.f, impl_FractionDigits.f, spec_teFraction_eq, impl_isFraction_eq, spec_l1In_eq, impl_in_eq, Option.bind_some, decide_eq_true_eq]
  by_cases h1 : (2 ≤ b ∧ b ≤ 16) ∧ (1 ≤ n ∧ n ≤ 2000) ∧ 0 ≤ a ∧ a ≤ n - 1
  · by_cases h2 : 0 ≤ m ∧ m ≤ 200
    · obtain ⟨n, rfl⟩ := natOf (a := n) (by omega)
      obtain ⟨b, rfl⟩ := natOf (a := b) (by omega)
      obtain ⟨a, rfl⟩ := natOf (a := a) (by omega)
      obtain ⟨m, rfl⟩ := natOf (a := m) (by omega)
      refine ⟨(ic (digs n b m a), true), by simp [ic_length, digs_length]; omega, evp h1 (evp h2 (evb (teDigits_ev n b a m (by omega) (by omega) (by omega) (by omega) (by omega)) (Ev.now _))), evp h1 (evp h2 (evb ?_ (Ev.now _)))⟩
      simpa using shown_ev n b a 0 m (by omega) (by omega) (by omega) (by omega) (by omega)
    · exact ⟨([], false), by simp, evp h1 (evn h2 (Ev.now _)), evp h1 (evn h2 (Ev.now _))⟩
  · exact ⟨([], false), by simp, evn h1 (Ev.now _), evn h1 (Ev.now _)⟩

theorem low_byte (x : Int) : 0 ≤ Go.bits .and .u64 ((IntKind.u64.wrap x) / 1099511627776) 255 ∧ Go.bits .and .u64 ((IntKind.u64.wrap x) / 1099511627776) 255 ≤ 255 := by
  have h0 : 0 ≤ IntKind.u64.wrap x ∧ IntKind.u64.wrap x < 18446744073709551616 := by rw [IntKind.wrap_u64]; omega
  obtain ⟨y, hy⟩ := Int.eq_ofNat_of_zero_le (show 0 ≤ IntKind.u64.wrap x / 1099511627776 by omega)
  rw [hy]
  have h1 := bits_and_u64_nat y 255 (by omega) (by omega)
  have e : y &&& 255 = y % 256 := Nat.and_two_pow_sub_one_eq_mod y 8
  rw [e] at h1
  rw [show ((255 : Int)) = ((255 : Nat) : Int) from rfl, h1]
  omega
theorem next_ok (l : List Int) (hl : ∀ x ∈ l, 0 ≤ x ∧ x ≤ 255) (p s : Int) (h0 : 0 ≤ p) (h1 : p ≤ 1000000000000) :
    ∃ v s' : Int, spec_l1Cur_next.f l p s = some (v, p + 1, s') ∧ 0 ≤ v ∧ v ≤ 255 := by
  unfold spec_l1Cur_next.f
  rw [w64 (x := p + 1) (by omega) (by omega)]
  by_cases hp : p < (l.length : Int)
  · have hm := hl _ (rd_mem l p h0 hp)
    rw [if_pos hp, if_pos h0]
    by_cases hq : p + 1 ≤ (l.length : Int)
    · rw [if_pos hq]
      refine ⟨_, _, rfl, ?_⟩
      rw [w64 (by omega) (by omega)]
      exact hm
    · omega
  · rw [if_neg hp]
    by_cases hq : p + 1 ≤ (l.length : Int)
    · omega
    · rw [if_neg hq]
      refine ⟨_, _, rfl, ?_⟩
      have h := low_byte (IntKind.u64.wrap (IntKind.u64.wrap (s * 6364136223846793005)) + 1442695040888963407)
      rw [w64 (by omega) (by omega)]
      exact h
theorem pick_ok (l : List Int) (hl : ∀ x ∈ l, 0 ≤ x ∧ x ≤ 255) (p s n : Int) (h0 : 0 ≤ p) (h1 : p ≤ 999999999990) (hn : n ≤ 1000000) :
    ∃ v p' s' : Int, spec_l1Cur_pick.f l p s n = some (v, p', s') ∧ 0 ≤ v ∧ v ≤ 1000000 ∧ (v = 0 ∨ v < n) ∧ p ≤ p' ∧ p' ≤ p + 2 := by
  unfold spec_l1Cur_pick.f
  by_cases h : n ≤ 1
  · rw [if_pos h]
    exact ⟨0, p, s, rfl, by omega, by omega, by omega, by omega, by omega⟩
  · rw [if_neg h]
    obtain ⟨v, s1, e1, h2, h3⟩ := next_ok l hl p s h0 (by omega)
    rw [e1]
    simp only [Option.bind_some]
    by_cases h4 : n > 200
    · rw [if_pos h4]
      obtain ⟨v2, s2, e2, h5, h6⟩ := next_ok l hl (p + 1) s1 (by omega) (by omega)
      rw [e2]
      simp only [Option.bind_some]
      rw [if_neg (by omega), w64 (x := v * 256) (by omega) (by omega), w64 (by omega) (by omega)]
      have h7 := Int.tmod_nonneg n (show 0 ≤ v * 256 + v2 by omega)
      have h8 := Int.tmod_lt_of_pos (v * 256 + v2) (show 0 < n by omega)
      exact ⟨_, _, _, rfl, h7, by omega, Or.inr h8, by omega, by omega⟩
    · rw [if_neg h4, if_neg (by omega)]
      have h7 := Int.tmod_nonneg n (show 0 ≤ v by omega)
      have h8 := Int.tmod_lt_of_pos v (show 0 < n by omega)
      exact ⟨_, _, _, rfl, h7, by omega, Or.inr h8, by omega, by omega⟩
theorem among_ok (l : List Int) (hl : ∀ x ∈ l, 0 ≤ x ∧ x ≤ 255) (p s : Int) (m : List Int) (hm : m ≠ []) (hm2 : m.length ≤ 1000000) (h0 : 0 ≤ p) (h1 : p ≤ 999999999990) :
    ∃ v p' s' : Int, spec_l1Cur_among.f l p s m = some (v, p', s') ∧ v ∈ m ∧ p ≤ p' ∧ p' ≤ p + 2 := by
  unfold spec_l1Cur_among.f
  have hpos := List.length_pos_iff.2 hm
  obtain ⟨v, p', s', e1, h2, h3, h4, h5, h6⟩ := pick_ok l hl p s m.length h0 h1 (by omega)
  rw [e1]
  simp only [Option.bind_some]
  rw [if_pos h2, if_pos (by omega)]
  exact ⟨_, _, _, rfl, rd_mem m v h2 (by omega), h5, h6⟩

theorem base_ok (l : List Int) (hl : ∀ x ∈ l, 0 ≤ x ∧ x ≤ 255) (p s : Int) (h0 : 0 ≤ p) (h1 : p ≤ 999999999990) : ∃ v p' s' : Int, spec_l1Cur_base.f l p s = some (v, p', s') ∧ p ≤ p' ∧ p' ≤ p + 2 := by
  unfold spec_l1Cur_base.f
  obtain ⟨v, p', s', e, _, h2, h3⟩ := among_ok l hl p s [10, 10, 10, 2, 3, 5, 7, 16, 12, 10, 10, 16, 1, 17, 0] (by simp) (by simp) h0 h1
  rw [e]
  exact ⟨_, _, _, rfl, h2, h3⟩

theorem fraction_ok (l : List Int) (hl : ∀ x ∈ l, 0 ≤ x ∧ x ≤ 255) : ∃ a n b p s : Int, spec_l1Cur_fraction.f l 0 0 = some (a, n, b, p, s) ∧ 0 ≤ p ∧ p ≤ 100 := by
  unfold spec_l1Cur_fraction.f
  obtain ⟨v1, p1, s1, e1, a1, b1, c1, d1, f1⟩ := pick_ok l hl 0 0 200 (by omega) (by omega) (by omega)
  rw [e1]
  simp only [Option.bind_some]
  rw [w64 (x := 1 + v1) (by omega) (by omega)]
  obtain ⟨v2, p2, s2, e2, a2, b2, c2, d2, f2⟩ := pick_ok l hl p1 s1 (1 + v1) (by omega) (by omega) (by omega)
  rw [e2]
  simp only [Option.bind_some]
  obtain ⟨v3, p3, s3, e3, a3, b3, c3, d3, f3⟩ := pick_ok l hl p2 s2 14 (by omega) (by omega) (by omega)
  rw [e3]
  simp only [Option.bind_some]
  by_cases h0 : v3 = 0
  · rw [if_pos h0]
    obtain ⟨v4, p4, s4, e4, _, d4, f4⟩ := among_ok l hl p3 s3 [(-1), 0, 2000, 2001] (by simp) (by simp) (by omega) (by omega)
    rw [e4]
    simp only [Option.bind_some]
    obtain ⟨v5, p5, s5, e5, d5, f5⟩ := base_ok l hl p4 s4 (by omega) (by omega)
    rw [e5]
    exact ⟨_, _, _, _, _, rfl, by simp only; omega, by simp only; omega⟩
  · rw [if_neg h0]
    by_cases h1 : v3 = 1
    · rw [if_pos h1]
      obtain ⟨v4, p4, s4, e4, _, d4, f4⟩ := among_ok l hl p3 s3 [(-1), 1 + v1, 4611686018427387904] (by simp) (by simp) (by omega) (by omega)
      rw [e4]
      simp only [Option.bind_some]
      obtain ⟨v5, p5, s5, e5, d5, f5⟩ := base_ok l hl p4 s4 (by omega) (by omega)
      rw [e5]
      exact ⟨_, _, _, _, _, rfl, by simp only; omega, by simp only; omega⟩
    · rw [if_neg h1]
      obtain ⟨v5, p5, s5, e5, d5, f5⟩ := base_ok l hl p3 s3 (by omega) (by omega)
      rw [e5]
      exact ⟨_, _, _, _, _, rfl, by simp only; omega, by simp only; omega⟩
theorem drawPeriodOf_ok (l : List Int) (hl : ∀ x ∈ l, 0 ≤ x ∧ x ≤ 255) : ∃ a n b : Int, spec_DrawPeriodOf.f l = some (a, n, b) := by
  obtain ⟨a, n, b, p, s, e, _, _⟩ := fraction_ok l hl
  unfold spec_DrawPeriodOf.f
  rw [e]
  exact ⟨_, _, _, rfl⟩
theorem drawOrderOf_ok (l : List Int) (hl : ∀ x ∈ l, 0 ≤ x ∧ x ≤ 255) : ∃ n b : Int, spec_DrawOrderOf.f l = some (n, b) := by
  obtain ⟨a, n, b, p, s, e, _, _⟩ := fraction_ok l hl
  unfold spec_DrawOrderOf.f
  rw [e]
  exact ⟨_, _, rfl⟩
theorem drawFractionDigits_ok (l : List Int) (hl : ∀ x ∈ l, 0 ≤ x ∧ x ≤ 255) : ∃ a n b m : Int, spec_DrawFractionDigits.f l = some (a, n, b, m) := by
  obtain ⟨a, n, b, p, s, e, h0, h1⟩ := fraction_ok l hl
  unfold spec_DrawFractionDigits.f
  rw [e]
  simp only [Option.bind_some]
  unfold spec_l1Cur_one.f
  obtain ⟨v1, p1, s1, e1, a1, b1, c1, d1, f1⟩ := pick_ok l hl p s 10 (by omega) (by omega) (by omega)
  rw [e1]
  simp only [Option.bind_some]
  by_cases h : (v1 == 0) = true
  · rw [if_pos h]
    obtain ⟨v4, p4, s4, e4, _, d4, f4⟩ := among_ok l hl p1 s1 [(-1), 0, 200, 201] (by simp) (by simp) (by omega) (by omega)
    rw [e4]
    exact ⟨_, _, _, _, rfl⟩
  · rw [if_neg h]
    obtain ⟨v4, p4, s4, e4, _⟩ := pick_ok l hl p1 s1 30 (by omega) (by omega) (by omega)
    rw [e4]
    exact ⟨_, _, _, _, rfl⟩

theorem laws_qSame_loop (post : List Int) : ∀ (pre post' : List Int), post'.length = post.length → (pre ++ post).length ≤ 4611686018427387904 →
    Ev (fun k => laws_qSame.l0 k (pre ++ post) (pre ++ post') ((pre ++ post).length : Int) (pre.length : Int)) (decide (post = post')) := by
  induction post with
  | nil =>
    intro pre post' hl h
    obtain rfl : post' = [] := List.eq_nil_of_length_eq_zero hl
    refine evs (fun k => by rw [laws_qSame.l0]) ?_
    exact evn (by simp) (evr (by simp))
  | cons x post ih =>
    intro pre post' hl h
    obtain ⟨y, post', rfl⟩ : ∃ y z, post' = y :: z := by cases post' with
      | nil => simp at hl
      | cons y z => exact ⟨y, z, rfl⟩
    refine evs (fun k => by rw [laws_qSame.l0]) ?_
    refine evp (by simp; omega) (evp (by omega) (evp (by simp; omega) (evp (by simp; omega) ?_)))
    rw [rd_mid, rd_mid]
    by_cases he : x = y
    · subst he
      refine evp rfl ?_
      have h2 := ih (pre ++ [x]) post' (by simpa using hl) (by simpa using h)
      simp only [List.append_assoc, List.singleton_append] at h2
      rw [w64 (by omega) (by simp at h; omega)]
      simpa using h2
    · exact evn he (evr (by simp [he]))
theorem laws_qSame_ev (l l' : List Int) (h : l.length ≤ 4611686018427387904) : Ev (fun k => laws_qSame.f k l l') (decide (l = l')) := by
  unfold laws_qSame.f
  by_cases hl : l.length = l'.length
  · exact evp (by omega) (by simpa using laws_qSame_loop l [] l' hl.symm (by simpa using h))
  · exact evn (by omega) (evr (by symm; rw [decide_eq_false_iff_not]; exact fun e => hl (by rw [e])))
theorem laws_qSame_self (l : List Int) (h : l.length ≤ 4611686018427387904) : Ev (fun k => laws_qSame.f k l l) true := by simpa using laws_qSame_ev l l h

theorem qGcd_loop (b : Nat) : ∀ a : Nat, Ev (fun k => laws_qGcd.l0 k (a : Int) (b : Int)) ((Nat.gcd a b : Nat) : Int) := by
  induction b using Nat.strongRecOn with
  | _ b ih =>
    intro a
    refine evs (fun k => by rw [laws_qGcd.l0]) ?_
    by_cases hb : b = 0
    · subst hb
      exact evn (by simp) (evr (by simp))
    · refine evp (by omega) (evn (by omega) ?_)
      rw [tmod_cast, Nat.gcd_comm a b, Nat.gcd_rec, Nat.gcd_comm]
      exact ih (a % b) (Nat.mod_lt _ (by omega)) b
theorem qGcd_ev (a b : Nat) : Ev (fun k => laws_qGcd.f k (a : Int) (b : Int)) ((Nat.gcd a b : Nat) : Int) := qGcd_loop b a
theorem j7_ok (l : List Int) (hl : ∀ x ∈ l, 0 ≤ x ∧ x ≤ 255) : Ev (fun k => laws_FnPeriodsOfFractions.j7 k l) true := by
  refine evs (fun k => by rw [laws_FnPeriodsOfFractions.j7]) ?_
  obtain ⟨a, n, b, m, e⟩ := drawFractionDigits_ok l hl
  rw [e]
  simp only [Option.bind_some]
  obtain ⟨r, hr, hs, hi⟩ := fd_both a n b m
  exact evb hi (evb hs (evp (by simp) (evb (laws_qSame_self _ (by omega)) (Ev.now _))))
theorem l2_ok (l : List Int) (hl : ∀ x ∈ l, 0 ≤ x ∧ x ≤ 255) (n b k : Nat) (hn : 1 ≤ n) (hn2 : n ≤ 2000) (hkn : k ≤ n) (hk2 : b ^ k % n = 1 % n) (hk3 : ∀ j, 1 ≤ j → j < k → b ^ j % n ≠ 1 % n) (d : Nat) :
    ∀ i : Nat, i + 1 + d = k + 1 → Ev (fun f => laws_FnPeriodsOfFractions.l2 f l (n : Int) (b : Int) (k : Int) ((b ^ i % n : Nat) : Int) ((i + 1 : Nat) : Int)) true := by
  induction d with
  | zero =>
    intro i hi
    refine evs (fun k => by rw [laws_FnPeriodsOfFractions.l2]) ?_
    exact evn (by omega) (j7_ok l hl)
  | succ d ih =>
    intro i hi
    have hlt : b ^ i % n < n := Nat.mod_lt _ (by omega)
    have hlt2 : b % n < n := Nat.mod_lt _ (by omega)
    have hm : b ^ i % n * (b % n) ≤ 2000 * 2000 := Nat.mul_le_mul (by omega) (by omega)
    have e1 : ((b ^ i % n : Nat) : Int) * ((b % n : Nat) : Int) = ((b ^ i % n * (b % n) : Nat) : Int) := (Int.natCast_mul _ _).symm
    have e2 : b ^ i % n * (b % n) % n = b ^ (i + 1) % n := by rw [← Nat.mul_mod, ← Nat.pow_succ]
    have e3 : ((1 : Int) % (n : Int)) = ((1 % n : Nat) : Int) := (Int.natCast_emod 1 n).symm
    refine evs (fun k => by rw [laws_FnPeriodsOfFractions.l2]) ?_
    rw [tmod_cast b n, e1, w64n _ (by omega), tmod_cast, e2, e3, w64 (x := ((i + 1 : Nat) : Int) + 1) (by omega) (by omega)]
    refine evp (by omega) (evn (by omega) (evn ?_ (ih (i + 1) (by omega))))
    by_cases hk : i + 1 = k
    · subst hk
      rw [hk2]
      simp
    · have h1 := hk3 (i + 1) (by omega) (by omega)
      have h2 : (((b ^ (i + 1) % n : Nat) : Int) == ((1 % n : Nat) : Int)) = false := beq_eq_false_iff_ne.2 (by omega)
      have h3 : (((i + 1 : Nat) : Int) == (k : Int)) = false := beq_eq_false_iff_ne.2 (by omega)
      rw [h2, h3]
      simp
theorem j4_ok (l : List Int) (hl : ∀ x ∈ l, 0 ≤ x ∧ x ≤ 255) : Ev (fun k => laws_FnPeriodsOfFractions.j4 k l) true := by
  refine evs (fun k => by rw [laws_FnPeriodsOfFractions.j4]) ?_
  obtain ⟨n, b, e⟩ := drawOrderOf_ok l hl
  rw [e]
  simp only [Option.bind_some]
  by_cases h : (2 ≤ b ∧ b ≤ 16) ∧ 1 ≤ n ∧ n ≤ 2000
  · obtain ⟨n, rfl⟩ := natOf (a := n) (by omega)
    obtain ⟨b, rfl⟩ := natOf (a := b) (by omega)
    rcases order_info n b (by omega) (by omega) (by omega) (by omega) with ⟨hg, k, h1, h2, h3, h4, h5, h6⟩ | ⟨hg, h5, h6⟩
    · refine evb h6 (evb h5 (evn (by simp) ?_))
      refine evs (fun k => by rw [laws_FnPeriodsOfFractions.j5]) ?_
      refine evn (by simp) (evp rfl (evn (by omega) ?_))
      have h7 := l2_ok l hl n b k (by omega) (by omega) h2 h3 h4 k 0 (by omega)
      rw [Nat.pow_zero] at h7
      have e3 : ((1 : Int) % (n : Int)) = ((1 % n : Nat) : Int) := (Int.natCast_emod 1 n).symm
      rw [e3]
      exact h7
    · refine evb h6 (evb h5 (evn (by simp) ?_))
      refine evs (fun k => by rw [laws_FnPeriodsOfFractions.j5]) ?_
      exact evn (by simp) (evn (by simp) (j7_ok l hl))
  · obtain ⟨h5, h6⟩ := no_order n b h
    refine evb h6 (evb h5 (evn (by simp) ?_))
    refine evs (fun k => by rw [laws_FnPeriodsOfFractions.j5]) ?_
    exact evn (by simp) (evn (by simp) (j7_ok l hl))
theorem l1_ok (l : List Int) (hl : ∀ x ∈ l, 0 ≤ x ∧ x ≤ 255) (n b a m : Nat) (hn : 1 ≤ n) (hn2 : n ≤ 2000) (hb : 2 ≤ b) (hb2 : b ≤ 16) (ha : a < n) (hm : m ≤ 100000) (d : Nat) :
    ∀ i : Nat, i + d = m → Ev (fun f => laws_FnPeriodsOfFractions.l1 f l (n : Int) (b : Int) ((a * b ^ i % n : Nat) : Int) (ic (digs n b m a)) (m : Int) (i : Int)) true := by
  induction d with
  | zero =>
    intro i hi
    refine evs (fun k => by rw [laws_FnPeriodsOfFractions.l1]) ?_
    exact evn (by omega) (j4_ok l hl)
  | succ d ih =>
    intro i hi
    have hlt : a * b ^ i % n < n := Nat.mod_lt _ (by omega)
    have hmb : a * b ^ i % n * b ≤ 2000 * 16 := Nat.mul_le_mul (by omega) hb2
    have e1 : ((a * b ^ i % n : Nat) : Int) * (b : Int) = ((a * b ^ i % n * b : Nat) : Int) := (Int.natCast_mul _ _).symm
    have hdv : a * b ^ i % n * b / n ≤ a * b ^ i % n * b := Nat.div_le_self _ _
    have e2 : a * b ^ i % n * b % n = a * b ^ (i + 1) % n := by rw [Nat.mod_mul_mod, Nat.mul_assoc, ← Nat.pow_succ]
    have hdb : a * b ^ i % n * b / n < b := Nat.div_lt_of_lt_mul (Nat.mul_lt_mul_of_pos_right hlt (by omega))
    have hlen : (ic (digs n b m a)).length = m := by rw [ic_length, digs_length]
    refine evs (fun k => by rw [laws_FnPeriodsOfFractions.l1]) ?_
    rw [e1, w64n _ (by omega), tdiv_cast, tmod_cast, e2, digs_rd n b m a i ha (by omega), w64n (a * b ^ i % n * b / n) (by omega), w64 (x := (i : Int) + 1) (by omega) (by omega), hlen]
    obtain ⟨q, hq⟩ : ∃ q : Nat, a * b ^ i % n * b / n = q := ⟨_, rfl⟩
    rw [hq] at hdb ⊢
    exact evp (by omega) (evp (by omega) (evp (by omega) (evn (by omega) (evp rfl (evn (by omega) (evn (by omega) (ih (i + 1) (by omega))))))))
theorem back_more {n b a p L : Nat} (hr : a * b ^ (p + L) % n = a * b ^ p % n) (i : Nat) (hi : p ≤ i) : a * b ^ (i + L) % n = a * b ^ i % n := by
  have e1 : a * b ^ (i + L) = a * b ^ (p + L) * b ^ (i - p) := by rw [Nat.mul_assoc, ← Nat.pow_add, show p + L + (i - p) = i + L by omega]
  have e2 : a * b ^ i = a * b ^ p * b ^ (i - p) := by rw [Nat.mul_assoc, ← Nat.pow_add, show p + (i - p) = i by omega]
  rw [e1, e2, Nat.mul_mod, hr, ← Nat.mul_mod]
theorem l0_ok (l : List Int) (hl : ∀ x ∈ l, 0 ≤ x ∧ x ≤ 255) (n b a p L : Nat) (hn : 1 ≤ n) (hn2 : n ≤ 2000) (hb : 2 ≤ b) (hb2 : b ≤ 16) (ha : a < n) (hpL : p + L ≤ n) (hr : a * b ^ (p + L) % n = a * b ^ p % n) (rep : List Int) (one : Bool) (hone : one = true → rep = ic ((digs n b (p + L) a).drop p)) (d : Nat) :
    ∀ i : Nat, p ≤ i → i + d = p + L → Ev (fun f => laws_FnPeriodsOfFractions.l0 f l (a : Int) (n : Int) (b : Int) (p : Int) (L : Int) rep one (ic (digs n b (p + 2 * L) a)) (i : Int)) true := by
  have hlen : (ic (digs n b (p + 2 * L) a)).length = p + 2 * L := by rw [ic_length, digs_length]
  induction d with
  | zero =>
    intro i hp hi
    refine evs (fun k => by rw [laws_FnPeriodsOfFractions.l0]) ?_
    rw [w64 (x := (p : Int) + (L : Int)) (by omega) (by omega), hlen]
    refine evn (by omega) ?_
    have h := l1_ok l hl n b a (p + 2 * L) hn hn2 hb hb2 ha (by omega) (p + 2 * L) 0 (by omega)
    have e0 : a * b ^ 0 % n = a := by rw [Nat.pow_zero, Nat.mul_one, Nat.mod_eq_of_lt ha]
    rw [e0] at h
    exact h
  | succ d ih =>
    intro i hp hi
    have e1 : (i : Int) + (L : Int) = ((i + L : Nat) : Int) := by omega
    have e2 : (i : Int) - (p : Int) = ((i - p : Nat) : Int) := by omega
    refine evs (fun k => by rw [laws_FnPeriodsOfFractions.l0]) ?_
    rw [w64 (x := (p : Int) + (L : Int)) (by omega) (by omega), e1, w64n (i + L) (by omega), e2, w64n (i - p) (by omega), w64 (x := (i : Int) + 1) (by omega) (by omega), hlen, digs_rd n b (p + 2 * L) a i ha (by omega), digs_rd n b (p + 2 * L) a (i + L) ha (by omega), back_more hr i hp]
    refine evp (by omega) (evp (by omega) (evp (by omega) (evp (by omega) (evp (by omega) (evp rfl ?_)))))
    cases one with
    | false => exact evn (by simp) (ih (i + 1) (by omega) (by omega))
    | true =>
      have hrep := hone rfl
      have hl2 : rep.length = L := by rw [hrep]; exact repetend_len a n b p L
      have hrd : rd rep ((i - p : Nat) : Int) = ((a * b ^ i % n * b / n : Nat) : Int) := by
        rw [hrep, ← ic_drop, ← digs_rd n b (p + L) a i ha (by omega)]
        simp only [rd, Int.toNat_natCast, List.getD_eq_getElem?_getD, List.getElem?_drop]
        rw [show p + (i - p) = i by omega]
      rw [hl2, hrd]
      exact evp rfl (evp (by omega) (evp (by omega) (evp rfl (ih (i + 1) (by omega) (by omega)))))
theorem j1_ok (l : List Int) (hl : ∀ x ∈ l, 0 ≤ x ∧ x ≤ 255) (n b a p L : Nat) (hn : 1 ≤ n) (hn2 : n ≤ 2000) (hb : 2 ≤ b) (hb2 : b ≤ 16) (ha : a < n) (hpL : p + L ≤ n) (hr : a * b ^ (p + L) % n = a * b ^ p % n) (rep : List Int) (one : Bool) (hone : one = true → rep = ic ((digs n b (p + L) a).drop p)) :
    Ev (fun f => laws_FnPeriodsOfFractions.j1 f l (a : Int) (n : Int) (b : Int) (p : Int) (L : Int) rep one false) true := by
  refine evs (fun k => by rw [laws_FnPeriodsOfFractions.j1]) ?_
  have e : wrap64 ((p : Int) + wrap64 (2 * (L : Int))) = ((p + 2 * L : Nat) : Int) := by rw [w64 (x := 2 * (L : Int)) (by omega) (by omega), w64 (by omega) (by omega)]; omega
  rw [e]
  refine evn (by simp) ?_
  by_cases h : ((p + 2 * L : Nat) : Int) ≤ 200
  · have hfd : Ev (fun f => impl_FractionDigits.f f (a : Int) (n : Int) (b : Int) ((p + 2 * L : Nat) : Int)) (ic (digs n b (p + 2 * L) a), true) := by
      simp only [impl_FractionDigits.f, impl_isFraction_eq, impl_in_eq, Option.bind_some, decide_eq_true_eq]
      refine evp (by omega) (evp (by omega) (evb ?_ (Ev.now _)))
      simpa using shown_ev n b a 0 (p + 2 * L) (by omega) (by omega) (by omega) (by omega) (by omega)
    exact evp h (evb hfd (evp rfl (l0_ok l hl n b a p L hn hn2 hb hb2 ha hpL hr rep one hone L p (Nat.le_refl _) rfl)))
  · exact evn h (j4_ok l hl)
theorem j0_ok (l : List Int) (hl : ∀ x ∈ l, 0 ≤ x ∧ x ≤ 255) (n b a p L : Nat) (hn : 1 ≤ n) (hn2 : n ≤ 2000) (hb : 2 ≤ b) (hb2 : b ≤ 16) (ha : a < n) (hL : 1 ≤ L) (hpL : p + L ≤ n) (hd : ∀ i j, i < j → j < p + L → a * b ^ i % n ≠ a * b ^ j % n) (hr : a * b ^ (p + L) % n = a * b ^ p % n) (rep : List Int) (one : Bool) (hone : one = true → rep = ic ((digs n b (p + L) a).drop p)) :
    Ev (fun f => laws_FnPeriodsOfFractions.j0 f l (a : Int) (n : Int) (b : Int) (p : Int) (L : Int) true rep one false) true := by
  have h1 := j1_ok l hl n b a p L hn hn2 hb hb2 ha hpL hr rep one hone
  refine evs (fun k => by rw [laws_FnPeriodsOfFractions.j0]) ?_
  refine evn (by simp) (evp rfl ?_)
  rcases order_info n b hn hn2 hb hb2 with ⟨hg, k, g1, g2, g3, g4, g5, g6⟩ | ⟨hg, g5, g6⟩
  · have hk : (decide (((k : Nat) : Int) > (n : Int))) = false := decide_eq_false (by omega)
    refine evb g6 (evb (qGcd_ev n b) (evn (by rw [hg]; simp) (evp rfl (evb (qGcd_ev a n) ?_))))
    simp only [hk]
    by_cases hc : Nat.gcd a n = 1
    · obtain ⟨rfl, rfl⟩ := period_order a n b p L k (by omega) (by omega) ha hg (by rw [Nat.Coprime, Nat.gcd_comm]; exact hc) hL hd hr g1 g3 g4
      exact evp (by omega) (evp rfl (evp rfl h1))
    · exact evn (by omega) h1
  · have hgb : (((Nat.gcd n b : Nat) : Int) == 1) = false := beq_eq_false_iff_ne.2 (by omega)
    exact evb g6 (evb (qGcd_ev n b) (evn (by rw [hgb]; simp) (evn (by simp) h1)))
theorem FnPeriodsOfFractions : laws_FnPeriodsOfFractions.Pure := by
  intro l0 l1 _ _ w0 _ _ w1
  have hb : ∀ l : List Int, (∀ x ∈ l, (Lit.int .u8 x).wf = true) → ∀ x ∈ l, 0 ≤ x ∧ x ≤ 255 := by
    intro l h x hx
    have := h x hx
    simpa [Lit.wf, IntKind.min, IntKind.max, IntKind.signed, IntKind.bits] using this
  have hl0 := hb l0 w0
  have hl1 := hb l1 w1
  refine Ev.rounds (g := fun k => laws_FnPeriodsOfFractions.f k l0 l1) ?_
  unfold laws_FnPeriodsOfFractions.f
  obtain ⟨t, ht⟩ : ∃ t, laws_big.f l0 l1 = some t := by
    unfold laws_big.f
    split <;> exact ⟨_, rfl⟩
  rw [ht]
  simp only [Option.bind_some]
  cases t with
  | true => exact evp rfl (Ev.now _)
  | false =>
    refine evn (by simp) ?_
    obtain ⟨a, n, b, e⟩ := drawPeriodOf_ok l0 hl0
    rw [e]
    simp only [Option.bind_some]
    by_cases h : (2 ≤ b ∧ b ≤ 16) ∧ (1 ≤ n ∧ n ≤ 2000) ∧ 0 ≤ a ∧ a ≤ n - 1
    · obtain ⟨n, rfl⟩ := natOf (a := n) (by omega)
      obtain ⟨b, rfl⟩ := natOf (a := b) (by omega)
      obtain ⟨a, rfl⟩ := natOf (a := a) (by omega)
      obtain ⟨p, L, g1, g2, g3, g4, g5, g6, r, hr, g7, g8⟩ := yes_fraction a n b (by omega) (by omega) (by omega) (by omega) (by omega)
      have hlen : r.1.length ≤ 100000 := by
        subst hr
        split
        · simp
        · rw [repetend_len]; omega
      have hone : r.2 = true → r.1 = ic ((digs n b (p + L) a).drop p) := by
        subst hr
        split
        · intro h; simp at h
        · intro _; rfl
      have h0 := j0_ok l1 hl1 n b a p L (by omega) (by omega) (by omega) (by omega) (by omega) g1 g2 g3 g4 r.1 r.2 hone
      refine evb g6 (evb g5 (evb g8 (evb g7 (evn (by simp) (evp rfl (evp rfl (evn (by simp) (evb (laws_qSame_self _ (by omega)) (evp rfl ?_)))))))))
      by_cases h2 : r.2 = true
      · exact evp h2 h0
      · exact evn h2 h0
    · obtain ⟨g5, g6, g7, g8⟩ := no_fraction a n b h
      refine evb g6 (evb g5 (evb g8 (evb g7 (evn (by simp) (evp rfl (evp rfl (evn (by simp) (evb (laws_qSame_self _ (by simp)) (evp rfl ?_)))))))))
      refine evn (by simp) ?_
      refine evs (fun k => by rw [laws_FnPeriodsOfFractions.j0]) ?_
      exact evn (by simp) (evn (by simp) (j4_ok l1 hl1))

end Go.Proofs.Ytikkpehjleoplaa.Pure
