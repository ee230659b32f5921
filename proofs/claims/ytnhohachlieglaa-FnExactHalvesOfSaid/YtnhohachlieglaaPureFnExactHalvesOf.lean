/- For all numbers a, p and bases, HalvesOf of the program and of the reference agree, and what the program returns is memory of its own. -/
import Derived.Test.YtnhohachlieglaaPFnExactHalvesOfx5
import Derived.Test.YtnhohachlieglaaWMore
set_option linter.unusedVariables false
set_option linter.unusedSimpArgs false
namespace Go.Proofs.Ytnhohachlieglaa.Pure
open Go.RowKit Go.Proofs.Ytnhohachlieglaa.PFnExactHalvesOf Go.Proofs.YtnhohachlieglaaW.PrintWords Go.Proofs.YtnhohachlieglaaW.PrintLast

theorem w64 {x : Int} (h1 : -9223372036854775808 ≤ x) (h2 : x ≤ 9223372036854775807) : wrap64 x = x := by unfold wrap64; omega

theorem w64n (n : Nat) (h : n ≤ 9223372036854775807) : wrap64 (n : Int) = (n : Int) := w64 (by omega) (by omega)

theorem evp {α : Type} {c : Prop} [Decidable c] {a b : Nat → Option α} {r : α} (h : c) (k : Ev a r) : Ev (fun n => if c then a n else b n) r := Ev.congr (fun _ => if_pos h) k
theorem evn {α : Type} {c : Prop} [Decidable c] {a b : Nat → Option α} {r : α} (h : ¬ c) (k : Ev b r) : Ev (fun n => if c then a n else b n) r := Ev.congr (fun _ => if_neg h) k
theorem evr {α : Type} {x r : α} (h : x = r) : Ev (fun _ => some x) r := h ▸ Ev.now x
theorem evb {α β : Type} {g : Nat → Option α} {f : Nat → α → Option β} {a : α} {r : β} (h : Ev g a) (k : Ev (fun n => f n a) r) : Ev (fun n => (g n).bind fun x => f n x) r := Ev.bind h k
theorem evs {α : Type} {g f : Nat → Option α} {r : α} (h : ∀ k, g (k + 1) = f k) (k : Ev f r) : Ev g r := Ev.step h k
theorem evu {α : Type} {g : Nat → Option α} {r s : α} (h : Ev g r) (k : Ev g s) : r = s := by
  obtain ⟨K, h⟩ := h
  obtain ⟨L, k⟩ := k
  have := (h (K + L) (by omega)).symm.trans (k (K + L) (by omega))
  injection this

theorem rd_mid (pre post : List Int) (x : Int) : rd (pre ++ x :: post) (pre.length : Int) = x := by simp [rd]
theorem rd_mid' (pre post : List Int) (x i : Int) (h : i = pre.length) : rd (pre ++ x :: post) i = x := by subst h; exact rd_mid pre post x
theorem set_mid {α : Type} (pre post : List α) (x y : α) : (pre ++ x :: post).set pre.length y = pre ++ y :: post := by simp
theorem set_midI {α : Type} (pre post : List α) (x y : α) (i : Int) (h : i = pre.length) : (pre ++ x :: post).set i.toNat y = pre ++ y :: post := by subst h; simp
theorem rd_nat (xs : List Int) (i : Nat) : rd xs (i : Int) = xs.getD i 0 := by simp [rd]
theorem rd_get (xs : List Int) (i : Nat) (h : i < xs.length) : rd xs (i : Int) = xs[i] := by simp [rd, h]
theorem rd_mem (xs : List Int) (i : Int) (h0 : 0 ≤ i) (h : i < xs.length) : rd xs i ∈ xs := by
  have hi : i.toNat < xs.length := by omega
  simp only [rd, List.getD_eq_getElem?_getD, List.getElem?_eq_getElem hi, Option.getD_some]
  exact List.getElem_mem hi
/-- m, m + 1, .. -/
def iota (m : Int) : Nat → List Int
  | 0 => []
  | n + 1 => m :: iota (m + 1) n
theorem iota_length (m : Int) (n : Nat) : (iota m n).length = n := by induction n generalizing m with
  | zero => rfl
  | succ n ih => simp [iota, ih]
/-- A list is cut in two. -/
theorem cut_at {α : Type} (xs : List α) (i : Nat) (h : i < xs.length) : ∃ pre x post, xs = pre ++ x :: post ∧ pre.length = i := by
  refine ⟨xs.take i, xs[i], xs.drop (i + 1), ?_, by simp; omega⟩
  simp
theorem wf64 {x : Int} (h : (Lit.int .i64 x).wf = true) : -9223372036854775808 ≤ x ∧ x ≤ 9223372036854775807 := by
  have h2 : (decide (IntKind.i64.min ≤ x) && decide (x ≤ IntKind.i64.max)) = true := h
  rw [show IntKind.i64.min = -9223372036854775808 from rfl, show IntKind.i64.max = 9223372036854775807 from rfl] at h2
  simpa using h2

def ic (l : List Nat) : List Int := l.map (fun x : Nat => (x : Int))
theorem ic_nil : ic [] = [] := rfl
theorem ic_cons (x : Nat) (l : List Nat) : ic (x :: l) = (x : Int) :: ic l := rfl
theorem ic_append (l m : List Nat) : ic (l ++ m) = ic l ++ ic m := by simp [ic]
theorem ic_length (l : List Nat) : (ic l).length = l.length := by simp [ic]
theorem ic_drop (l : List Nat) (k : Nat) : (ic l).drop k = ic (l.drop k) := by simp [ic, List.map_drop]
def digs (n b : Nat) : Nat → Nat → List Nat
  | 0, _ => []
  | k + 1, a => a * b / n :: digs n b k (a * b % n)
theorem digs_length (n b k : Nat) : ∀ a, (digs n b k a).length = k := by
  induction k with
  | zero => intro a; rfl
  | succ k ih => intro a; simp [digs, ih]

def IsPr (p : Nat) : Prop := 2 ≤ p ∧ ∀ d, 2 ≤ d → d < p → ¬ d ∣ p
def lprod : List Nat → Nat
  | [] => 1
  | x :: l => x * lprod l
theorem lprod_pos {l : List Nat} (h : ∀ q ∈ l, 0 < q) : 0 < lprod l := by
  induction l with
  | nil => decide
  | cons x l ih => exact Nat.mul_pos (h x (by simp)) (ih (fun q hq => h q (by simp [hq])))
/-- L: the prime factors of n, not falling, none less than p. -/
def Fac (L : List Nat) (n p : Nat) : Prop := (∀ q ∈ L, IsPr q ∧ p ≤ q) ∧ lprod L = n ∧ L.Pairwise (· ≤ ·)
theorem sq_lt {a b : Nat} (h : a * a ≤ b * b) : a ≤ b := by
  by_cases hc : a ≤ b
  · exact hc
  · have : b * b < a * a := Nat.mul_lt_mul_of_lt_of_le (by omega) (by omega) (by omega)
    omega
theorem prime_of_big {n p : Nat} (hn : 1 < n) (hd : ∀ d, 2 ≤ d → d < p → ¬ d ∣ n) (hp : n < p * p) : IsPr n := by
  refine ⟨hn, fun d h2 h3 hdv => ?_⟩
  have h4 : p ≤ d := by
    by_cases h : p ≤ d
    · exact h
    · exact absurd hdv (hd d h2 (by omega))
  obtain ⟨e, he⟩ := hdv
  have h5 : 2 ≤ e := by
    rcases e with _ | _ | e
    · omega
    · omega
    · omega
  have h6 : p ≤ e := by
    by_cases h : p ≤ e
    · exact h
    · exact absurd ⟨d, by rw [he, Nat.mul_comm]⟩ (hd e h5 (by omega))
  have : p * p ≤ d * e := Nat.mul_le_mul h4 h6
  omega

theorem impl_in_eq (a b c : Int) : impl_in.f a b c = some (decide (b ≤ a ∧ a ≤ c)) := by
  unfold impl_in.f
  by_cases h : b ≤ a <;> simp [h]
theorem spec_l1In_eq (a b c : Int) : spec_l1In.f a b c = some (decide (b ≤ a ∧ a ≤ c)) := by
  unfold spec_l1In.f
  by_cases h : b ≤ a <;> simp [h]

theorem impl_isBase_eq (b : Int) : impl_isBase.f b = some (decide (2 ≤ b ∧ b ≤ 16)) := by simp only [impl_isBase.f, impl_in_eq, Option.bind_some]
theorem spec_dgBase_eq (b : Int) : spec_dgBase.f b = some (decide (2 ≤ b ∧ b ≤ 16)) := by simp only [spec_dgBase.f, spec_l1In_eq, Option.bind_some]

theorem spec_teFraction_eq (a n b : Int) : spec_teFraction.f a n b = some (decide ((2 ≤ b ∧ b ≤ 16) ∧ (1 ≤ n ∧ n ≤ 2000) ∧ 0 ≤ a ∧ a ≤ n - 1)) := by
  simp only [spec_teFraction.f, spec_dgBase_eq, spec_l1In_eq, Option.bind_some, decide_eq_true_eq]
  by_cases h2 : 1 ≤ n ∧ n ≤ 2000
  · rw [w64 (x := n - 1) (by omega) (by omega)]
    by_cases h1 : 2 ≤ b ∧ b ≤ 16 <;> simp [h1, h2]
  · by_cases h1 : 2 ≤ b ∧ b ≤ 16 <;> simp [h1, h2]
theorem impl_isFraction_eq (a n b : Int) : impl_isFraction.f a n b = some (decide ((2 ≤ b ∧ b ≤ 16) ∧ (1 ≤ n ∧ n ≤ 2000) ∧ 0 ≤ a ∧ a ≤ n - 1)) := by
  simp only [impl_isFraction.f, impl_isBase_eq, impl_in_eq, Option.bind_some, decide_eq_true_eq]
  by_cases h2 : 1 ≤ n ∧ n ≤ 2000
  · rw [w64 (x := n - 1) (by omega) (by omega)]
    by_cases h1 : 2 ≤ b ∧ b ≤ 16 <;> by_cases h3 : 0 ≤ a ∧ a ≤ n - 1 <;> simp [h1, h2, h3]
  · by_cases h1 : 2 ≤ b ∧ b ≤ 16 <;> simp [h1, h2]

theorem pigeon (n : Nat) : ∀ f : Nat → Nat, (∀ i, i ≤ n → f i < n) → ∃ i j, i < j ∧ j ≤ n ∧ f i = f j := by
  induction n with
  | zero => intro f h; exact absurd (h 0 (Nat.le_refl _)) (by omega)
  | succ n ih =>
    intro f h
    by_cases hc : ∃ i, i ≤ n ∧ f i = f (n + 1)
    · obtain ⟨i, hi, he⟩ := hc
      exact ⟨i, n + 1, by omega, Nat.le_refl _, he⟩
    · have hv := h (n + 1) (Nat.le_refl _)
      have hne : ∀ i, i ≤ n → f i ≠ f (n + 1) := fun i hi he => hc ⟨i, hi, he⟩
      obtain ⟨i, j, hij, hj, he⟩ := ih (fun i => if f i = n then f (n + 1) else f i) (fun i hi => by
        have h1 := h i (by omega)
        have h2 := hne i hi
        show (if f i = n then f (n + 1) else f i) < n
        split <;> omega)
      refine ⟨i, j, hij, by omega, ?_⟩
      have h1 := hne i (by omega)
      have h2 := hne j hj
      (try simp only at he)
      split at he <;> split at he <;> omega
theorem least_of {P : Nat → Prop} (h : ∃ k, P k) : ∃ k, P k ∧ ∀ j, j < k → ¬ P j := by
  obtain ⟨k, hk⟩ := h
  induction k using Nat.strongRecOn with
  | _ k ih =>
    by_cases hc : ∃ j, j < k ∧ P j
    · obtain ⟨j, hj, hp⟩ := hc
      exact ih j hj hp
    · exact ⟨k, hk, fun j hj hp => hc ⟨j, hj, hp⟩⟩
theorem mod_of_dvd_sub {a n : Nat} (h1 : 1 ≤ a) (h : n ∣ a - 1) : a % n = 1 % n := by
  obtain ⟨q, hq⟩ := h
  have : a = n * q + 1 := by omega
  rw [this, Nat.mul_add_mod]
theorem pow_back (b n : Nat) (hb : 0 < b) (hn : 0 < n) (hc : Nat.Coprime n b) : ∃ k, 1 ≤ k ∧ k ≤ n ∧ b ^ k % n = 1 % n := by
  obtain ⟨i, j, hij, hj, he⟩ := pigeon n (fun i => b ^ i % n) (fun i _ => Nat.mod_lt _ hn)
  refine ⟨j - i, by omega, by omega, mod_of_dvd_sub (Nat.pow_pos hb) ?_⟩
  have h1 := Nat.sub_mod_eq_zero_of_mod_eq he.symm
  have h2 := Nat.dvd_of_mod_eq_zero h1
  have h3 : b ^ j - b ^ i = b ^ i * (b ^ (j - i) - 1) := by
    rw [Nat.mul_sub, ← Nat.pow_add, Nat.mul_one]
    congr 2
    omega
  rw [h3] at h2
  exact Nat.Coprime.dvd_of_dvd_mul_left (Nat.Coprime.pow_right _ hc) h2
theorem tmod_cast (a b : Nat) : Int.tmod (a : Int) (b : Int) = ((a % b : Nat) : Int) := (Int.ofNat_tmod a b).symm
theorem tdiv_cast (a b : Nat) : Int.tdiv (a : Int) (b : Int) = ((a / b : Nat) : Int) := (Int.ofNat_tdiv a b).symm
theorem natOf {a : Int} (h : 0 ≤ a) : ∃ n : Nat, a = (n : Int) := ⟨a.toNat, by omega⟩

theorem dvFactors_l1 (M : Nat) : ∀ (n p : Nat) (out : List Int), 1 ≤ n → n ≤ 1000000000 → 2 ≤ p → p ≤ 31623 → out.length + n ≤ 2000000000 → (∀ d, 2 ≤ d → d < p → ¬ d ∣ n) → n + (40000 - p) ≤ M →
    ∃ L, Fac L n p ∧ Ev (fun k => spec_dvFactors.l1 k (n : Int) out (p : Int)) (out ++ ic L) := by
  induction M with
  | zero => intro n p out h1 h2 h3 h4 h5 h6 h7; omega
  | succ M ih =>
    intro n p out h1 h2 h3 h4 h5 h6 h7
    by_cases hd : n % p = 0
    · obtain ⟨m, rfl⟩ := Nat.dvd_of_mod_eq_zero hd
      have hm : 1 ≤ m := by
        rcases m with _ | m
        · omega
        · omega
      have hm2 : 2 * m ≤ p * m := Nat.mul_le_mul_right m h3
      have h9' : m + (40000 - p) ≤ M := by omega
      obtain ⟨L, ⟨hL1, hL2, hL3⟩, hev⟩ := ih m p (out ++ [(p : Int)]) hm (by omega) h3 h4 (by simp; omega) (fun d h8 h9 h10 => h6 d h8 h9 (Nat.dvd_trans h10 (Nat.dvd_mul_left m p))) h9'
      refine ⟨p :: L, ⟨fun q hq => ?_, by simp [lprod, hL2], List.pairwise_cons.2 ⟨fun q hq => (hL1 q hq).2, hL3⟩⟩, ?_⟩
      · rcases List.mem_cons.1 hq with rfl | hq
        · exact ⟨⟨h3, fun d h8 h9 h10 => h6 d h8 h9 (Nat.dvd_trans h10 (Nat.dvd_mul_right _ m))⟩, Nat.le_refl _⟩
        · exact hL1 q hq
      · refine evs (fun k => by rw [spec_dvFactors.l1]) ?_
        rw [tmod_cast, tdiv_cast, hd]
        refine evn (by omega) (evp (by simp) (evp (by omega) ?_))
        rw [Nat.mul_div_cancel_left m (by omega : 0 < p), w64 (by omega) (by omega)]
        simpa [ic_cons] using hev
    · have hdv : ¬ p ∣ n := fun h => hd (Nat.mod_eq_zero_of_dvd h)
      have h6' : ∀ d, 2 ≤ d → d < p + 1 → ¬ d ∣ n := by
        intro d h8 h9 h10
        by_cases he : d = p
        · subst he; exact hdv h10
        · exact h6 d h8 (by omega) h10
      have hsq : ((p + 1 : Nat) : Int) * ((p + 1 : Nat) : Int) = (((p + 1) * (p + 1) : Nat) : Int) := by simp
      have hb : (p + 1) * (p + 1) ≤ 31624 * 31624 := Nat.mul_le_mul (by omega) (by omega)
      have key : ∃ L, Fac L n (p + 1) ∧ Ev (fun k => spec_dvFactors.l0 k (n : Int) out ((p + 1 : Nat) : Int)) (out ++ ic L) := by
        by_cases hc : (p + 1) * (p + 1) ≤ n
        · have hp : p + 1 ≤ 31623 := by
            by_cases h : p + 1 ≤ 31623
            · exact h
            · have : 31624 * 31624 ≤ (p + 1) * (p + 1) := Nat.mul_le_mul (by omega) (by omega)
              omega
          obtain ⟨L, hL, hev⟩ := ih n (p + 1) out h1 h2 (by omega) hp h5 h6' (by omega)
          refine ⟨L, hL, evs (fun k => by rw [spec_dvFactors.l0]) ?_⟩
          rw [hsq, w64 (by omega) (by omega)]
          exact evp (by omega) hev
        · by_cases hn : 1 < n
          · refine ⟨[n], ⟨fun q hq => ?_, by simp [lprod], by simp⟩, evs (fun k => by rw [spec_dvFactors.l0]) ?_⟩
            · rw [List.mem_singleton.1 hq]
              have hpr := prime_of_big hn h6' (by omega)
              refine ⟨hpr, ?_⟩
              by_cases h : p + 1 ≤ n
              · exact h
              · exact absurd (Nat.dvd_refl n) (h6' n (by omega) (by omega))
            · rw [hsq, w64 (by omega) (by omega)]
              exact evn (by omega) (evp (by omega) (evp (by omega) (evr (by simp [ic]))))
          · obtain rfl : n = 1 := by omega
            refine ⟨[], ⟨by simp, by simp [lprod], by simp⟩, evs (fun k => by rw [spec_dvFactors.l0]) ?_⟩
            rw [hsq, w64 (by omega) (by omega)]
            exact evn (by omega) (evn (by omega) (evr (by simp [ic])))
      obtain ⟨L, ⟨hL1, hL2, hL3⟩, hev⟩ := key
      refine ⟨L, ⟨fun q hq => ⟨(hL1 q hq).1, by have := (hL1 q hq).2; omega⟩, hL2, hL3⟩, evs (fun k => by rw [spec_dvFactors.l1]) ?_⟩
      rw [tmod_cast]
      refine evn (by omega) (evn (by omega) ?_)
      rw [w64 (by omega) (by omega)]
      exact hev
theorem dvFactors_ev (n : Nat) (h1 : 1 ≤ n) (h2 : n ≤ 1000000000) : ∃ L, Fac L n 2 ∧ Ev (fun k => spec_dvFactors.f k (n : Int)) (ic L) := by
  unfold spec_dvFactors.f
  by_cases hc : 4 ≤ n
  · obtain ⟨M, hM⟩ : ∃ M, n + (40000 - 2) ≤ M := ⟨_, Nat.le_refl _⟩
    obtain ⟨L, hL, hev⟩ := dvFactors_l1 M n 2 [] h1 h2 (by omega) (by omega) (by simp; omega) (fun d h8 h9 => by omega) hM
    refine ⟨L, hL, evs (fun k => by rw [spec_dvFactors.l0]) ?_⟩
    rw [w64 (by omega) (by omega)]
    exact evp (by omega) (by simpa using hev)
  · by_cases hn : 1 < n
    · refine ⟨[n], ⟨fun q hq => ?_, by simp [lprod], by simp⟩, evs (fun k => by rw [spec_dvFactors.l0]) ?_⟩
      · rw [List.mem_singleton.1 hq]
        exact ⟨prime_of_big (p := 2) hn (fun d h8 h9 => by omega) (by omega), by omega⟩
      · rw [w64 (by omega) (by omega)]
        exact evn (by omega) (evp (by omega) (evp (by simp) (evr (by simp [ic]))))
    · obtain rfl : n = 1 := by omega
      refine ⟨[], ⟨by simp, by simp [lprod], by simp⟩, evs (fun k => by rw [spec_dvFactors.l0]) ?_⟩
      rw [w64 (by omega) (by omega)]
      exact evn (by omega) (evn (by omega) (evr (by simp [ic])))
theorem factors_same_loop : ∀ (k : Nat), (∀ (a : Int) (b : List Int) (c : Int), impl_factors.l0 k a b c = spec_dvFactors.l0 k a b c) ∧ (∀ (a : Int) (b : List Int) (c : Int), impl_factors.l1 k a b c = spec_dvFactors.l1 k a b c)
  | 0 => ⟨fun _ _ _ => rfl, fun _ _ _ => rfl⟩
  | k + 1 => ⟨fun a b c => by simp only [impl_factors.l0, spec_dvFactors.l0, factors_same_loop k], fun a b c => by simp only [impl_factors.l1, spec_dvFactors.l1, factors_same_loop k]⟩
theorem factors_same (k : Nat) (a : Int) : impl_factors.f k a = spec_dvFactors.f k a := by simp only [impl_factors.f, spec_dvFactors.f, factors_same_loop]
theorem factors_ev {n : Nat} {L : List Nat} (h : Ev (fun k => spec_dvFactors.f k (n : Int)) (ic L)) : Ev (fun k => impl_factors.f k (n : Int)) (ic L) := by simpa only [factors_same] using h

theorem dvPrime_ev (n : Int) (h2 : n ≤ 1000000000) : ∃ t : Bool, Ev (fun k => spec_dvPrime.f k n) t ∧ Ev (fun k => impl_isPrime.f k n) t ∧ (t = true → 2 ≤ n ∧ IsPr n.toNat) := by
  by_cases h : n > 1
  · obtain ⟨n, rfl⟩ := natOf (a := n) (by omega)
    obtain ⟨L, hL, hev⟩ := dvFactors_ev n (by omega) (by omega)
    refine ⟨(((ic L).length : Int) == 1), evp h (evb hev (Ev.now _)), evp h (evb (factors_ev hev) (Ev.now _)), fun ht => ?_⟩
    have hl : L.length = 1 := by
      simp only [ic_length, beq_iff_eq] at ht
      omega
    obtain ⟨q, rfl⟩ := List.length_eq_one_iff.1 hl
    have hq := hL.2.1
    simp only [lprod, Nat.mul_one] at hq
    subst hq
    exact ⟨by omega, by simpa using (hL.1 q (by simp)).1⟩
  · exact ⟨false, evn h (Ev.now _), evn h (Ev.now _), fun h => by simp at h⟩

theorem teDigits_loop (n b : Nat) (hn : 0 < n) (hn2 : n ≤ 2000) (hb2 : b ≤ 16) (d : Nat) : ∀ (a : Nat) (out : List Int), a < n → out.length + d ≤ 100000 →
    Ev (fun k => spec_teDigits.l0 k (a : Int) (n : Int) (b : Int) (d : Int) out) (out ++ ic (digs n b d a)) := by
  induction d with
  | zero =>
    intro a out ha ho
    refine evs (fun k => by rw [spec_teDigits.l0]) ?_
    exact evn (by omega) (evr (by simp [digs, ic]))
  | succ d ih =>
    intro a out ha ho
    refine evs (fun k => by rw [spec_teDigits.l0]) ?_
    refine evp (by omega) (evn (by omega) (evp (by omega) ?_))
    have hm : a * b ≤ 2000 * 16 := Nat.mul_le_mul (by omega) hb2
    have hd : a * b / n ≤ a * b := Nat.div_le_self _ _
    have e1 : ((a : Int)) * (b : Int) = ((a * b : Nat) : Int) := by simp
    rw [e1, w64n _ (by omega), tmod_cast, tdiv_cast, w64n (a * b / n) (by omega), w64 (x := ((d + 1 : Nat) : Int) - 1) (by omega) (by omega)]
    have h2 := ih (a * b % n) (out ++ [((a * b / n : Nat) : Int)]) (Nat.mod_lt _ hn) (by simp; omega)
    have e2 : (((d + 1 : Nat) : Int) - 1) = (d : Int) := by omega
    rw [e2]
    simpa [digs, ic_cons] using h2
theorem teDigits_ev (n b a d : Nat) (hn : 0 < n) (hn2 : n ≤ 2000) (hb2 : b ≤ 16) (ha : a < n) (hd : d ≤ 100000) : Ev (fun k => spec_teDigits.f k (a : Int) (n : Int) (b : Int) (d : Int)) (ic (digs n b d a)) := by
  unfold spec_teDigits.f
  simpa using teDigits_loop n b hn hn2 hb2 d a [] ha (by simpa using hd)
theorem shown_loop (n b fr t : Nat) (hn : 0 < n) (hn2 : n ≤ 2000) (hb2 : b ≤ 16) (ht : t ≤ 100000) (d : Nat) : ∀ (a i : Nat) (out : List Int), a < n → i + d = t → out.length ≤ i →
    Ev (fun k => impl_shown.l0 k (a : Int) (n : Int) (b : Int) (fr : Int) out (t : Int) (i : Int)) (out ++ ic ((digs n b d a).drop (fr - i))) := by
  induction d with
  | zero =>
    intro a i out ha hi ho
    refine evs (fun k => by rw [impl_shown.l0]) ?_
    exact evn (by omega) (evr (by simp [digs, ic]))
  | succ d ih =>
    intro a i out ha hi ho
    refine evs (fun k => by rw [impl_shown.l0]) ?_
    have hm : a * b ≤ 2000 * 16 := Nat.mul_le_mul (by omega) hb2
    have hd : a * b / n ≤ a * b := Nat.div_le_self _ _
    have e1 : ((a : Int)) * (b : Int) = ((a * b : Nat) : Int) := by simp
    rw [e1, w64n _ (by omega), tmod_cast, tdiv_cast, w64n (a * b / n) (by omega), w64 (x := (i : Int) + 1) (by omega) (by omega)]
    refine evp (by omega) ?_
    by_cases hf : fr ≤ i
    · refine evp (by omega) (evn (by omega) (evp (by omega) ?_))
      have h2 := ih (a * b % n) (i + 1) (out ++ [((a * b / n : Nat) : Int)]) (Nat.mod_lt _ hn) (by omega) (by simp; omega)
      rw [show fr - (i + 1) = 0 by omega] at h2
      rw [show fr - i = 0 by omega]
      simpa [digs, ic_cons] using h2
    · refine evn (by omega) (evn (by omega) ?_)
      have h2 := ih (a * b % n) (i + 1) out (Nat.mod_lt _ hn) (by omega) (by omega)
      rw [show fr - i = (fr - (i + 1)) + 1 by omega]
      simpa [digs] using h2
theorem shown_ev (n b a fr d : Nat) (hn : 0 < n) (hn2 : n ≤ 2000) (hb2 : b ≤ 16) (ha : a < n) (hd : fr + d ≤ 100000) : Ev (fun k => impl_shown.f k (a : Int) (n : Int) (b : Int) (fr : Int) (d : Int)) (ic ((digs n b (fr + d) a).drop fr)) := by
  unfold impl_shown.f
  rw [w64 (by omega) (by omega)]
  simpa using shown_loop n b fr (fr + d) hn hn2 hb2 hd (fr + d) a 0 [] ha (by omega) (by simp)

def seen (n : Nat) (xs : List Int) : List Int := (List.range n).map (fun i : Nat => if (i : Int) ∈ xs then (xs.idxOf (i : Int) : Int) else -1)
theorem seen_length (n : Nat) (xs : List Int) : (seen n xs).length = n := by simp [seen]
theorem seen_nil (n : Nat) : seen n [] = List.replicate n (-1) := List.ext_getElem (by simp [seen]) (fun i h1 h2 => by simp [seen])
theorem seen_at (n : Nat) (xs : List Int) (x : Int) (h0 : 0 ≤ x) (h1 : x < n) : rd (seen n xs) x = if x ∈ xs then (xs.idxOf x : Int) else -1 := by
  obtain ⟨x, rfl⟩ := natOf h0
  rw [rd_get _ _ (by rw [seen_length]; omega)]
  simp [seen]
theorem seen_set (n : Nat) (xs : List Int) (x : Int) (h0 : 0 ≤ x) (hx : x ∉ xs) : (seen n xs).set x.toNat (xs.length : Int) = seen n (xs ++ [x]) := by
  refine List.ext_getElem (by simp [seen]) (fun i h2 h3 => ?_)
  rw [List.getElem_set]
  simp only [seen, List.getElem_map, List.getElem_range]
  by_cases e : x.toNat = i
  · have e2 : (i : Int) = x := by omega
    rw [if_pos e, e2]
    simp [List.idxOf_append, hx]
  · have e2 : (i : Int) ≠ x := by omega
    rw [if_neg e]
    by_cases hm : (i : Int) ∈ xs <;> simp [List.idxOf_append, e2, hm]
theorem nodup_le (n : Nat) (xs : List Int) (h : xs.Nodup) (hb : ∀ x ∈ xs, 0 ≤ x ∧ x < n) : xs.length ≤ n := by
  by_cases hl : xs.length ≤ n
  · exact hl
  · obtain ⟨i, j, hij, hj, he⟩ := pigeon n (fun i => (xs.getD i 0).toNat) (fun i hi => by
      have hi' : i < xs.length := by omega
      have := hb _ (List.getElem_mem hi')
      simp only [List.getD_eq_getElem?_getD, List.getElem?_eq_getElem hi', Option.getD_some]
      omega)
    have hi' : i < xs.length := by omega
    have hj' : j < xs.length := by omega
    simp only [List.getD_eq_getElem?_getD, List.getElem?_eq_getElem hi', List.getElem?_eq_getElem hj', Option.getD_some] at he
    have h1 := hb _ (List.getElem_mem hi')
    have h2 := hb _ (List.getElem_mem hj')
    exact absurd (by omega) (List.pairwise_iff_getElem.1 h i j hi' hj' hij)
theorem period_loop (n b : Nat) (hn : 0 < n) (hn2 : n ≤ 2000) (hb2 : b ≤ 16) (d : Nat) : ∀ (xs : List Int) (x : Nat), xs.Nodup → (∀ y ∈ xs, 0 ≤ y ∧ y < n) → x < n → n - xs.length = d →
    ∃ (p L : Nat) (ys : List Int), p + L ≤ n ∧ 1 ≤ L ∧ ys.length = p + L ∧ Ev (fun k => spec_tePeriod.l1 k (n : Int) (b : Int) (seen n xs) (xs.length : Int) (x : Int)) ((p : Int), (L : Int)) ∧
      Ev (fun k => impl_period.run (impl_period.step (n : Int) (b : Int)) k xs (x : Int)) (ys, (p : Int)) := by
  induction d with
  | zero =>
    intro xs x hnd hb hx hd
    have hle := nodup_le n xs hnd hb
    by_cases hm : (x : Int) ∈ xs
    · have hi := List.idxOf_lt_length_of_mem hm
      refine ⟨xs.idxOf (x : Int), xs.length - xs.idxOf (x : Int), xs, by omega, by omega, by omega, ?_, ?_⟩
      · refine evs (fun k => by rw [spec_tePeriod.l1]) ?_
        rw [seen_at n xs x (by omega) (by omega), if_pos hm, seen_length]
        refine evp (by omega) (evp (by omega) (evn (by omega) (evr ?_)))
        rw [w64 (by omega) (by omega)]
        congr 1
        omega
      · refine evs (fun k => by rw [impl_period.run]) ?_
        exact evp hm (Ev.now _)
    · have := nodup_le n ((x : Int) :: xs) (List.nodup_cons.2 ⟨hm, hnd⟩) (by
        intro y hy
        rcases List.mem_cons.1 hy with rfl | hy
        · omega
        · exact hb y hy)
      simp at this
      omega
  | succ d ih =>
    intro xs x hnd hb hx hd
    have hle := nodup_le n xs hnd hb
    by_cases hm : (x : Int) ∈ xs
    · have hi := List.idxOf_lt_length_of_mem hm
      refine ⟨xs.idxOf (x : Int), xs.length - xs.idxOf (x : Int), xs, by omega, by omega, by omega, ?_, ?_⟩
      · refine evs (fun k => by rw [spec_tePeriod.l1]) ?_
        rw [seen_at n xs x (by omega) (by omega), if_pos hm, seen_length]
        refine evp (by omega) (evp (by omega) (evn (by omega) (evr ?_)))
        rw [w64 (by omega) (by omega)]
        congr 1
        omega
      · refine evs (fun k => by rw [impl_period.run]) ?_
        exact evp hm (Ev.now _)
    · have hm2 : x * b ≤ 2000 * 16 := Nat.mul_le_mul (by omega) hb2
      have e1 : ((x : Int)) * (b : Int) = ((x * b : Nat) : Int) := by simp
      obtain ⟨p, L, ys, h1, h2, h3, h4, h5⟩ := ih (xs ++ [(x : Int)]) (x * b % n) (by
          rw [List.nodup_append]
          refine ⟨hnd, by simp, ?_⟩
          intro a ha c hc
          simp at hc
          subst hc
          intro e
          subst e
          exact hm ha) (by
          intro y hy
          rcases List.mem_append.1 hy with hy | hy
          · exact hb y hy
          · simp at hy
            omega) (Nat.mod_lt _ hn) (by simp; omega)
      refine ⟨p, L, ys, h1, h2, h3, ?_, ?_⟩
      · refine evs (fun k => by rw [spec_tePeriod.l1]) ?_
        rw [seen_at n xs x (by omega) (by omega), if_neg hm, seen_length]
        refine evp (by omega) (evp (by omega) (evp (by omega) (evn (by omega) ?_)))
        rw [e1, w64n _ (by omega), tmod_cast, w64 (x := (xs.length : Int) + 1) (by omega) (by omega), seen_set n xs x (by omega) hm]
        simpa using h4
      · refine evs (fun k => by rw [impl_period.run]) ?_
        refine evn hm (evp (by omega) ?_)
        have hst : impl_period.step (n : Int) (b : Int) (x : Int) = some ((x * b % n : Nat) : Int) := by
          unfold impl_period.step
          rw [if_neg (by omega : ¬ (n : Int) = 0), e1, w64n _ (by omega), tmod_cast]
        rw [hst]
        simpa using h5
theorem period_fill (a n b : Int) (N : Nat) (hN : N ≤ 100000) (r : Int × Int) (d : Nat) : ∀ i : Nat, i + d = N → Ev (fun k => spec_tePeriod.l1 k n b (List.replicate N (-1)) 0 a) r →
    Ev (fun k => spec_tePeriod.l0 k a n b (List.replicate i (-1) ++ List.replicate d 0) (N : Int) (i : Int)) r := by
  induction d with
  | zero =>
    intro i hi h
    refine evs (fun k => by rw [spec_tePeriod.l0]) ?_
    refine evn (by omega) ?_
    have : i = N := by omega
    subst this
    simpa using h
  | succ d ih =>
    intro i hi h
    refine evs (fun k => by rw [spec_tePeriod.l0]) ?_
    refine evp (by omega) (evp (by omega) (evp (by simp; omega) ?_))
    rw [List.replicate_succ, set_midI _ _ _ _ _ (by simp), w64 (by omega) (by omega)]
    have h2 := ih (i + 1) (by omega) h
    rw [List.replicate_succ', List.append_assoc] at h2
    simpa using h2
theorem period_ev (a n b : Nat) (hn : 0 < n) (hn2 : n ≤ 2000) (hb2 : b ≤ 16) (ha : a < n) :
    ∃ p L : Nat, p + L ≤ n ∧ 1 ≤ L ∧ Ev (fun k => spec_tePeriod.f k (a : Int) (n : Int) (b : Int)) ((p : Int), (L : Int)) ∧ Ev (fun k => impl_period.f k (a : Int) (n : Int) (b : Int)) ((p : Int), (L : Int)) := by
  obtain ⟨p, L, ys, h1, h2, h3, h4, h5⟩ := period_loop n b hn hn2 hb2 n [] a List.nodup_nil (by simp) ha (by simp)
  refine ⟨p, L, h1, h2, ?_, ?_⟩
  · unfold spec_tePeriod.f
    refine evp (by omega) (evp (by omega) ?_)
    simp only [Option.bind_some, List.length_replicate, Int.toNat_natCast]
    rw [seen_nil] at h4
    simpa using period_fill a n b n (by omega) _ n 0 (by omega) h4
  · unfold impl_period.f
    refine evp (by omega) (evb h5 (evr ?_))
    rw [w64 (by simp only; omega) (by simp only; omega)]
    simp only [h3]
    congr 1
    omega

theorem repetend_ev (a n b : Nat) (hn : 0 < n) (hn2 : n ≤ 2000) (hb2 : b ≤ 16) (ha : a < n) :
    ∃ (p L : Nat) (R : List Int), p + L ≤ n ∧ 1 ≤ L ∧ R.length = L ∧ Ev (fun k => spec_tePeriod.f k (a : Int) (n : Int) (b : Int)) ((p : Int), (L : Int)) ∧
      Ev (fun k => spec_teRepetend.f k (a : Int) (n : Int) (b : Int)) R ∧ Ev (fun k => impl_repetend.f k (a : Int) (n : Int) (b : Int)) R := by
  obtain ⟨p, L, h1, h2, h3, h4⟩ := period_ev a n b hn hn2 hb2 ha
  refine ⟨p, L, ic ((digs n b (p + L) a).drop p), h1, h2, by simp [ic_length, digs_length], h3, ?_, ?_⟩
  · unfold spec_teRepetend.f
    refine evb h3 ?_
    have e : wrap64 ((p : Int) + (L : Int)) = ((p + L : Nat) : Int) := by rw [w64 (by omega) (by omega)]; omega
    simp only [e]
    refine evb (teDigits_ev n b a (p + L) hn hn2 hb2 ha (by omega)) (evp (by omega) (evp (by rw [ic_length, digs_length]; omega) (evr ?_)))
    rw [Int.toNat_natCast, ic_drop]
  · unfold impl_repetend.f
    refine evb h4 ?_
    exact evb (shown_ev n b a p L hn hn2 hb2 ha (by omega)) (Ev.now _)

theorem l1Own_ev (l : List Int) (h : l.length ≤ 1000000) : spec_l1Own.f l = some l := by
  unfold spec_l1Own.f
  simp only [Option.bind_some, List.nil_append, List.length_nil]
  rw [if_pos (by omega)]
theorem clone_ev (l : List Int) (h : l.length ≤ 1000000) : slices_Clone_int_int.f l = some l := by
  unfold slices_Clone_int_int.f
  rw [if_pos (by omega)]

theorem halves_tail (a n b : Nat) (x : Bool) (hn : 0 < n) (hn2 : n ≤ 2000) (hb2 : b ≤ 16) (ha : a < n) : ∃ r : List Int × List Int × Bool, r.1.length ≤ 100000 ∧ r.2.1.length ≤ 100000 ∧ Ev (fun k => spec_HalvesOf.j0 k (a : Int) (n : Int) (b : Int) x) r ∧ Ev (fun k => impl_HalvesOf.j0 k (a : Int) (n : Int) (b : Int) x) r := by
  cases x with
  | true => exact ⟨([], [], false), by simp, by simp, evs (fun k => by rw [spec_HalvesOf.j0]) (evp rfl (Ev.now _)), evs (fun k => by rw [impl_HalvesOf.j0]) (evp rfl (Ev.now _))⟩
  | false =>
    obtain ⟨p, L, R, h2, h3, h4, h5, h6, h7⟩ := repetend_ev a n b hn hn2 hb2 ha
    by_cases hL : (L : Int) > 400
    · refine ⟨([], [], false), by simp, by simp, ?_, ?_⟩
      · refine evs (fun k => by rw [spec_HalvesOf.j0]) ?_
        exact evn (by simp) (evb h5 (evp hL (Ev.now _)))
      · refine evs (fun k => by rw [impl_HalvesOf.j0]) ?_
        refine evn (by simp) (evb h7 ?_)
        by_cases ho : ((R.length : Int) % 2) = 1
        · refine evp ho ?_
          refine evs (fun k => by rw [impl_HalvesOf.j1]) ?_
          exact evp rfl (Ev.now _)
        · refine evn ho ?_
          refine evs (fun k => by rw [impl_HalvesOf.j1]) ?_
          exact evp (decide_eq_true (by omega)) (Ev.now _)
    · by_cases ho : ((R.length : Int) % 2) = 1
      · refine ⟨([], [], false), by simp, by simp, ?_, ?_⟩
        · refine evs (fun k => by rw [spec_HalvesOf.j0]) ?_
          exact evn (by simp) (evb h5 (evn hL (evb h6 (evp ho (Ev.now _)))))
        · refine evs (fun k => by rw [impl_HalvesOf.j0]) ?_
          refine evn (by simp) (evb h7 (evp ho ?_))
          refine evs (fun k => by rw [impl_HalvesOf.j1]) ?_
          exact evp rfl (Ev.now _)
      · have e1 : wrap64 ((R.length : Int) / 2) = ((R.length / 2 : Nat) : Int) := by rw [w64 (by omega) (by omega)]; omega
        have e2 : wrap64 (Int.tdiv (R.length : Int) 2) = ((R.length / 2 : Nat) : Int) := by
          rw [show ((2 : Int)) = ((2 : Nat) : Int) from rfl, tdiv_cast, w64n _ (by omega)]
        refine ⟨(R.take (R.length / 2), R.drop (R.length / 2), true), by simp; omega, by simp; omega, ?_, ?_⟩
        · refine evs (fun k => by rw [spec_HalvesOf.j0]) ?_
          refine evn (by simp) (evb h5 (evn hL (evb h6 (evn ho ?_))))
          rw [e1, Int.toNat_natCast]
          refine evp (by omega) (evp (by omega) ?_)
          rw [l1Own_ev _ (by simp; omega), l1Own_ev _ (by simp; omega)]
          exact Ev.now _
        · refine evs (fun k => by rw [impl_HalvesOf.j0]) ?_
          refine evn (by simp) (evb h7 (evn ho ?_))
          refine evs (fun k => by rw [impl_HalvesOf.j1]) ?_
          refine evn (by rw [decide_eq_true_eq]; omega) ?_
          rw [e2, Int.toNat_natCast]
          refine evp (by omega) (evp (by omega) ?_)
          rw [clone_ev _ (by simp; omega), clone_ev _ (by simp; omega)]
          exact Ev.now _
theorem halves_both (a n b : Int) : ∃ r : List Int × List Int × Bool, r.1.length ≤ 100000 ∧ r.2.1.length ≤ 100000 ∧ Ev (fun k => spec_HalvesOf.f k a n b) r ∧ Ev (fun k => impl_HalvesOf.f k a n b) r := by
  have no : Ev (fun k => spec_HalvesOf.j0 k a n b true) ([], [], false) ∧ Ev (fun k => impl_HalvesOf.j0 k a n b true) ([], [], false) := ⟨evs (fun k => by rw [spec_HalvesOf.j0]) (evp rfl (Ev.now _)), evs (fun k => by rw [impl_HalvesOf.j0]) (evp rfl (Ev.now _))⟩
  simp only [spec_HalvesOf.f, impl_HalvesOf.f, spec_teFraction_eq, impl_isFraction_eq, Option.bind_some, decide_eq_true_eq]
  by_cases h1 : (2 ≤ b ∧ b ≤ 16) ∧ (1 ≤ n ∧ n ≤ 2000) ∧ 0 ≤ a ∧ a ≤ n - 1
  · by_cases ha : a = 0
    · exact ⟨([], [], false), by simp, by simp, evp h1 (evp ha no.1), evp h1 (evp (by omega) no.2)⟩
    · obtain ⟨t, hs, hi, ht⟩ := dvPrime_ev n (by omega)
      cases t with
      | false => exact ⟨([], [], false), by simp, by simp, evp h1 (evn ha (evb hs (evn (by simp) no.1))), evp h1 (evn (by omega) (evb hi (evn (by simp) no.2)))⟩
      | true =>
        obtain ⟨r, h2, h3, h4, h5⟩ := halves_tail a.toNat n.toNat b.toNat ((Int.tmod b n) == 0) (by omega) (by omega) (by omega) (by omega)
        simp only [Int.toNat_of_nonneg (by omega : 0 ≤ a), Int.toNat_of_nonneg (by omega : 0 ≤ n), Int.toNat_of_nonneg (by omega : 0 ≤ b)] at h4 h5
        exact ⟨r, h2, h3, evp h1 (evn ha (evb hs (evp rfl (evn (by omega) h4)))), evp h1 (evn (by omega) (evb hi (evp rfl (evn (by omega) h5))))⟩
  · exact ⟨([], [], false), by simp, by simp, evn h1 no.1, evn h1 no.2⟩

theorem laws_eqIntS_loop (post : List Int) : ∀ (pre post' : List Int), post'.length = post.length → (pre ++ post).length ≤ 4611686018427387904 →
    Ev (fun k => laws_eqIntS.l0 k (pre ++ post) (pre ++ post') (pre.length : Int)) (decide (post = post')) := by
  induction post with
  | nil =>
    intro pre post' hl h
    obtain rfl : post' = [] := List.eq_nil_of_length_eq_zero hl
    refine evs (fun k => by rw [laws_eqIntS.l0]) ?_
    exact evn (by simp) (evr (by simp))
  | cons x post ih =>
    intro pre post' hl h
    obtain ⟨y, post', rfl⟩ : ∃ y z, post' = y :: z := by cases post' with
      | nil => simp at hl
      | cons y z => exact ⟨y, z, rfl⟩
    refine evs (fun k => by rw [laws_eqIntS.l0]) ?_
    refine evp (by simp; omega) (evp (by omega) (evp (by simp; omega) ?_))
    rw [rd_mid, rd_mid]
    by_cases he : x = y
    · subst he
      refine evp rfl ?_
      have h2 := ih (pre ++ [x]) post' (by simpa using hl) (by simpa using h)
      simp only [List.append_assoc, List.singleton_append, List.length_append, List.length_singleton] at h2 h
      rw [w64 (by omega) (by simp at h; omega)]
      simpa using h2
    · exact evn he (evr (by simp [he]))
theorem laws_eqIntS_ev (l l' : List Int) (h : l.length ≤ 4611686018427387904) : Ev (fun k => laws_eqIntS.f k l l') (decide (l = l')) := by
  unfold laws_eqIntS.f
  by_cases hl : l.length = l'.length
  · exact evp (by omega) (by simpa using laws_eqIntS_loop l [] l' hl.symm (by simpa using h))
  · exact evn (by omega) (evr (by symm; rw [decide_eq_false_iff_not]; exact fun e => hl (by rw [e])))
theorem laws_eqIntS_self (l : List Int) (h : l.length ≤ 4611686018427387904) : Ev (fun k => laws_eqIntS.f k l l) true := by simpa using laws_eqIntS_ev l l h

theorem markIntS_loop (post : List Int) : ∀ (pre : List Int) (m : Int), 0 ≤ m → m + post.length ≤ 4611686018427387904 → (pre ++ post).length ≤ 4611686018427387904 →
    Ev (fun k => laws_markIntS.l0 k (pre ++ post) m (pre.length : Int)) (m + post.length, pre ++ iota m post.length) := by
  induction post with
  | nil =>
    intro pre m _ _ _
    refine evs (fun k => by rw [laws_markIntS.l0]) ?_
    exact evn (by simp) (evr (by simp [iota]))
  | cons x post ih =>
    intro pre m h0 h1 h
    refine evs (fun k => by rw [laws_markIntS.l0]) ?_
    have hl : (pre.length : Int) < ((pre ++ x :: post).length : Int) := by simp; omega
    simp only [List.length_cons] at h1
    refine evp hl (evp (by omega) ?_)
    have h2 := ih (pre ++ [m]) (m + 1) (by omega) (by omega) (by simpa using h)
    simp only [List.append_assoc, List.singleton_append, List.length_append, List.length_singleton] at h2 h
    rw [w64 (x := (pre.length : Int) + 1) (by omega) (by simp at h; omega), w64 (x := m + 1) (by omega) (by omega), set_midI _ _ _ _ _ rfl]
    simp only [List.length_cons, iota]
    have e : m + ((post.length + 1 : Nat) : Int) = m + 1 + post.length := by omega
    rw [e]
    simpa using h2
theorem markIntS_ev (l : List Int) (m : Int) (h0 : 0 ≤ m) (h1 : m + l.length ≤ 4611686018427387904) : Ev (fun k => laws_markIntS.f k l m) (m + l.length, iota m l.length) := by
  unfold laws_markIntS.f
  simpa using markIntS_loop l [] m h0 h1 (by simp; omega)
theorem heldIntS_loop (n : Nat) : ∀ (pre : List Int) (m : Int), 0 ≤ m → m + n ≤ 4611686018427387904 → pre.length + n ≤ 4611686018427387904 →
    Ev (fun k => laws_heldIntS.l0 k (pre ++ iota m n) m (pre.length : Int)) (m + n) := by
  induction n with
  | zero =>
    intro pre m _ _ _
    refine evs (fun k => by rw [laws_heldIntS.l0]) ?_
    exact evn (by simp [iota]) (evr (by simp))
  | succ n ih =>
    intro pre m h0 h1 h
    refine evs (fun k => by rw [laws_heldIntS.l0]) ?_
    simp only [iota]
    refine evp (by simp; omega) (evp (by omega) (evp (rd_mid _ _ _) ?_))
    have h2 := ih (pre ++ [m]) (m + 1) (by omega) (by omega) (by simp; omega)
    simp only [List.append_assoc, List.singleton_append, List.length_append, List.length_singleton] at h2
    rw [w64 (x := (pre.length : Int) + 1) (by omega) (by omega), w64 (x := m + 1) (by omega) (by omega)]
    have e : m + ((n + 1 : Nat) : Int) = m + 1 + n := by omega
    rw [e]
    simpa using h2
theorem heldIntS_ev (n : Nat) (m : Int) (h0 : 0 ≤ m) (h1 : m + n ≤ 4611686018427387904) : Ev (fun k => laws_heldIntS.f k (iota m n) m) (m + n) := by
  unfold laws_heldIntS.f
  simpa using heldIntS_loop n [] m h0 h1 (by simp; omega)

theorem FnExactHalvesOf : laws_FnExactHalvesOf.Pure := by
  intro a n b _ _ _
  obtain ⟨r, hr, hr2, hs, hi⟩ := halves_both a n b
  refine Ev.rounds (g := fun k => laws_FnExactHalvesOf.f k a n b) ?_
  unfold laws_FnExactHalvesOf.f
  refine evb hs (evb hi (evb (laws_eqIntS_self _ (by omega)) (evp rfl (evb (laws_eqIntS_self _ (by omega)) (evp rfl ?_)))))
  refine evs (fun k => by rw [laws_FnExactHalvesOf.j0]) ?_
  refine evn (by simp) (evb (markIntS_ev _ 1 (by omega) (by omega)) (evb (markIntS_ev _ _ (by simp only; omega) (by simp only; omega)) ?_))
  refine evb (heldIntS_ev _ 1 (by omega) (by omega)) (evn (by omega) (evb (heldIntS_ev _ _ (by simp only; omega) (by simp only; omega)) (evn (by simp only; omega) (evp rfl ?_))))
  refine evb hi (evb (laws_eqIntS_self _ (by omega)) (evp rfl (evb (laws_eqIntS_self _ (by omega)) (evp rfl ?_))))
  refine evs (fun k => by rw [laws_FnExactHalvesOf.j1]) ?_
  exact evn (by simp) (evb (heldIntS_ev _ 1 (by omega) (by omega)) (evn (by omega) (evb (heldIntS_ev _ _ (by simp only; omega) (by simp only; omega)) (evn (by simp only; omega) (evp rfl (Ev.now _))))))

end Go.Proofs.Ytnhohachlieglaa.Pure
