/- For all numbers, ProperRun of the program and of the reference agree, and what the program returns is memory of its own. -/
import Derived.Test.YtnhohachlieglaaPFnExactProperRunx4
import Derived.Test.YtnhohachlieglaaWMore
set_option linter.unusedVariables false
set_option linter.unusedSimpArgs false
namespace Go.Proofs.Ytnhohachlieglaa.Pure
open Go.RowKit Go.Proofs.Ytnhohachlieglaa.PFnExactProperRun Go.Proofs.YtnhohachlieglaaW.PrintWords Go.Proofs.YtnhohachlieglaaW.PrintLast

theorem w64 {x : Int} (h1 : -9223372036854775808 ≤ x) (h2 : x ≤ 9223372036854775807) : wrap64 x = x := by unfold wrap64; omega

theorem w64n (n : Nat) (h : n ≤ 9223372036854775807) : wrap64 (n : Int) = (n : Int) := w64 (by omega) (by omega)

theorem evp {α : Type} {c : Prop} [Decidable c] {a b : Nat → Option α} {r : α} (h : c) (k : Ev a r) : Ev (fun n => if c then a n else b n) r := Ev.congr (fun _ => if_pos h) k
theorem evn {α : Type} {c : Prop} [Decidable c] {a b : Nat → Option α} {r : α} (h : ¬ c) (k : Ev b r) : Ev (fun n => if c then a n else b n) r := Ev.congr (fun _ => if_neg h) k
theorem evr {α : Type} {x r : α} (h : x = r) : Ev (fun _ => some x) r := h ▸ Ev.now x
theorem evb {α β : Type} {g : Nat → Option α} {f : Nat → α → Option β} {a : α} {r : β} (h : Ev g a) (k : Ev (fun n => f n a) r) : Ev (fun n => (g n).bind fun x => f n x) r := Ev.bind h k
theorem evs {α : Type} {g f : Nat → Option α} {r : α} (h : ∀ k, g (k + 1) = f k) (k : Ev f r) : Ev g r := Ev.step h k
theorem evu {α : Type} {g : Nat → Option α} {r s : α} (h : Ev g r) (k : Ev g s) : r = s := by
  obtain ⟨K, h⟩ := h
  obtain ⟨L, k⟩ := k
  have := (h (K + L) (by omega)).symm.trans (k (K + L) (by omega))
  injection this

theorem rd_mid (pre post : List Int) (x : Int) : rd (pre ++ x :: post) (pre.length : Int) = x := by simp [rd]
theorem rd_mid' (pre post : List Int) (x i : Int) (h : i = pre.length) : rd (pre ++ x :: post) i = x := by subst h; exact rd_mid pre post x
theorem set_mid {α : Type} (pre post : List α) (x y : α) : (pre ++ x :: post).set pre.length y = pre ++ y :: post := by simp
theorem set_midI {α : Type} (pre post : List α) (x y : α) (i : Int) (h : i = pre.length) : (pre ++ x :: post).set i.toNat y = pre ++ y :: post := by subst h; simp
theorem rd_nat (xs : List Int) (i : Nat) : rd xs (i : Int) = xs.getD i 0 := by simp [rd]
theorem rd_get (xs : List Int) (i : Nat) (h : i < xs.length) : rd xs (i : Int) = xs[i] := by simp [rd, h]
theorem rd_mem (xs : List Int) (i : Int) (h0 : 0 ≤ i) (h : i < xs.length) : rd xs i ∈ xs := by
  have hi : i.toNat < xs.length := by omega
  simp only [rd, List.getD_eq_getElem?_getD, List.getElem?_eq_getElem hi, Option.getD_some]
  exact List.getElem_mem hi
/-- m, m + 1, .. -/
def iota (m : Int) : Nat → List Int
  | 0 => []
  | n + 1 => m :: iota (m + 1) n
theorem iota_length (m : Int) (n : Nat) : (iota m n).length = n := by induction n generalizing m with
  | zero => rfl
  | succ n ih => simp [iota, ih]
/-- A list is cut in two. -/
theorem cut_at {α : Type} (xs : List α) (i : Nat) (h : i < xs.length) : ∃ pre x post, xs = pre ++ x :: post ∧ pre.length = i := by
  refine ⟨xs.take i, xs[i], xs.drop (i + 1), ?_, by simp; omega⟩
  simp
theorem wf64 {x : Int} (h : (Lit.int .i64 x).wf = true) : -9223372036854775808 ≤ x ∧ x ≤ 9223372036854775807 := by
  have h2 : (decide (IntKind.i64.min ≤ x) && decide (x ≤ IntKind.i64.max)) = true := h
  rw [show IntKind.i64.min = -9223372036854775808 from rfl, show IntKind.i64.max = 9223372036854775807 from rfl] at h2
  simpa using h2

def ic (l : List Nat) : List Int := l.map (fun x : Nat => (x : Int))
theorem ic_nil : ic [] = [] := rfl
theorem ic_cons (x : Nat) (l : List Nat) : ic (x :: l) = (x : Int) :: ic l := rfl
theorem ic_append (l m : List Nat) : ic (l ++ m) = ic l ++ ic m := by simp [ic]
theorem ic_length (l : List Nat) : (ic l).length = l.length := by simp [ic]
theorem ic_drop (l : List Nat) (k : Nat) : (ic l).drop k = ic (l.drop k) := by simp [ic, List.map_drop]
def digs (n b : Nat) : Nat → Nat → List Nat
  | 0, _ => []
  | k + 1, a => a * b / n :: digs n b k (a * b % n)
theorem digs_length (n b k : Nat) : ∀ a, (digs n b k a).length = k := by
  induction k with
  | zero => intro a; rfl
  | succ k ih => intro a; simp [digs, ih]

def IsPr (p : Nat) : Prop := 2 ≤ p ∧ ∀ d, 2 ≤ d → d < p → ¬ d ∣ p
def lprod : List Nat → Nat
  | [] => 1
  | x :: l => x * lprod l
theorem lprod_pos {l : List Nat} (h : ∀ q ∈ l, 0 < q) : 0 < lprod l := by
  induction l with
  | nil => decide
  | cons x l ih => exact Nat.mul_pos (h x (by simp)) (ih (fun q hq => h q (by simp [hq])))
/-- L: the prime factors of n, not falling, none less than p. -/
def Fac (L : List Nat) (n p : Nat) : Prop := (∀ q ∈ L, IsPr q ∧ p ≤ q) ∧ lprod L = n ∧ L.Pairwise (· ≤ ·)
theorem sq_lt {a b : Nat} (h : a * a ≤ b * b) : a ≤ b := by
  by_cases hc : a ≤ b
  · exact hc
  · have : b * b < a * a := Nat.mul_lt_mul_of_lt_of_le (by omega) (by omega) (by omega)
    omega
theorem prime_of_big {n p : Nat} (hn : 1 < n) (hd : ∀ d, 2 ≤ d → d < p → ¬ d ∣ n) (hp : n < p * p) : IsPr n := by
  refine ⟨hn, fun d h2 h3 hdv => ?_⟩
  have h4 : p ≤ d := by
    by_cases h : p ≤ d
    · exact h
    · exact absurd hdv (hd d h2 (by omega))
  obtain ⟨e, he⟩ := hdv
  have h5 : 2 ≤ e := by
    rcases e with _ | _ | e
    · omega
    · omega
    · omega
  have h6 : p ≤ e := by
    by_cases h : p ≤ e
    · exact h
    · exact absurd ⟨d, by rw [he, Nat.mul_comm]⟩ (hd e h5 (by omega))
  have : p * p ≤ d * e := Nat.mul_le_mul h4 h6
  omega

/-- Within a stretch of p: its power, how many, and the sum of its powers. -/
def dvS : List Nat → Nat → Nat → Nat → Nat → Nat → Nat → Nat × Nat
  | [], sum, many, _, _, k, part => (sum * part, many * (k + 1))
  | q :: L, sum, many, p, power, k, part => if q = p then dvS L sum many p (power * p) (k + 1) (part + power * p) else dvS L (sum * part) (many * (k + 1)) q q 1 (1 + q)
def dvL : List Nat → Nat × Nat
  | [] => (1, 1)
  | q :: L => dvS L 1 1 q q 1 (1 + q)
/-- The bounds that hold within a stretch. -/
def DvB (D sum many p power k part R : Nat) : Prop := 1 ≤ sum ∧ sum ≤ D * D ∧ 1 ≤ many ∧ many ≤ D ∧ 2 ≤ p ∧ p ≤ power ∧ 1 ≤ k ∧ k + 1 ≤ power ∧ 1 ≤ part ∧ part + 1 ≤ 2 * power ∧ D * power * R ≤ 1000000000 ∧ 1 ≤ R
theorem DvB.D1 {D sum many p power k part R : Nat} (h : DvB D sum many p power k part R) : 1 ≤ D := by
  obtain ⟨_, _, h3, h4, _⟩ := h
  omega
theorem DvB.fits {D sum many p power k part R : Nat} (h : DvB D sum many p power k part R) : D * power ≤ 1000000000 ∧ power ≤ 1000000000 ∧ D ≤ 1000000000 ∧ sum * part ≤ (D * power) * (D * power) ∧ many * (k + 1) ≤ D * power ∧ sum * part ≤ 1000000000000000000 ∧ sum ≤ 1000000000000000000 := by
  have hD := h.D1
  obtain ⟨h1, h2, h3, h4, h5, h6, h7, h8, h9, h10, h11, h12⟩ := h
  have a1 : D * power * 1 ≤ D * power * R := Nat.mul_le_mul_left _ h12
  have a2 : 1 * power ≤ D * power := Nat.mul_le_mul_right _ hD
  have a3 : D * 1 ≤ D * power := Nat.mul_le_mul_left _ (by omega)
  have a4 : 2 * power ≤ power * power := Nat.mul_le_mul_right _ (by omega)
  have a5 : sum * part ≤ (D * D) * (power * power) := Nat.mul_le_mul h2 (by omega)
  have a6 : (D * D) * (power * power) = (D * power) * (D * power) := by
    rw [Nat.mul_mul_mul_comm]
  have a7 : many * (k + 1) ≤ D * power := Nat.mul_le_mul h4 h8
  have a8 : (D * power) * (D * power) ≤ 1000000000 * 1000000000 := Nat.mul_le_mul (by omega) (by omega)
  have a9 : D * D ≤ 1000000000 * 1000000000 := Nat.mul_le_mul (by omega) (by omega)
  omega
theorem DvB.same {D sum many p power k part R : Nat} (h : DvB D sum many p power k part (p * R)) : DvB D sum many p (power * p) (k + 1) (part + power * p) R := by
  obtain ⟨h1, h2, h3, h4, h5, h6, h7, h8, h9, h10, h11, h12⟩ := h
  have a1 : power * 2 ≤ power * p := Nat.mul_le_mul_left _ h5
  have hR : 1 ≤ R := by
    rcases R with _ | R
    · simp at h12
    · omega
  refine ⟨h1, h2, h3, h4, h5, by omega, by omega, by omega, by omega, by omega, ?_, hR⟩
  rw [← Nat.mul_assoc] at h11
  rw [← Nat.mul_assoc]
  exact h11
theorem DvB.next {D sum many p power k part q R : Nat} (h : DvB D sum many p power k part (q * R)) (hq : 2 ≤ q) : DvB (D * power) (sum * part) (many * (k + 1)) q q 1 (1 + q) R := by
  have hf := h.fits
  obtain ⟨h1, h2, h3, h4, h5, h6, h7, h8, h9, h10, h11, h12⟩ := h
  have hR : 1 ≤ R := by
    rcases R with _ | R
    · simp at h12
    · omega
  have b1 : 1 * 1 ≤ sum * part := Nat.mul_le_mul h1 h9
  have b2 : 1 * 1 ≤ many * (k + 1) := Nat.mul_le_mul h3 (by omega)
  refine ⟨by omega, hf.2.2.2.1, by omega, hf.2.2.2.2.1, hq, Nat.le_refl _, by omega, by omega, by omega, by omega, ?_, hR⟩
  rw [← Nat.mul_assoc] at h11
  exact h11
theorem DvB.first {q R : Nat} (hq : 2 ≤ q) (hR : 1 ≤ R) (h : q * R ≤ 1000000000) : DvB 1 1 1 q q 1 (1 + q) R := ⟨by omega, by omega, by omega, by omega, hq, Nat.le_refl _, by omega, by omega, by omega, by omega, by rw [Nat.one_mul]; exact h, hR⟩

def idxI (x : Int) : List Int → Nat → Int
  | [], _ => -1
  | y :: l, i => if x = y then (i : Int) else idxI x l (i + 1)
theorem idxI_ge (x : Int) (l : List Int) : ∀ i : Nat, (0 ≤ idxI x l i ↔ x ∈ l) ∧ -1 ≤ idxI x l i := by
  induction l with
  | nil => intro i; simp [idxI]
  | cons y l ih =>
    intro i
    by_cases h : x = y
    · simp [idxI, h]
      try omega
    · have := ih (i + 1)
      simp [idxI, h, this]

theorem pigeon (n : Nat) : ∀ f : Nat → Nat, (∀ i, i ≤ n → f i < n) → ∃ i j, i < j ∧ j ≤ n ∧ f i = f j := by
  induction n with
  | zero => intro f h; exact absurd (h 0 (Nat.le_refl _)) (by omega)
  | succ n ih =>
    intro f h
    by_cases hc : ∃ i, i ≤ n ∧ f i = f (n + 1)
    · obtain ⟨i, hi, he⟩ := hc
      exact ⟨i, n + 1, by omega, Nat.le_refl _, he⟩
    · have hv := h (n + 1) (Nat.le_refl _)
      have hne : ∀ i, i ≤ n → f i ≠ f (n + 1) := fun i hi he => hc ⟨i, hi, he⟩
      obtain ⟨i, j, hij, hj, he⟩ := ih (fun i => if f i = n then f (n + 1) else f i) (fun i hi => by
        have h1 := h i (by omega)
        have h2 := hne i hi
        show (if f i = n then f (n + 1) else f i) < n
        split <;> omega)
      refine ⟨i, j, hij, by omega, ?_⟩
      have h1 := hne i (by omega)
      have h2 := hne j hj
      (try simp only at he)
      split at he <;> split at he <;> omega
theorem least_of {P : Nat → Prop} (h : ∃ k, P k) : ∃ k, P k ∧ ∀ j, j < k → ¬ P j := by
  obtain ⟨k, hk⟩ := h
  induction k using Nat.strongRecOn with
  | _ k ih =>
    by_cases hc : ∃ j, j < k ∧ P j
    · obtain ⟨j, hj, hp⟩ := hc
      exact ih j hj hp
    · exact ⟨k, hk, fun j hj hp => hc ⟨j, hj, hp⟩⟩
theorem mod_of_dvd_sub {a n : Nat} (h1 : 1 ≤ a) (h : n ∣ a - 1) : a % n = 1 % n := by
  obtain ⟨q, hq⟩ := h
  have : a = n * q + 1 := by omega
  rw [this, Nat.mul_add_mod]
theorem pow_back (b n : Nat) (hb : 0 < b) (hn : 0 < n) (hc : Nat.Coprime n b) : ∃ k, 1 ≤ k ∧ k ≤ n ∧ b ^ k % n = 1 % n := by
  obtain ⟨i, j, hij, hj, he⟩ := pigeon n (fun i => b ^ i % n) (fun i _ => Nat.mod_lt _ hn)
  refine ⟨j - i, by omega, by omega, mod_of_dvd_sub (Nat.pow_pos hb) ?_⟩
  have h1 := Nat.sub_mod_eq_zero_of_mod_eq he.symm
  have h2 := Nat.dvd_of_mod_eq_zero h1
  have h3 : b ^ j - b ^ i = b ^ i * (b ^ (j - i) - 1) := by
    rw [Nat.mul_sub, ← Nat.pow_add, Nat.mul_one]
    congr 2
    omega
  rw [h3] at h2
  exact Nat.Coprime.dvd_of_dvd_mul_left (Nat.Coprime.pow_right _ hc) h2
theorem tmod_cast (a b : Nat) : Int.tmod (a : Int) (b : Int) = ((a % b : Nat) : Int) := (Int.ofNat_tmod a b).symm
theorem tdiv_cast (a b : Nat) : Int.tdiv (a : Int) (b : Int) = ((a / b : Nat) : Int) := (Int.ofNat_tdiv a b).symm
theorem natOf {a : Int} (h : 0 ≤ a) : ∃ n : Nat, a = (n : Int) := ⟨a.toNat, by omega⟩

theorem dvFactors_l1 (M : Nat) : ∀ (n p : Nat) (out : List Int), 1 ≤ n → n ≤ 1000000000 → 2 ≤ p → p ≤ 31623 → out.length + n ≤ 2000000000 → (∀ d, 2 ≤ d → d < p → ¬ d ∣ n) → n + (40000 - p) ≤ M →
    ∃ L, Fac L n p ∧ Ev (fun k => spec_dvFactors.l1 k (n : Int) out (p : Int)) (out ++ ic L) := by
  induction M with
  | zero => intro n p out h1 h2 h3 h4 h5 h6 h7; omega
  | succ M ih =>
    intro n p out h1 h2 h3 h4 h5 h6 h7
    by_cases hd : n % p = 0
    · obtain ⟨m, rfl⟩ := Nat.dvd_of_mod_eq_zero hd
      have hm : 1 ≤ m := by
        rcases m with _ | m
        · omega
        · omega
      have hm2 : 2 * m ≤ p * m := Nat.mul_le_mul_right m h3
      have h9' : m + (40000 - p) ≤ M := by omega
      obtain ⟨L, ⟨hL1, hL2, hL3⟩, hev⟩ := ih m p (out ++ [(p : Int)]) hm (by omega) h3 h4 (by simp; omega) (fun d h8 h9 h10 => h6 d h8 h9 (Nat.dvd_trans h10 (Nat.dvd_mul_left m p))) h9'
      refine ⟨p :: L, ⟨fun q hq => ?_, by simp [lprod, hL2], List.pairwise_cons.2 ⟨fun q hq => (hL1 q hq).2, hL3⟩⟩, ?_⟩
      · rcases List.mem_cons.1 hq with rfl | hq
        · exact ⟨⟨h3, fun d h8 h9 h10 => h6 d h8 h9 (Nat.dvd_trans h10 (Nat.dvd_mul_right _ m))⟩, Nat.le_refl _⟩
        · exact hL1 q hq
      · refine evs (fun k => by rw [spec_dvFactors.l1]) ?_
        rw [tmod_cast, tdiv_cast, hd]
        refine evn (by omega) (evp (by simp) (evp (by omega) ?_))
        rw [Nat.mul_div_cancel_left m (by omega : 0 < p), w64 (by omega) (by omega)]
        simpa [ic_cons] using hev
    · have hdv : ¬ p ∣ n := fun h => hd (Nat.mod_eq_zero_of_dvd h)
      have h6' : ∀ d, 2 ≤ d → d < p + 1 → ¬ d ∣ n := by
        intro d h8 h9 h10
        by_cases he : d = p
        · subst he; exact hdv h10
        · exact h6 d h8 (by omega) h10
      have hsq : ((p + 1 : Nat) : Int) * ((p + 1 : Nat) : Int) = (((p + 1) * (p + 1) : Nat) : Int) := by simp
      have hb : (p + 1) * (p + 1) ≤ 31624 * 31624 := Nat.mul_le_mul (by omega) (by omega)
      have key : ∃ L, Fac L n (p + 1) ∧ Ev (fun k => spec_dvFactors.l0 k (n : Int) out ((p + 1 : Nat) : Int)) (out ++ ic L) := by
        by_cases hc : (p + 1) * (p + 1) ≤ n
        · have hp : p + 1 ≤ 31623 := by
            by_cases h : p + 1 ≤ 31623
            · exact h
            · have : 31624 * 31624 ≤ (p + 1) * (p + 1) := Nat.mul_le_mul (by omega) (by omega)
              omega
          obtain ⟨L, hL, hev⟩ := ih n (p + 1) out h1 h2 (by omega) hp h5 h6' (by omega)
          refine ⟨L, hL, evs (fun k => by rw [spec_dvFactors.l0]) ?_⟩
          rw [hsq, w64 (by omega) (by omega)]
          exact evp (by omega) hev
        · by_cases hn : 1 < n
          · refine ⟨[n], ⟨fun q hq => ?_, by simp [lprod], by simp⟩, evs (fun k => by rw [spec_dvFactors.l0]) ?_⟩
            · rw [List.mem_singleton.1 hq]
              have hpr := prime_of_big hn h6' (by omega)
              refine ⟨hpr, ?_⟩
              by_cases h : p + 1 ≤ n
              · exact h
              · exact absurd (Nat.dvd_refl n) (h6' n (by omega) (by omega))
            · rw [hsq, w64 (by omega) (by omega)]
              exact evn (by omega) (evp (by omega) (evp (by omega) (evr (by simp [ic]))))
          · obtain rfl : n = 1 := by omega
            refine ⟨[], ⟨by simp, by simp [lprod], by simp⟩, evs (fun k => by rw [spec_dvFactors.l0]) ?_⟩
            rw [hsq, w64 (by omega) (by omega)]
            exact evn (by omega) (evn (by omega) (evr (by simp [ic])))
      obtain ⟨L, ⟨hL1, hL2, hL3⟩, hev⟩ := key
      refine ⟨L, ⟨fun q hq => ⟨(hL1 q hq).1, by have := (hL1 q hq).2; omega⟩, hL2, hL3⟩, evs (fun k => by rw [spec_dvFactors.l1]) ?_⟩
      rw [tmod_cast]
      refine evn (by omega) (evn (by omega) ?_)
      rw [w64 (by omega) (by omega)]
      exact hev
theorem dvFactors_ev (n : Nat) (h1 : 1 ≤ n) (h2 : n ≤ 1000000000) : ∃ L, Fac L n 2 ∧ Ev (fun k => spec_dvFactors.f k (n : Int)) (ic L) := by
  unfold spec_dvFactors.f
  by_cases hc : 4 ≤ n
  · obtain ⟨M, hM⟩ : ∃ M, n + (40000 - 2) ≤ M := ⟨_, Nat.le_refl _⟩
    obtain ⟨L, hL, hev⟩ := dvFactors_l1 M n 2 [] h1 h2 (by omega) (by omega) (by simp; omega) (fun d h8 h9 => by omega) hM
    refine ⟨L, hL, evs (fun k => by rw [spec_dvFactors.l0]) ?_⟩
    rw [w64 (by omega) (by omega)]
    exact evp (by omega) (by simpa using hev)
  · by_cases hn : 1 < n
    · refine ⟨[n], ⟨fun q hq => ?_, by simp [lprod], by simp⟩, evs (fun k => by rw [spec_dvFactors.l0]) ?_⟩
      · rw [List.mem_singleton.1 hq]
        exact ⟨prime_of_big (p := 2) hn (fun d h8 h9 => by omega) (by omega), by omega⟩
      · rw [w64 (by omega) (by omega)]
        exact evn (by omega) (evp (by omega) (evp (by simp) (evr (by simp [ic]))))
    · obtain rfl : n = 1 := by omega
      refine ⟨[], ⟨by simp, by simp [lprod], by simp⟩, evs (fun k => by rw [spec_dvFactors.l0]) ?_⟩
      rw [w64 (by omega) (by omega)]
      exact evn (by omega) (evn (by omega) (evr (by simp [ic])))
theorem factors_same_loop : ∀ (k : Nat), (∀ (a : Int) (b : List Int) (c : Int), impl_factors.l0 k a b c = spec_dvFactors.l0 k a b c) ∧ (∀ (a : Int) (b : List Int) (c : Int), impl_factors.l1 k a b c = spec_dvFactors.l1 k a b c)
  | 0 => ⟨fun _ _ _ => rfl, fun _ _ _ => rfl⟩
  | k + 1 => ⟨fun a b c => by simp only [impl_factors.l0, spec_dvFactors.l0, factors_same_loop k], fun a b c => by simp only [impl_factors.l1, spec_dvFactors.l1, factors_same_loop k]⟩
theorem factors_same (k : Nat) (a : Int) : impl_factors.f k a = spec_dvFactors.f k a := by simp only [impl_factors.f, spec_dvFactors.f, factors_same_loop]
theorem factors_ev {n : Nat} {L : List Nat} (h : Ev (fun k => spec_dvFactors.f k (n : Int)) (ic L)) : Ev (fun k => impl_factors.f k (n : Int)) (ic L) := by simpa only [factors_same] using h

theorem dvSums_loop (whole : List Int) (L : List Nat) : ∀ (pre : List Int) (D sum many p power k part : Nat), whole = pre ++ ic L → whole.length ≤ 1000000000000 → (∀ q ∈ L, 2 ≤ q) → DvB D sum many p power k part (lprod L) →
    Ev (fun f => spec_dvSums.l1 f (sum : Int) (many : Int) whole (pre.length : Int) (p : Int) (power : Int) (k : Int) (part : Int)) (((dvS L sum many p power k part).1 : Int), ((dvS L sum many p power k part).2 : Int)) := by
  induction L with
  | nil =>
    intro pre D sum many p power k part hw hlen hq hB
    have hf := hB.fits
    obtain ⟨h1, h2, h3, h4, h5, h6, h7, h8, h9, h10, h11, h12⟩ := hB
    have hl : whole.length = pre.length := by simp [hw, ic]
    have e1 : (sum : Int) * (part : Int) = ((sum * part : Nat) : Int) := by simp
    have e2 : (many : Int) * (((k + 1 : Nat)) : Int) = ((many * (k + 1) : Nat) : Int) := by simp
    have e3 : (k : Int) + 1 = ((k + 1 : Nat) : Int) := by simp
    refine evs (fun k => by rw [spec_dvSums.l1]) ?_
    rw [w64 (x := (k : Int) + 1) (by omega) (by omega), e3, e1, e2, w64n (sum * part) (by omega), w64n (many * (k + 1)) (by omega)]
    refine evn (by omega) (evs (fun k => by rw [spec_dvSums.l0]) ?_)
    exact evn (by omega) (evr rfl)
  | cons q L ih =>
    intro pre D sum many p power k part hw hlen hq hB
    have hf := hB.fits
    have hB0 := hB
    obtain ⟨h1, h2, h3, h4, h5, h6, h7, h8, h9, h10, h11, h12⟩ := hB
    rw [ic_cons] at hw
    have hl : whole.length = pre.length + (L.length + 1) := by simp [hw, ic]
    have hx : rd whole (pre.length : Int) = (q : Int) := by rw [hw, rd_mid]
    have hw2 : whole = (pre ++ [(q : Int)]) ++ ic L := by simp [hw]
    have hq2 := hq q (by simp)
    have hqL : ∀ x ∈ L, 2 ≤ x := fun x hx => hq x (by simp [hx])
    refine evs (fun k => by rw [spec_dvSums.l1]) ?_
    rw [hx]
    refine evp (by omega) (evp (by omega) ?_)
    by_cases hqp : q = p
    · subst hqp
      have hB2 := DvB.same hB0
      have hf2 := hB2.fits
      have e1 : (power : Int) * (q : Int) = ((power * q : Nat) : Int) := by simp
      have e2 : (part : Int) + ((power * q : Nat) : Int) = ((part + power * q : Nat) : Int) := by simp
      have e3 : (k : Int) + 1 = ((k + 1 : Nat) : Int) := by simp
      refine evp rfl ?_
      rw [e1, w64 (x := ((power * q : Nat) : Int)) (by omega) (by omega), e2, w64 (x := ((part + power * q : Nat) : Int)) (by omega) (by omega), w64 (x := (k : Int) + 1) (by omega) (by omega), w64 (x := (pre.length : Int) + 1) (by omega) (by omega), e3]
      have h := ih (pre ++ [(q : Int)]) D sum many q (power * q) (k + 1) (part + power * q) hw2 hlen hqL hB2
      simpa [dvS] using h
    · have hB2 := DvB.next hB0 hq2
      have hf2 := hB2.fits
      have e1 : (sum : Int) * (part : Int) = ((sum * part : Nat) : Int) := by simp
      have e2 : (many : Int) * (((k + 1 : Nat)) : Int) = ((many * (k + 1) : Nat) : Int) := by simp
      have e3 : (k : Int) + 1 = ((k + 1 : Nat) : Int) := by simp
      refine evn (by omega) ?_
      rw [w64 (x := (k : Int) + 1) (by omega) (by omega), e3, e1, e2, w64n (sum * part) (by omega), w64n (many * (k + 1)) (by omega)]
      refine evs (fun k => by rw [spec_dvSums.l0]) ?_
      refine evp (by omega) (evp (by omega) ?_)
      rw [hx]
      refine evs (fun k => by rw [spec_dvSums.l1]) ?_
      rw [hx]
      refine evp (by omega) (evp (by omega) (evp rfl ?_))
      rw [Int.one_mul, w64 (x := (q : Int)) (by omega) (by omega), w64 (x := (pre.length : Int) + 1) (by omega) (by omega), w64 (x := (0 : Int) + 1) (by omega) (by omega), w64 (x := (1 : Int) + (q : Int)) (by omega) (by omega)]
      have h := ih (pre ++ [(q : Int)]) (D * power) (sum * part) (many * (k + 1)) q q 1 (1 + q) hw2 hlen hqL hB2
      simpa [dvS, hqp] using h
theorem dvSums_run (L : List Nat) (hlen : L.length ≤ 1000000000000) (hq : ∀ q ∈ L, 2 ≤ q) (hn : lprod L ≤ 1000000000) :
    Ev (fun f => spec_dvSums.l0 f 1 1 (ic L) 0) (((dvL L).1 : Int), ((dvL L).2 : Int)) := by
  cases L with
  | nil =>
    refine evs (fun k => by rw [spec_dvSums.l0]) ?_
    exact evn (by simp [ic]) (evr rfl)
  | cons q L =>
    have hq2 := hq q (by simp)
    have hqL : ∀ x ∈ L, 2 ≤ x := fun x hx => hq x (by simp [hx])
    have hR := lprod_pos (l := L) (fun x hx => by have := hqL x hx; omega)
    have hB := DvB.first hq2 hR hn
    have hf := hB.fits
    have hx : rd (ic (q :: L)) 0 = (q : Int) := by simp [ic, rd]
    have hl : (ic (q :: L)).length = L.length + 1 := by simp [ic]
    refine evs (fun k => by rw [spec_dvSums.l0]) ?_
    refine evp (by omega) (evp (by omega) (evs (fun k => by rw [spec_dvSums.l1]) ?_))
    rw [hx]
    refine evp (by omega) (evp (by omega) (evp rfl ?_))
    rw [Int.one_mul, w64 (x := (q : Int)) (by omega) (by omega), w64 (x := (0 : Int) + 1) (by omega) (by omega), w64 (x := (1 : Int) + (q : Int)) (by omega) (by omega)]
    have h := dvSums_loop (ic (q :: L)) L [(q : Int)] 1 1 1 q q 1 (1 + q) rfl (by simp only [List.length_cons] at hlen; omega) hqL hB
    simpa [dvL] using h
theorem divisors_loop (L : List Nat) : ∀ (D sum many p power k part : Nat), L.length ≤ 1000000000000 → (∀ q ∈ L, 2 ≤ q) → part * p + 1 = part + power * p → DvB D sum many p power k part (lprod L) →
    Ev (fun f => impl_divisors.l1 f (sum : Int) (many : Int) (ic L) (part : Int) (k : Int) (p : Int)) (((dvS L sum many p power k part).1 : Int), ((dvS L sum many p power k part).2 : Int)) := by
  induction L with
  | nil =>
    intro D sum many p power k part hlen hq hP hB
    have hf := hB.fits
    obtain ⟨h1, h2, h3, h4, h5, h6, h7, h8, h9, h10, h11, h12⟩ := hB
    have e1 : (sum : Int) * (part : Int) = ((sum * part : Nat) : Int) := by simp
    have e2 : (many : Int) * (((k + 1 : Nat)) : Int) = ((many * (k + 1) : Nat) : Int) := by simp
    have e3 : (k : Int) + 1 = ((k + 1 : Nat) : Int) := by simp
    refine evs (fun k => by rw [impl_divisors.l1]) ?_
    rw [w64 (x := (k : Int) + 1) (by omega) (by omega), e3, e1, e2, w64n (sum * part) (by omega), w64n (many * (k + 1)) (by omega)]
    refine evn (by simp [ic]) (evs (fun k => by rw [impl_divisors.l0]) ?_)
    exact evn (by simp [ic]) (evr rfl)
  | cons q L ih =>
    intro D sum many p power k part hlen hq hP hB
    have hf := hB.fits
    have hB0 := hB
    obtain ⟨h1, h2, h3, h4, h5, h6, h7, h8, h9, h10, h11, h12⟩ := hB
    have hx : rd (ic (q :: L)) 0 = (q : Int) := by simp [ic, rd]
    have hl : (ic (q :: L)).length = L.length + 1 := by simp [ic]
    have hdr : (ic (q :: L)).drop (1 : Int).toNat = ic L := by simp [ic]
    have hq2 := hq q (by simp)
    have hqL : ∀ x ∈ L, 2 ≤ x := fun x hx => hq x (by simp [hx])
    simp only [List.length_cons] at hlen
    refine evs (fun k => by rw [impl_divisors.l1]) ?_
    rw [hx, hdr]
    refine evp (by omega) (evp (by omega) ?_)
    by_cases hqp : q = p
    · subst hqp
      have hB2 := DvB.same hB0
      have hf2 := hB2.fits
      have e1 : (part : Int) * (q : Int) = ((part * q : Nat) : Int) := by simp
      have e2 : ((part * q : Nat) : Int) + 1 = ((part + power * q : Nat) : Int) := by rw [← hP]; simp
      have e3 : (k : Int) + 1 = ((k + 1 : Nat) : Int) := by simp
      refine evp rfl (evp (by omega) ?_)
      obtain ⟨g1, g2, g3, g4, g5, g6, g7, g8, g9, g10, g11, g12⟩ := hB2
      rw [e1, w64 (x := ((part * q : Nat) : Int)) (by omega) (by omega), e2, w64 (x := ((part + power * q : Nat) : Int)) (by omega) (by omega), w64 (x := (k : Int) + 1) (by omega) (by omega), e3]
      have hP2 : (part + power * q) * q + 1 = (part + power * q) + power * q * q := by
        rw [Nat.add_mul]
        omega
      have h := ih D sum many q (power * q) (k + 1) (part + power * q) (by omega) hqL hP2 (DvB.same hB0)
      simpa [dvS] using h
    · have hB2 := DvB.next hB0 hq2
      have hf2 := hB2.fits
      have e1 : (sum : Int) * (part : Int) = ((sum * part : Nat) : Int) := by simp
      have e2 : (many : Int) * (((k + 1 : Nat)) : Int) = ((many * (k + 1) : Nat) : Int) := by simp
      have e3 : (k : Int) + 1 = ((k + 1 : Nat) : Int) := by simp
      refine evn (by omega) ?_
      rw [w64 (x := (k : Int) + 1) (by omega) (by omega), e3, e1, e2, w64n (sum * part) (by omega), w64n (many * (k + 1)) (by omega)]
      refine evs (fun k => by rw [impl_divisors.l0]) ?_
      refine evp (by omega) (evp (by omega) ?_)
      rw [hx]
      refine evs (fun k => by rw [impl_divisors.l1]) ?_
      rw [hx, hdr]
      refine evp (by omega) (evp (by omega) (evp rfl (evp (by omega) ?_)))
      rw [Int.one_mul, w64 (x := (q : Int)) (by omega) (by omega), w64 (x := (0 : Int) + 1) (by omega) (by omega), w64 (x := (q : Int) + 1) (by omega) (by omega)]
      have h := ih (D * power) (sum * part) (many * (k + 1)) q q 1 (1 + q) (by omega) hqL (by rw [Nat.add_mul]; omega) hB2
      have e4 : (((1 + q : Nat)) : Int) = (q : Int) + 1 := by omega
      rw [e4] at h
      simpa [dvS, hqp] using h
theorem divisors_run (L : List Nat) (hlen : L.length ≤ 1000000000000) (hq : ∀ q ∈ L, 2 ≤ q) (hn : lprod L ≤ 1000000000) :
    Ev (fun f => impl_divisors.l0 f 1 1 (ic L)) (((dvL L).1 : Int), ((dvL L).2 : Int)) := by
  cases L with
  | nil =>
    refine evs (fun k => by rw [impl_divisors.l0]) ?_
    exact evn (by simp [ic]) (evr rfl)
  | cons q L =>
    have hq2 := hq q (by simp)
    have hqL : ∀ x ∈ L, 2 ≤ x := fun x hx => hq x (by simp [hx])
    have hR := lprod_pos (l := L) (fun x hx => by have := hqL x hx; omega)
    have hB := DvB.first hq2 hR hn
    have hf := hB.fits
    have hx : rd (ic (q :: L)) 0 = (q : Int) := by simp [ic, rd]
    have hl : (ic (q :: L)).length = L.length + 1 := by simp [ic]
    have hdr : (ic (q :: L)).drop (1 : Int).toNat = ic L := by simp [ic]
    simp only [List.length_cons] at hlen
    refine evs (fun k => by rw [impl_divisors.l0]) ?_
    refine evp (by omega) (evp (by omega) (evs (fun k => by rw [impl_divisors.l1]) ?_))
    rw [hx, hdr]
    refine evp (by omega) (evp (by omega) (evp rfl (evp (by omega) ?_)))
    rw [Int.one_mul, w64 (x := (q : Int)) (by omega) (by omega), w64 (x := (0 : Int) + 1) (by omega) (by omega), w64 (x := (q : Int) + 1) (by omega) (by omega)]
    have h := divisors_loop L 1 1 1 q q 1 (1 + q) (by omega) hqL (by rw [Nat.add_mul]; omega) hB
    have e4 : (((1 + q : Nat)) : Int) = (q : Int) + 1 := by omega
    rw [e4] at h
    simpa [dvL] using h
theorem two_pow_le_lprod (L : List Nat) (hq : ∀ q ∈ L, 2 ≤ q) : L.length + 1 ≤ lprod L := by
  induction L with
  | nil => decide
  | cons q L ih =>
    have h1 := hq q (by simp)
    have h2 := ih (fun x hx => hq x (by simp [hx]))
    have h3 : 2 * lprod L ≤ q * lprod L := Nat.mul_le_mul_right _ h1
    simp only [List.length_cons, lprod]
    omega
/-- Both sums and numbers of divisors. -/
theorem dv_ev (n : Nat) (h1 : 1 ≤ n) (h2 : n ≤ 1000000000) : ∃ L, Fac L n 2 ∧ Ev (fun k => spec_dvFactors.f k (n : Int)) (ic L) ∧
    Ev (fun k => spec_dvSums.f k (n : Int)) (((dvL L).1 : Int), ((dvL L).2 : Int)) ∧ Ev (fun k => impl_divisors.f k (n : Int)) (((dvL L).1 : Int), ((dvL L).2 : Int)) := by
  obtain ⟨L, hL, hev⟩ := dvFactors_ev n h1 h2
  have hq : ∀ q ∈ L, 2 ≤ q := fun q hq => (hL.1 q hq).2
  have hlen := two_pow_le_lprod L hq
  rw [hL.2.1] at hlen
  exact ⟨L, hL, hev, evb hev (dvSums_run L (by omega) hq (by rw [hL.2.1]; exact h2)), evb (factors_ev hev) (divisors_run L (by omega) hq (by rw [hL.2.1]; exact h2))⟩

theorem dvS_bound (L : List Nat) : ∀ (D sum many p power k part : Nat), (∀ q ∈ L, 2 ≤ q) → DvB D sum many p power k part (lprod L) → 1 ≤ (dvS L sum many p power k part).1 ∧ (dvS L sum many p power k part).1 ≤ 1000000000000000000 := by
  induction L with
  | nil =>
    intro D sum many p power k part hq hB
    have hf := hB.fits
    obtain ⟨h1, h2, h3, h4, h5, h6, h7, h8, h9, h10, h11, h12⟩ := hB
    have b1 : 1 * 1 ≤ sum * part := Nat.mul_le_mul h1 h9
    simp only [dvS]
    omega
  | cons q L ih =>
    intro D sum many p power k part hq hB
    have hqL : ∀ x ∈ L, 2 ≤ x := fun x hx => hq x (by simp [hx])
    by_cases hqp : q = p
    · subst hqp
      simp only [dvS, if_true]
      exact ih _ _ _ _ _ _ _ hqL (DvB.same hB)
    · simp only [dvS, if_neg hqp]
      exact ih _ _ _ _ _ _ _ hqL (DvB.next hB (hq q (by simp)))
theorem dvL_bound (L : List Nat) (hq : ∀ q ∈ L, 2 ≤ q) (hn : lprod L ≤ 1000000000) : 1 ≤ (dvL L).1 ∧ (dvL L).1 ≤ 1000000000000000000 := by
  cases L with
  | nil => simp [dvL]
  | cons q L =>
    have hqL : ∀ x ∈ L, 2 ≤ x := fun x hx => hq x (by simp [hx])
    exact dvS_bound L _ _ _ _ _ _ _ hqL (DvB.first (hq q (by simp)) (lprod_pos (fun x hx => by have := hqL x hx; omega)) hn)
theorem proper_ev (n : Int) (h1 : 1 ≤ n) (h2 : n ≤ 1000000000) : ∃ s : Int, 1 - n ≤ s ∧ s ≤ 1000000000000000000 ∧ Ev (fun k => spec_dvProper.f k n) s ∧ Ev (fun k => impl_proper.f k n) s := by
  obtain ⟨n, rfl⟩ := natOf (a := n) (by omega)
  obtain ⟨L, hL, _, hs, hi⟩ := dv_ev n (by omega) (by omega)
  have hb := dvL_bound L (fun q hq => (hL.1 q hq).2) (by rw [hL.2.1]; omega)
  refine ⟨((dvL L).1 : Int) - (n : Int), by omega, by omega, evb hs (evr ?_), evb hi (evr ?_)⟩ <;> exact w64 (by omega) (by omega)

theorem dvS_ge (L : List Nat) : ∀ (sum many p power k part : Nat), 1 ≤ sum → 1 ≤ part → part * p + 1 = part + power * p → (∀ q ∈ L, 2 ≤ q) →
    sum * part * lprod L ≤ (dvS L sum many p power k part).1 ∧ (L ≠ [] → sum * part * lprod L + 1 ≤ (dvS L sum many p power k part).1) := by
  induction L with
  | nil => intro sum many p power k part h1 h2 h3 h4; simp [dvS, lprod]
  | cons q L ih =>
    intro sum many p power k part h1 h2 h3 h4
    have h4L : ∀ x ∈ L, 2 ≤ x := fun x hx => h4 x (by simp [hx])
    have hR := lprod_pos (l := L) (fun x hx => by have := h4L x hx; omega)
    have hq := h4 q (by simp)
    suffices h : sum * part * lprod (q :: L) + 1 ≤ (dvS (q :: L) sum many p power k part).1 by exact ⟨by omega, fun _ => h⟩
    by_cases hqp : q = p
    · subst hqp
      have h := (ih sum many q (power * q) (k + 1) (part + power * q) h1 (by omega) (by rw [Nat.add_mul]; omega) h4L).1
      simp only [dvS, if_true, lprod]
      refine Nat.le_trans ?_ h
      rw [← h3, Nat.mul_add, Nat.add_mul, Nat.mul_one, ← Nat.mul_assoc, ← Nat.mul_assoc]
      have : 1 * 1 ≤ sum * lprod L := Nat.mul_le_mul h1 hR
      omega
    · have h := (ih (sum * part) (many * (k + 1)) q q 1 (1 + q) (Nat.mul_le_mul h1 h2) (by omega) (by rw [Nat.add_mul]; omega) h4L).1
      simp only [dvS, if_neg hqp, lprod]
      refine Nat.le_trans ?_ h
      rw [Nat.mul_add, Nat.add_mul, Nat.mul_one, ← Nat.mul_assoc]
      have : 1 * 1 * 1 ≤ sum * part * lprod L := Nat.mul_le_mul (Nat.mul_le_mul h1 h2) hR
      omega
theorem lprod_ge {L : List Nat} {q : Nat} (hL : L ≠ []) (h : ∀ x ∈ L, q ≤ x) (h2 : ∀ x ∈ L, 2 ≤ x) : q ≤ lprod L := by
  cases L with
  | nil => exact absurd rfl hL
  | cons r T =>
    have hR := lprod_pos (l := T) (fun x hx => by have := h2 x (by simp [hx]); omega)
    have h1 : r * 1 ≤ r * lprod T := Nat.mul_le_mul_left _ hR
    have := h r (by simp)
    simp only [lprod]
    omega
/-- The proper sum of n from 2 on is at least 1; if it is more, n is at most the square of it less 1. -/
theorem dvL_low (L : List Nat) (n : Nat) (hn : 2 ≤ n) (hF : Fac L n 2) : n + 1 ≤ (dvL L).1 ∧ ((dvL L).1 = n + 1 ∨ n ≤ ((dvL L).1 - n - 1) * ((dvL L).1 - n - 1)) := by
  obtain ⟨h1, h2, h3⟩ := hF
  match L, h1, h2, h3 with
  | [], _, h2, _ => simp only [lprod] at h2; omega
  | [q], _, h2, _ => simp only [lprod] at h2; simp only [dvL, dvS]; omega
  | q :: r :: T, h1, h2, h3 =>
    have h4 : ∀ x ∈ r :: T, 2 ≤ x := fun x hx => (h1 x (by simp [List.mem_cons.1 hx])).2
    have h5 := (dvS_ge (r :: T) 1 1 q q 1 (1 + q) (by omega) (by omega) (by rw [Nat.add_mul]; omega) h4).2 (by simp)
    have h6 : q ≤ lprod (r :: T) := lprod_ge (by simp) (fun x hx => (List.pairwise_cons.1 h3).1 x hx) h4
    have h7 : lprod (q :: r :: T) = q * lprod (r :: T) := rfl
    rw [h7] at h2
    simp only [dvL]
    rw [Nat.one_mul, Nat.add_mul, Nat.one_mul, h2] at h5
    refine ⟨by omega, .inr ?_⟩
    have h8 : q * lprod (r :: T) ≤ lprod (r :: T) * lprod (r :: T) := Nat.mul_le_mul_right _ h6
    rw [h2] at h8
    refine Nat.le_trans h8 (Nat.mul_le_mul ?_ ?_) <;> omega
theorem proper_fn : ∃ P : Int → Int, ∀ n : Int, 1 ≤ n → n ≤ 1000000000 → 1 - n ≤ P n ∧ P n ≤ 1000000000000000000 ∧ Ev (fun k => spec_dvProper.f k n) (P n) ∧ Ev (fun k => impl_proper.f k n) (P n) ∧
    (2 ≤ n → 1 ≤ P n ∧ (2 ≤ P n → n ≤ (P n - 1) * (P n - 1))) := by
  have key : ∀ n : Int, ∃ s : Int, 1 ≤ n → n ≤ 1000000000 → 1 - n ≤ s ∧ s ≤ 1000000000000000000 ∧ Ev (fun k => spec_dvProper.f k n) s ∧ Ev (fun k => impl_proper.f k n) s ∧
      (2 ≤ n → 1 ≤ s ∧ (2 ≤ s → n ≤ (s - 1) * (s - 1))) := by
    intro n
    by_cases h : 1 ≤ n ∧ n ≤ 1000000000
    · obtain ⟨n, rfl⟩ := natOf (a := n) (by omega)
      obtain ⟨L, hL, _, hs, hi⟩ := dv_ev n (by omega) (by omega)
      have hb := dvL_bound L (fun q hq => (hL.1 q hq).2) (by rw [hL.2.1]; omega)
      refine ⟨((dvL L).1 : Int) - (n : Int), fun _ _ => ⟨by omega, by omega, evb hs (evr (w64 (by omega) (by omega))), evb hi (evr (w64 (by omega) (by omega))), fun hn => ?_⟩⟩
      have hlow := dvL_low L n (by omega) hL
      refine ⟨by omega, fun h2 => ?_⟩
      rcases hlow.2 with h3 | h3
      · omega
      · have e : ((dvL L).1 : Int) - (n : Int) - 1 = (((dvL L).1 - n - 1 : Nat) : Int) := by omega
        rw [e]
        exact_mod_cast h3
    · exact ⟨0, fun h1 h2 => absurd ⟨h1, h2⟩ h⟩
  exact ⟨fun n => Classical.choose (key n), fun n => Classical.choose_spec (key n)⟩

theorem impl_in_eq (a b c : Int) : impl_in.f a b c = some (decide (b ≤ a ∧ a ≤ c)) := by
  unfold impl_in.f
  by_cases h : b ≤ a <;> simp [h]
theorem spec_l1In_eq (a b c : Int) : spec_l1In.f a b c = some (decide (b ≤ a ∧ a ≤ c)) := by
  unfold spec_l1In.f
  by_cases h : b ≤ a <;> simp [h]

theorem spec_dvNumber_eq (n : Int) : spec_dvNumber.f n = some (decide (1 ≤ n ∧ n ≤ 1000000000)) := by simp only [spec_dvNumber.f, spec_l1In_eq, Option.bind_some]
theorem impl_isDivided_eq (n : Int) : impl_isDivided.f n = some (decide (1 ≤ n ∧ n ≤ 1000000000)) := by simp only [impl_isDivided.f, impl_in_eq, Option.bind_some]

theorem spec_l1Has_loop (x : Int) (whole : List Int) (post : List Int) : ∀ pre : List Int, whole = pre ++ post → whole.length ≤ 4611686018427387904 →
    Ev (fun k => spec_l1Has.l0 k x whole (whole.length : Int) (pre.length : Int)) (decide (x ∈ post)) := by
  induction post with
  | nil =>
    intro pre hw h
    refine evs (fun k => by rw [spec_l1Has.l0]) ?_
    exact evn (by simp [hw]) (evr (by simp))
  | cons y post ih =>
    intro pre hw h
    have hl : whole.length = pre.length + (post.length + 1) := by simp [hw]
    have hx : rd whole (pre.length : Int) = y := by rw [hw, rd_mid]
    refine evs (fun k => by rw [spec_l1Has.l0]) ?_
    rw [hx]
    refine evp (by omega) (evp (by omega) (evp (by omega) ?_))
    by_cases he : y = x
    · exact evp he (evr (by simp [he]))
    · refine evn he ?_
      have h2 := ih (pre ++ [y]) (by simp [hw]) h
      rw [w64 (by omega) (by omega)]
      have e : decide (x ∈ y :: post) = decide (x ∈ post) := by
        have : ¬ x = y := fun e => he e.symm
        simp [this]
      rw [e]
      simpa using h2
theorem spec_l1Has_ev (l : List Int) (x : Int) (h : l.length ≤ 4611686018427387904) : Ev (fun k => spec_l1Has.f k l x) (decide (x ∈ l)) := by
  unfold spec_l1Has.f
  simpa using spec_l1Has_loop x l l [] rfl h

theorem slices_Index_int_int_loop (x : Int) (whole : List Int) (post : List Int) : ∀ pre : List Int, whole = pre ++ post → whole.length ≤ 4611686018427387904 →
    Ev (fun k => slices_Index_int_int.l0 k whole x (whole.length : Int) (pre.length : Int)) (idxI x post pre.length) := by
  induction post with
  | nil =>
    intro pre hw h
    refine evs (fun k => by rw [slices_Index_int_int.l0]) ?_
    exact evn (by simp [hw]) (Ev.now _)
  | cons y post ih =>
    intro pre hw h
    have hl : whole.length = pre.length + (post.length + 1) := by simp [hw]
    have hx : rd whole (pre.length : Int) = y := by rw [hw, rd_mid]
    refine evs (fun k => by rw [slices_Index_int_int.l0]) ?_
    rw [hx]
    refine evp (by omega) (evp (by omega) (evp (by omega) ?_))
    by_cases he : x = y
    · exact evp he (evr (by simp [idxI, he]))
    · refine evn he ?_
      have h2 := ih (pre ++ [y]) (by simp [hw]) h
      rw [w64 (by omega) (by omega)]
      simpa [idxI, he] using h2
theorem slices_Index_int_int_ev (l : List Int) (x : Int) (h : l.length ≤ 4611686018427387904) : Ev (fun k => slices_Index_int_int.f k l x) (idxI x l 0) := by
  unfold slices_Index_int_int.f
  simpa using slices_Index_int_int_loop x l l [] rfl h

theorem contains_ev (l : List Int) (x : Int) (h : l.length ≤ 4611686018427387904) : Ev (fun k => slices_Contains_int_int.f k l x) (decide (x ∈ l)) := by
  unfold slices_Contains_int_int.f
  refine evb (slices_Index_int_int_ev l x h) (evr ?_)
  have := (idxI_ge x l 0).1
  by_cases hm : x ∈ l <;> simp [hm, this] <;> omega

theorem lastOf_ev (l : List Int) (x : Int) (h : l.length ≤ 1000000) : impl_lastOf.f (l ++ [x]) = some x := by
  have e : (((l ++ [x]).length : Nat) : Int) - 1 = (l.length : Int) := by simp
  unfold impl_lastOf.f
  rw [e, w64 (by omega) (by omega), if_pos (by omega), if_pos (by simp; try omega)]
  rw [show l ++ [x] = l ++ x :: [] from rfl, rd_mid]
theorem properRun_loop (most : Int) (hm : most ≤ 60) (d : Nat) : ∀ (l : List Int) (x s : Int), 1 ≤ x → x ≤ 1000000000 → (most - ((l.length + 1 : Nat) : Int)).toNat = d → (l.length + 1 : Int) ≤ most → Ev (fun k => spec_dvProper.f k x) s → Ev (fun k => impl_proper.f k x) s →
    ∃ r : List Int × Int, r.1.length ≤ 60 ∧ Ev (fun k => spec_dvRun.l0 k most (l ++ [x]) s) r ∧ Ev (fun k => impl_properRun.l0 k most (l ++ [x])) r := by
  induction d with
  | zero =>
    intro l x s hx1 hx2 hd hl hs hi
    refine ⟨(l ++ [x], s), by simp; omega, evs (fun k => by rw [spec_dvRun.l0]) ?_, evs (fun k => by rw [impl_properRun.l0]) ?_⟩
    · exact evn (by simp; omega) (Ev.now _)
    · simp only [lastOf_ev l x (by omega), Option.bind_some]
      exact evb hi (evp (by simp; omega) (Ev.now _))
  | succ d ih =>
    intro l x s hx1 hx2 hd hl hs hi
    have hlen : (((l ++ [x]).length : Nat) : Int) = l.length + 1 := by simp
    by_cases hn : 1 ≤ s ∧ s ≤ 1000000000
    · by_cases hc : s ∈ l ++ [x]
      · refine ⟨(l ++ [x], s), by simp; omega, evs (fun k => by rw [spec_dvRun.l0]) ?_, evs (fun k => by rw [impl_properRun.l0]) ?_⟩
        · simp only [spec_dvNumber_eq, Option.bind_some, decide_eq_true_eq]
          exact evp (by omega) (evp hn (evb (spec_l1Has_ev _ s (by simp; omega)) (evp (by simpa using hc) (Ev.now _))))
        · simp only [lastOf_ev l x (by omega), impl_isDivided_eq, Option.bind_some, decide_eq_true_eq]
          exact evb hi (evn (by omega) (evp hn (evb (contains_ev _ s (by simp; omega)) (evp (by simpa using hc) (Ev.now _)))))
      · obtain ⟨t, _, _, ht1, ht2⟩ := proper_ev s hn.1 hn.2
        obtain ⟨r, hr, h1, h2⟩ := ih (l ++ [x]) s t hn.1 hn.2 (by simp; omega) (by simp; omega) ht1 ht2
        refine ⟨r, hr, evs (fun k => by rw [spec_dvRun.l0]) ?_, evs (fun k => by rw [impl_properRun.l0]) ?_⟩
        · simp only [spec_dvNumber_eq, Option.bind_some, decide_eq_true_eq]
          exact evp (by omega) (evp hn (evb (spec_l1Has_ev _ s (by simp; omega)) (evn (by simpa using hc) (evp (by simp; omega) (evb ht1 h1)))))
        · simp only [lastOf_ev l x (by omega), impl_isDivided_eq, Option.bind_some, decide_eq_true_eq]
          exact evb hi (evn (by omega) (evp hn (evb (contains_ev _ s (by simp; omega)) (evn (by simpa using hc) (evp (by simp; omega) h2)))))
    · refine ⟨(l ++ [x], s), by simp; omega, evs (fun k => by rw [spec_dvRun.l0]) ?_, evs (fun k => by rw [impl_properRun.l0]) ?_⟩
      · simp only [spec_dvNumber_eq, Option.bind_some, decide_eq_true_eq]
        exact evp (by omega) (evn hn (Ev.now _))
      · simp only [lastOf_ev l x (by omega), impl_isDivided_eq, Option.bind_some, decide_eq_true_eq]
        exact evb hi (evn (by omega) (evn hn (Ev.now _)))
theorem properRun_ev (n most : Int) (h1 : 1 ≤ n) (h2 : n ≤ 1000000000) (h3 : 1 ≤ most) (h4 : most ≤ 60) : ∃ r : List Int × Int, r.1.length ≤ 60 ∧ Ev (fun k => spec_dvRun.f k n most) r ∧ Ev (fun k => impl_properRun.f k n most) r := by
  obtain ⟨s, _, _, hs, hi⟩ := proper_ev n h1 h2
  obtain ⟨r, hr, a, b⟩ := properRun_loop most h4 (most - ((([] : List Int).length + 1 : Nat) : Int)).toNat [] n s h1 h2 rfl (by simpa using h3) hs hi
  exact ⟨r, hr, evb hs a, b⟩

theorem laws_eqIntS_loop (post : List Int) : ∀ (pre post' : List Int), post'.length = post.length → (pre ++ post).length ≤ 4611686018427387904 →
    Ev (fun k => laws_eqIntS.l0 k (pre ++ post) (pre ++ post') (pre.length : Int)) (decide (post = post')) := by
  induction post with
  | nil =>
    intro pre post' hl h
    obtain rfl : post' = [] := List.eq_nil_of_length_eq_zero hl
    refine evs (fun k => by rw [laws_eqIntS.l0]) ?_
    exact evn (by simp) (evr (by simp))
  | cons x post ih =>
    intro pre post' hl h
    obtain ⟨y, post', rfl⟩ : ∃ y z, post' = y :: z := by cases post' with
      | nil => simp at hl
      | cons y z => exact ⟨y, z, rfl⟩
    refine evs (fun k => by rw [laws_eqIntS.l0]) ?_
    refine evp (by simp; omega) (evp (by omega) (evp (by simp; omega) ?_))
    rw [rd_mid, rd_mid]
    by_cases he : x = y
    · subst he
      refine evp rfl ?_
      have h2 := ih (pre ++ [x]) post' (by simpa using hl) (by simpa using h)
      simp only [List.append_assoc, List.singleton_append, List.length_append, List.length_singleton] at h2 h
      rw [w64 (by omega) (by simp at h; omega)]
      simpa using h2
    · exact evn he (evr (by simp [he]))
theorem laws_eqIntS_ev (l l' : List Int) (h : l.length ≤ 4611686018427387904) : Ev (fun k => laws_eqIntS.f k l l') (decide (l = l')) := by
  unfold laws_eqIntS.f
  by_cases hl : l.length = l'.length
  · exact evp (by omega) (by simpa using laws_eqIntS_loop l [] l' hl.symm (by simpa using h))
  · exact evn (by omega) (evr (by symm; rw [decide_eq_false_iff_not]; exact fun e => hl (by rw [e])))
theorem laws_eqIntS_self (l : List Int) (h : l.length ≤ 4611686018427387904) : Ev (fun k => laws_eqIntS.f k l l) true := by simpa using laws_eqIntS_ev l l h

theorem markIntS_loop (post : List Int) : ∀ (pre : List Int) (m : Int), 0 ≤ m → m + post.length ≤ 4611686018427387904 → (pre ++ post).length ≤ 4611686018427387904 →
    Ev (fun k => laws_markIntS.l0 k (pre ++ post) m (pre.length : Int)) (m + post.length, pre ++ iota m post.length) := by
  induction post with
  | nil =>
    intro pre m _ _ _
    refine evs (fun k => by rw [laws_markIntS.l0]) ?_
    exact evn (by simp) (evr (by simp [iota]))
  | cons x post ih =>
    intro pre m h0 h1 h
    refine evs (fun k => by rw [laws_markIntS.l0]) ?_
    have hl : (pre.length : Int) < ((pre ++ x :: post).length : Int) := by simp; omega
    simp only [List.length_cons] at h1
    refine evp hl (evp (by omega) ?_)
    have h2 := ih (pre ++ [m]) (m + 1) (by omega) (by omega) (by simpa using h)
    simp only [List.append_assoc, List.singleton_append, List.length_append, List.length_singleton] at h2 h
    rw [w64 (x := (pre.length : Int) + 1) (by omega) (by simp at h; omega), w64 (x := m + 1) (by omega) (by omega), set_midI _ _ _ _ _ rfl]
    simp only [List.length_cons, iota]
    have e : m + ((post.length + 1 : Nat) : Int) = m + 1 + post.length := by omega
    rw [e]
    simpa using h2
theorem markIntS_ev (l : List Int) (m : Int) (h0 : 0 ≤ m) (h1 : m + l.length ≤ 4611686018427387904) : Ev (fun k => laws_markIntS.f k l m) (m + l.length, iota m l.length) := by
  unfold laws_markIntS.f
  simpa using markIntS_loop l [] m h0 h1 (by simp; omega)
theorem heldIntS_loop (n : Nat) : ∀ (pre : List Int) (m : Int), 0 ≤ m → m + n ≤ 4611686018427387904 → pre.length + n ≤ 4611686018427387904 →
    Ev (fun k => laws_heldIntS.l0 k (pre ++ iota m n) m (pre.length : Int)) (m + n) := by
  induction n with
  | zero =>
    intro pre m _ _ _
    refine evs (fun k => by rw [laws_heldIntS.l0]) ?_
    exact evn (by simp [iota]) (evr (by simp))
  | succ n ih =>
    intro pre m h0 h1 h
    refine evs (fun k => by rw [laws_heldIntS.l0]) ?_
    simp only [iota]
    refine evp (by simp; omega) (evp (by omega) (evp (rd_mid _ _ _) ?_))
    have h2 := ih (pre ++ [m]) (m + 1) (by omega) (by omega) (by simp; omega)
    simp only [List.append_assoc, List.singleton_append, List.length_append, List.length_singleton] at h2
    rw [w64 (x := (pre.length : Int) + 1) (by omega) (by omega), w64 (x := m + 1) (by omega) (by omega)]
    have e : m + ((n + 1 : Nat) : Int) = m + 1 + n := by omega
    rw [e]
    simpa using h2
theorem heldIntS_ev (n : Nat) (m : Int) (h0 : 0 ≤ m) (h1 : m + n ≤ 4611686018427387904) : Ev (fun k => laws_heldIntS.f k (iota m n) m) (m + n) := by
  unfold laws_heldIntS.f
  simpa using heldIntS_loop n [] m h0 h1 (by simp; omega)

theorem pr_both (n most : Int) : ∃ r : List Int × Bool, r.1.length ≤ 100000 ∧ Ev (fun k => spec_ProperRun.f k n most) r ∧ Ev (fun k => impl_ProperRun.f k n most) r := by
  simp only [spec_ProperRun.f, impl_ProperRun.f, spec_dvTerms.f, spec_dvNumber_eq, impl_isDivided_eq, spec_l1In_eq, impl_in_eq, Option.bind_some, decide_eq_true_eq]
  by_cases h : 1 ≤ n ∧ n ≤ 1000000000
  · by_cases h2 : 1 ≤ most ∧ most ≤ 60
    · obtain ⟨r, hr, a, b⟩ := properRun_ev n most h.1 h.2 h2.1 h2.2
      exact ⟨(r.1, true), by simp only; omega, evp h (evp h2 (evb a (Ev.now _))), evp h (evp h2 (evb b (Ev.now _)))⟩
    · exact ⟨([], false), by simp, evp h (evn h2 (Ev.now _)), evp h (evn h2 (Ev.now _))⟩
  · exact ⟨([], false), by simp, evn h (Ev.now _), evn h (Ev.now _)⟩
theorem FnExactProperRun : laws_FnExactProperRun.Pure := by
  intro n most _ _
  obtain ⟨r, hr, hs, hi⟩ := pr_both n most
  refine Ev.rounds (g := fun k => laws_FnExactProperRun.f k n most) ?_
  unfold laws_FnExactProperRun.f
  refine evb hs (evb hi (evb (laws_eqIntS_self _ (by omega)) (evp rfl ?_)))
  refine evs (fun k => by rw [laws_FnExactProperRun.j0]) ?_
  refine evn (by simp) (evb (markIntS_ev _ 1 (by omega) (by omega)) (evb (heldIntS_ev _ 1 (by omega) (by omega)) (evn (by omega) (evp rfl ?_))))
  refine evb hi (evb (laws_eqIntS_self _ (by omega)) (evp rfl ?_))
  refine evs (fun k => by rw [laws_FnExactProperRun.j1]) ?_
  exact evn (by simp) (evb (heldIntS_ev _ 1 (by omega) (by omega)) (evn (by omega) (evp rfl (Ev.now _))))

end Go.Proofs.Ytnhohachlieglaa.Pure
