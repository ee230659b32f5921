/- For all codes: rules make perfect numbers and partners, all pairs are listed, and numbers without sources are those that no run comes to. -/
import Derived.Test.YtiheocddlopfcaaPFnPairsAndPerfectx6
import Derived.Test.YtiheocddlopfcaaWMore
set_option linter.unusedVariables false
set_option linter.unusedSimpArgs false
namespace Go.Proofs.Ytiheocddlopfcaa.Pure
open Go.RowKit Go.Proofs.Ytiheocddlopfcaa.PFnPairsAndPerfect Go.Proofs.YtiheocddlopfcaaW.PrintWords Go.Proofs.YtiheocddlopfcaaW.PrintLast

theorem w64 {x : Int} (h1 : -9223372036854775808 ≤ x) (h2 : x ≤ 9223372036854775807) : wrap64 x = x := by unfold wrap64; omega

theorem w64n (n : Nat) (h : n ≤ 9223372036854775807) : wrap64 (n : Int) = (n : Int) := w64 (by omega) (by omega)

theorem evp {α : Type} {c : Prop} [Decidable c] {a b : Nat → Option α} {r : α} (h : c) (k : Ev a r) : Ev (fun n => if c then a n else b n) r := Ev.congr (fun _ => if_pos h) k
theorem evn {α : Type} {c : Prop} [Decidable c] {a b : Nat → Option α} {r : α} (h : ¬ c) (k : Ev b r) : Ev (fun n => if c then a n else b n) r := Ev.congr (fun _ => if_neg h) k
theorem evr {α : Type} {x r : α} (h : x = r) : Ev (fun _ => some x) r := h ▸ Ev.now x
theorem evb {α β : Type} {g : Nat → Option α} {f : Nat → α → Option β} {a : α} {r : β} (h : Ev g a) (k : Ev (fun n => f n a) r) : Ev (fun n => (g n).bind fun x => f n x) r := Ev.bind h k
theorem evc {α β : Type} {x : Option α} {a : α} {f : Nat → α → Option β} {r : β} (h : x = some a) (k : Ev (fun n => f n a) r) : Ev (fun n => x.bind fun y => f n y) r := by subst h; exact k
theorem evs {α : Type} {g f : Nat → Option α} {r : α} (h : ∀ k, g (k + 1) = f k) (k : Ev f r) : Ev g r := Ev.step h k
theorem evu {α : Type} {g : Nat → Option α} {r s : α} (h : Ev g r) (k : Ev g s) : r = s := by
  obtain ⟨K, h⟩ := h
  obtain ⟨L, k⟩ := k
  have := (h (K + L) (by omega)).symm.trans (k (K + L) (by omega))
  injection this

theorem rd_mid (pre post : List Int) (x : Int) : rd (pre ++ x :: post) (pre.length : Int) = x := by simp [rd]
theorem rd_mid' (pre post : List Int) (x i : Int) (h : i = pre.length) : rd (pre ++ x :: post) i = x := by subst h; exact rd_mid pre post x
theorem set_mid {α : Type} (pre post : List α) (x y : α) : (pre ++ x :: post).set pre.length y = pre ++ y :: post := by simp
theorem set_midI {α : Type} (pre post : List α) (x y : α) (i : Int) (h : i = pre.length) : (pre ++ x :: post).set i.toNat y = pre ++ y :: post := by subst h; simp
theorem rd_nat (xs : List Int) (i : Nat) : rd xs (i : Int) = xs.getD i 0 := by simp [rd]
theorem rd_get (xs : List Int) (i : Nat) (h : i < xs.length) : rd xs (i : Int) = xs[i] := by simp [rd, h]
theorem rd_mem (xs : List Int) (i : Int) (h0 : 0 ≤ i) (h : i < xs.length) : rd xs i ∈ xs := by
  have hi : i.toNat < xs.length := by omega
  simp only [rd, List.getD_eq_getElem?_getD, List.getElem?_eq_getElem hi, Option.getD_some]
  exact List.getElem_mem hi
/-- m, m + 1, .. -/
def iota (m : Int) : Nat → List Int
  | 0 => []
  | n + 1 => m :: iota (m + 1) n
theorem iota_length (m : Int) (n : Nat) : (iota m n).length = n := by induction n generalizing m with
  | zero => rfl
  | succ n ih => simp [iota, ih]
/-- A list is cut in two. -/
theorem cut_at {α : Type} (xs : List α) (i : Nat) (h : i < xs.length) : ∃ pre x post, xs = pre ++ x :: post ∧ pre.length = i := by
  refine ⟨xs.take i, xs[i], xs.drop (i + 1), ?_, by simp; omega⟩
  simp
theorem wf64 {x : Int} (h : (Lit.int .i64 x).wf = true) : -9223372036854775808 ≤ x ∧ x ≤ 9223372036854775807 := by
  have h2 : (decide (IntKind.i64.min ≤ x) && decide (x ≤ IntKind.i64.max)) = true := h
  rw [show IntKind.i64.min = -9223372036854775808 from rfl, show IntKind.i64.max = 9223372036854775807 from rfl] at h2
  simpa using h2

def ic (l : List Nat) : List Int := l.map (fun x : Nat => (x : Int))
theorem ic_nil : ic [] = [] := rfl
theorem ic_cons (x : Nat) (l : List Nat) : ic (x :: l) = (x : Int) :: ic l := rfl
theorem ic_append (l m : List Nat) : ic (l ++ m) = ic l ++ ic m := by simp [ic]
theorem ic_length (l : List Nat) : (ic l).length = l.length := by simp [ic]
theorem ic_drop (l : List Nat) (k : Nat) : (ic l).drop k = ic (l.drop k) := by simp [ic, List.map_drop]
def digs (n b : Nat) : Nat → Nat → List Nat
  | 0, _ => []
  | k + 1, a => a * b / n :: digs n b k (a * b % n)
theorem digs_length (n b k : Nat) : ∀ a, (digs n b k a).length = k := by
  induction k with
  | zero => intro a; rfl
  | succ k ih => intro a; simp [digs, ih]

def IsPr (p : Nat) : Prop := 2 ≤ p ∧ ∀ d, 2 ≤ d → d < p → ¬ d ∣ p
def lprod : List Nat → Nat
  | [] => 1
  | x :: l => x * lprod l
theorem lprod_pos {l : List Nat} (h : ∀ q ∈ l, 0 < q) : 0 < lprod l := by
  induction l with
  | nil => decide
  | cons x l ih => exact Nat.mul_pos (h x (by simp)) (ih (fun q hq => h q (by simp [hq])))
/-- L: the prime factors of n, not falling, none less than p. -/
def Fac (L : List Nat) (n p : Nat) : Prop := (∀ q ∈ L, IsPr q ∧ p ≤ q) ∧ lprod L = n ∧ L.Pairwise (· ≤ ·)
theorem sq_lt {a b : Nat} (h : a * a ≤ b * b) : a ≤ b := by
  by_cases hc : a ≤ b
  · exact hc
  · have : b * b < a * a := Nat.mul_lt_mul_of_lt_of_le (by omega) (by omega) (by omega)
    omega
theorem prime_of_big {n p : Nat} (hn : 1 < n) (hd : ∀ d, 2 ≤ d → d < p → ¬ d ∣ n) (hp : n < p * p) : IsPr n := by
  refine ⟨hn, fun d h2 h3 hdv => ?_⟩
  have h4 : p ≤ d := by
    by_cases h : p ≤ d
    · exact h
    · exact absurd hdv (hd d h2 (by omega))
  obtain ⟨e, he⟩ := hdv
  have h5 : 2 ≤ e := by
    rcases e with _ | _ | e
    · omega
    · omega
    · omega
  have h6 : p ≤ e := by
    by_cases h : p ≤ e
    · exact h
    · exact absurd ⟨d, by rw [he, Nat.mul_comm]⟩ (hd e h5 (by omega))
  have : p * p ≤ d * e := Nat.mul_le_mul h4 h6
  omega

/-- Within a stretch of p: its power, how many, and the sum of its powers. -/
def dvS : List Nat → Nat → Nat → Nat → Nat → Nat → Nat → Nat × Nat
  | [], sum, many, _, _, k, part => (sum * part, many * (k + 1))
  | q :: L, sum, many, p, power, k, part => if q = p then dvS L sum many p (power * p) (k + 1) (part + power * p) else dvS L (sum * part) (many * (k + 1)) q q 1 (1 + q)
def dvL : List Nat → Nat × Nat
  | [] => (1, 1)
  | q :: L => dvS L 1 1 q q 1 (1 + q)
/-- The bounds that hold within a stretch. -/
def DvB (D sum many p power k part R : Nat) : Prop := 1 ≤ sum ∧ sum ≤ D * D ∧ 1 ≤ many ∧ many ≤ D ∧ 2 ≤ p ∧ p ≤ power ∧ 1 ≤ k ∧ k + 1 ≤ power ∧ 1 ≤ part ∧ part + 1 ≤ 2 * power ∧ D * power * R ≤ 1000000000 ∧ 1 ≤ R
theorem DvB.D1 {D sum many p power k part R : Nat} (h : DvB D sum many p power k part R) : 1 ≤ D := by
  obtain ⟨_, _, h3, h4, _⟩ := h
  omega
theorem DvB.fits {D sum many p power k part R : Nat} (h : DvB D sum many p power k part R) : D * power ≤ 1000000000 ∧ power ≤ 1000000000 ∧ D ≤ 1000000000 ∧ sum * part ≤ (D * power) * (D * power) ∧ many * (k + 1) ≤ D * power ∧ sum * part ≤ 1000000000000000000 ∧ sum ≤ 1000000000000000000 := by
  have hD := h.D1
  obtain ⟨h1, h2, h3, h4, h5, h6, h7, h8, h9, h10, h11, h12⟩ := h
  have a1 : D * power * 1 ≤ D * power * R := Nat.mul_le_mul_left _ h12
  have a2 : 1 * power ≤ D * power := Nat.mul_le_mul_right _ hD
  have a3 : D * 1 ≤ D * power := Nat.mul_le_mul_left _ (by omega)
  have a4 : 2 * power ≤ power * power := Nat.mul_le_mul_right _ (by omega)
  have a5 : sum * part ≤ (D * D) * (power * power) := Nat.mul_le_mul h2 (by omega)
  have a6 : (D * D) * (power * power) = (D * power) * (D * power) := by
    rw [Nat.mul_mul_mul_comm]
  have a7 : many * (k + 1) ≤ D * power := Nat.mul_le_mul h4 h8
  have a8 : (D * power) * (D * power) ≤ 1000000000 * 1000000000 := Nat.mul_le_mul (by omega) (by omega)
  have a9 : D * D ≤ 1000000000 * 1000000000 := Nat.mul_le_mul (by omega) (by omega)
  omega
theorem DvB.same {D sum many p power k part R : Nat} (h : DvB D sum many p power k part (p * R)) : DvB D sum many p (power * p) (k + 1) (part + power * p) R := by
  obtain ⟨h1, h2, h3, h4, h5, h6, h7, h8, h9, h10, h11, h12⟩ := h
  have a1 : power * 2 ≤ power * p := Nat.mul_le_mul_left _ h5
  have hR : 1 ≤ R := by
    rcases R with _ | R
    · simp at h12
    · omega
  refine ⟨h1, h2, h3, h4, h5, by omega, by omega, by omega, by omega, by omega, ?_, hR⟩
  rw [← Nat.mul_assoc] at h11
  rw [← Nat.mul_assoc]
  exact h11
theorem DvB.next {D sum many p power k part q R : Nat} (h : DvB D sum many p power k part (q * R)) (hq : 2 ≤ q) : DvB (D * power) (sum * part) (many * (k + 1)) q q 1 (1 + q) R := by
  have hf := h.fits
  obtain ⟨h1, h2, h3, h4, h5, h6, h7, h8, h9, h10, h11, h12⟩ := h
  have hR : 1 ≤ R := by
    rcases R with _ | R
    · simp at h12
    · omega
  have b1 : 1 * 1 ≤ sum * part := Nat.mul_le_mul h1 h9
  have b2 : 1 * 1 ≤ many * (k + 1) := Nat.mul_le_mul h3 (by omega)
  refine ⟨by omega, hf.2.2.2.1, by omega, hf.2.2.2.2.1, hq, Nat.le_refl _, by omega, by omega, by omega, by omega, ?_, hR⟩
  rw [← Nat.mul_assoc] at h11
  exact h11
theorem DvB.first {q R : Nat} (hq : 2 ≤ q) (hR : 1 ≤ R) (h : q * R ≤ 1000000000) : DvB 1 1 1 q q 1 (1 + q) R := ⟨by omega, by omega, by omega, by omega, hq, Nat.le_refl _, by omega, by omega, by omega, by omega, by rw [Nat.one_mul]; exact h, hR⟩

theorem impl_in_eq (a b c : Int) : impl_in.f a b c = some (decide (b ≤ a ∧ a ≤ c)) := by
  unfold impl_in.f
  by_cases h : b ≤ a <;> simp [h]
theorem spec_l1In_eq (a b c : Int) : spec_l1In.f a b c = some (decide (b ≤ a ∧ a ≤ c)) := by
  unfold spec_l1In.f
  by_cases h : b ≤ a <;> simp [h]

theorem pigeon (n : Nat) : ∀ f : Nat → Nat, (∀ i, i ≤ n → f i < n) → ∃ i j, i < j ∧ j ≤ n ∧ f i = f j := by
  induction n with
  | zero => intro f h; exact absurd (h 0 (Nat.le_refl _)) (by omega)
  | succ n ih =>
    intro f h
    by_cases hc : ∃ i, i ≤ n ∧ f i = f (n + 1)
    · obtain ⟨i, hi, he⟩ := hc
      exact ⟨i, n + 1, by omega, Nat.le_refl _, he⟩
    · have hv := h (n + 1) (Nat.le_refl _)
      have hne : ∀ i, i ≤ n → f i ≠ f (n + 1) := fun i hi he => hc ⟨i, hi, he⟩
      obtain ⟨i, j, hij, hj, he⟩ := ih (fun i => if f i = n then f (n + 1) else f i) (fun i hi => by
        have h1 := h i (by omega)
        have h2 := hne i hi
        show (if f i = n then f (n + 1) else f i) < n
        split <;> omega)
      refine ⟨i, j, hij, by omega, ?_⟩
      have h1 := hne i (by omega)
      have h2 := hne j hj
      (try simp only at he)
      split at he <;> split at he <;> omega
theorem least_of {P : Nat → Prop} (h : ∃ k, P k) : ∃ k, P k ∧ ∀ j, j < k → ¬ P j := by
  obtain ⟨k, hk⟩ := h
  induction k using Nat.strongRecOn with
  | _ k ih =>
    by_cases hc : ∃ j, j < k ∧ P j
    · obtain ⟨j, hj, hp⟩ := hc
      exact ih j hj hp
    · exact ⟨k, hk, fun j hj hp => hc ⟨j, hj, hp⟩⟩
theorem mod_of_dvd_sub {a n : Nat} (h1 : 1 ≤ a) (h : n ∣ a - 1) : a % n = 1 % n := by
  obtain ⟨q, hq⟩ := h
  have : a = n * q + 1 := by omega
  rw [this, Nat.mul_add_mod]
theorem pow_back (b n : Nat) (hb : 0 < b) (hn : 0 < n) (hc : Nat.Coprime n b) : ∃ k, 1 ≤ k ∧ k ≤ n ∧ b ^ k % n = 1 % n := by
  obtain ⟨i, j, hij, hj, he⟩ := pigeon n (fun i => b ^ i % n) (fun i _ => Nat.mod_lt _ hn)
  refine ⟨j - i, by omega, by omega, mod_of_dvd_sub (Nat.pow_pos hb) ?_⟩
  have h1 := Nat.sub_mod_eq_zero_of_mod_eq he.symm
  have h2 := Nat.dvd_of_mod_eq_zero h1
  have h3 : b ^ j - b ^ i = b ^ i * (b ^ (j - i) - 1) := by
    rw [Nat.mul_sub, ← Nat.pow_add, Nat.mul_one]
    congr 2
    omega
  rw [h3] at h2
  exact Nat.Coprime.dvd_of_dvd_mul_left (Nat.Coprime.pow_right _ hc) h2
theorem tmod_cast (a b : Nat) : Int.tmod (a : Int) (b : Int) = ((a % b : Nat) : Int) := (Int.ofNat_tmod a b).symm
theorem tdiv_cast (a b : Nat) : Int.tdiv (a : Int) (b : Int) = ((a / b : Nat) : Int) := (Int.ofNat_tdiv a b).symm
theorem natOf {a : Int} (h : 0 ≤ a) : ∃ n : Nat, a = (n : Int) := ⟨a.toNat, by omega⟩

theorem dvFactors_l1 (M : Nat) : ∀ (n p : Nat) (out : List Int), 1 ≤ n → n ≤ 1000000000 → 2 ≤ p → p ≤ 31623 → out.length + n ≤ 2000000000 → (∀ d, 2 ≤ d → d < p → ¬ d ∣ n) → n + (40000 - p) ≤ M →
    ∃ L, Fac L n p ∧ Ev (fun k => spec_dvFactors.l1 k (n : Int) out (p : Int)) (out ++ ic L) := by
  induction M with
  | zero => intro n p out h1 h2 h3 h4 h5 h6 h7; omega
  | succ M ih =>
    intro n p out h1 h2 h3 h4 h5 h6 h7
    by_cases hd : n % p = 0
    · obtain ⟨m, rfl⟩ := Nat.dvd_of_mod_eq_zero hd
      have hm : 1 ≤ m := by
        rcases m with _ | m
        · omega
        · omega
      have hm2 : 2 * m ≤ p * m := Nat.mul_le_mul_right m h3
      have h9' : m + (40000 - p) ≤ M := by omega
      obtain ⟨L, ⟨hL1, hL2, hL3⟩, hev⟩ := ih m p (out ++ [(p : Int)]) hm (by omega) h3 h4 (by simp; omega) (fun d h8 h9 h10 => h6 d h8 h9 (Nat.dvd_trans h10 (Nat.dvd_mul_left m p))) h9'
      refine ⟨p :: L, ⟨fun q hq => ?_, by simp [lprod, hL2], List.pairwise_cons.2 ⟨fun q hq => (hL1 q hq).2, hL3⟩⟩, ?_⟩
      · rcases List.mem_cons.1 hq with rfl | hq
        · exact ⟨⟨h3, fun d h8 h9 h10 => h6 d h8 h9 (Nat.dvd_trans h10 (Nat.dvd_mul_right _ m))⟩, Nat.le_refl _⟩
        · exact hL1 q hq
      · refine evs (fun k => by rw [spec_dvFactors.l1]) ?_
        rw [tmod_cast, tdiv_cast, hd]
        refine evn (by omega) (evp (by simp) (evp (by omega) ?_))
        rw [Nat.mul_div_cancel_left m (by omega : 0 < p), w64 (by omega) (by omega)]
        simpa [ic_cons] using hev
    · have hdv : ¬ p ∣ n := fun h => hd (Nat.mod_eq_zero_of_dvd h)
      have h6' : ∀ d, 2 ≤ d → d < p + 1 → ¬ d ∣ n := by
        intro d h8 h9 h10
        by_cases he : d = p
        · subst he; exact hdv h10
        · exact h6 d h8 (by omega) h10
      have hsq : ((p + 1 : Nat) : Int) * ((p + 1 : Nat) : Int) = (((p + 1) * (p + 1) : Nat) : Int) := by simp
      have hb : (p + 1) * (p + 1) ≤ 31624 * 31624 := Nat.mul_le_mul (by omega) (by omega)
      have key : ∃ L, Fac L n (p + 1) ∧ Ev (fun k => spec_dvFactors.l0 k (n : Int) out ((p + 1 : Nat) : Int)) (out ++ ic L) := by
        by_cases hc : (p + 1) * (p + 1) ≤ n
        · have hp : p + 1 ≤ 31623 := by
            by_cases h : p + 1 ≤ 31623
            · exact h
            · have : 31624 * 31624 ≤ (p + 1) * (p + 1) := Nat.mul_le_mul (by omega) (by omega)
              omega
          obtain ⟨L, hL, hev⟩ := ih n (p + 1) out h1 h2 (by omega) hp h5 h6' (by omega)
          refine ⟨L, hL, evs (fun k => by rw [spec_dvFactors.l0]) ?_⟩
          rw [hsq, w64 (by omega) (by omega)]
          exact evp (by omega) hev
        · by_cases hn : 1 < n
          · refine ⟨[n], ⟨fun q hq => ?_, by simp [lprod], by simp⟩, evs (fun k => by rw [spec_dvFactors.l0]) ?_⟩
            · rw [List.mem_singleton.1 hq]
              have hpr := prime_of_big hn h6' (by omega)
              refine ⟨hpr, ?_⟩
              by_cases h : p + 1 ≤ n
              · exact h
              · exact absurd (Nat.dvd_refl n) (h6' n (by omega) (by omega))
            · rw [hsq, w64 (by omega) (by omega)]
              exact evn (by omega) (evp (by omega) (evp (by omega) (evr (by simp [ic]))))
          · obtain rfl : n = 1 := by omega
            refine ⟨[], ⟨by simp, by simp [lprod], by simp⟩, evs (fun k => by rw [spec_dvFactors.l0]) ?_⟩
            rw [hsq, w64 (by omega) (by omega)]
            exact evn (by omega) (evn (by omega) (evr (by simp [ic])))
      obtain ⟨L, ⟨hL1, hL2, hL3⟩, hev⟩ := key
      refine ⟨L, ⟨fun q hq => ⟨(hL1 q hq).1, by have := (hL1 q hq).2; omega⟩, hL2, hL3⟩, evs (fun k => by rw [spec_dvFactors.l1]) ?_⟩
      rw [tmod_cast]
      refine evn (by omega) (evn (by omega) ?_)
      rw [w64 (by omega) (by omega)]
      exact hev
theorem dvFactors_ev (n : Nat) (h1 : 1 ≤ n) (h2 : n ≤ 1000000000) : ∃ L, Fac L n 2 ∧ Ev (fun k => spec_dvFactors.f k (n : Int)) (ic L) := by
  unfold spec_dvFactors.f
  by_cases hc : 4 ≤ n
  · obtain ⟨M, hM⟩ : ∃ M, n + (40000 - 2) ≤ M := ⟨_, Nat.le_refl _⟩
    obtain ⟨L, hL, hev⟩ := dvFactors_l1 M n 2 [] h1 h2 (by omega) (by omega) (by simp; omega) (fun d h8 h9 => by omega) hM
    refine ⟨L, hL, evs (fun k => by rw [spec_dvFactors.l0]) ?_⟩
    rw [w64 (by omega) (by omega)]
    exact evp (by omega) (by simpa using hev)
  · by_cases hn : 1 < n
    · refine ⟨[n], ⟨fun q hq => ?_, by simp [lprod], by simp⟩, evs (fun k => by rw [spec_dvFactors.l0]) ?_⟩
      · rw [List.mem_singleton.1 hq]
        exact ⟨prime_of_big (p := 2) hn (fun d h8 h9 => by omega) (by omega), by omega⟩
      · rw [w64 (by omega) (by omega)]
        exact evn (by omega) (evp (by omega) (evp (by simp) (evr (by simp [ic]))))
    · obtain rfl : n = 1 := by omega
      refine ⟨[], ⟨by simp, by simp [lprod], by simp⟩, evs (fun k => by rw [spec_dvFactors.l0]) ?_⟩
      rw [w64 (by omega) (by omega)]
      exact evn (by omega) (evn (by omega) (evr (by simp [ic])))
theorem factors_same_loop : ∀ (k : Nat), (∀ (a : Int) (b : List Int) (c : Int), impl_factors.l0 k a b c = spec_dvFactors.l0 k a b c) ∧ (∀ (a : Int) (b : List Int) (c : Int), impl_factors.l1 k a b c = spec_dvFactors.l1 k a b c)
  | 0 => ⟨fun _ _ _ => rfl, fun _ _ _ => rfl⟩
  | k + 1 => ⟨fun a b c => by simp only [impl_factors.l0, spec_dvFactors.l0, factors_same_loop k], fun a b c => by simp only [impl_factors.l1, spec_dvFactors.l1, factors_same_loop k]⟩
theorem factors_same (k : Nat) (a : Int) : impl_factors.f k a = spec_dvFactors.f k a := by simp only [impl_factors.f, spec_dvFactors.f, factors_same_loop]
theorem factors_ev {n : Nat} {L : List Nat} (h : Ev (fun k => spec_dvFactors.f k (n : Int)) (ic L)) : Ev (fun k => impl_factors.f k (n : Int)) (ic L) := by simpa only [factors_same] using h

theorem dvPrime_ev (n : Int) (h2 : n ≤ 1000000000) : ∃ t : Bool, Ev (fun k => spec_dvPrime.f k n) t ∧ Ev (fun k => impl_isPrime.f k n) t ∧ (t = true → 2 ≤ n ∧ IsPr n.toNat) := by
  by_cases h : n > 1
  · obtain ⟨n, rfl⟩ := natOf (a := n) (by omega)
    obtain ⟨L, hL, hev⟩ := dvFactors_ev n (by omega) (by omega)
    refine ⟨(((ic L).length : Int) == 1), evp h (evb hev (Ev.now _)), evp h (evb (factors_ev hev) (Ev.now _)), fun ht => ?_⟩
    have hl : L.length = 1 := by
      simp only [ic_length, beq_iff_eq] at ht
      omega
    obtain ⟨q, rfl⟩ := List.length_eq_one_iff.1 hl
    have hq := hL.2.1
    simp only [lprod, Nat.mul_one] at hq
    subst hq
    exact ⟨by omega, by simpa using (hL.1 q (by simp)).1⟩
  · exact ⟨false, evn h (Ev.now _), evn h (Ev.now _), fun h => by simp at h⟩

theorem spec_dvNumber_eq (n : Int) : spec_dvNumber.f n = some (decide (1 ≤ n ∧ n ≤ 1000000000)) := by simp only [spec_dvNumber.f, spec_l1In_eq, Option.bind_some]
theorem impl_isDivided_eq (n : Int) : impl_isDivided.f n = some (decide (1 ≤ n ∧ n ≤ 1000000000)) := by simp only [impl_isDivided.f, impl_in_eq, Option.bind_some]

theorem dvSums_loop (whole : List Int) (L : List Nat) : ∀ (pre : List Int) (D sum many p power k part : Nat), whole = pre ++ ic L → whole.length ≤ 1000000000000 → (∀ q ∈ L, 2 ≤ q) → DvB D sum many p power k part (lprod L) →
    Ev (fun f => spec_dvSums.l1 f (sum : Int) (many : Int) whole (pre.length : Int) (p : Int) (power : Int) (k : Int) (part : Int)) (((dvS L sum many p power k part).1 : Int), ((dvS L sum many p power k part).2 : Int)) := by
  induction L with
  | nil =>
    intro pre D sum many p power k part hw hlen hq hB
    have hf := hB.fits
    obtain ⟨h1, h2, h3, h4, h5, h6, h7, h8, h9, h10, h11, h12⟩ := hB
    have hl : whole.length = pre.length := by simp [hw, ic]
    have e1 : (sum : Int) * (part : Int) = ((sum * part : Nat) : Int) := by simp
    have e2 : (many : Int) * (((k + 1 : Nat)) : Int) = ((many * (k + 1) : Nat) : Int) := by simp
    have e3 : (k : Int) + 1 = ((k + 1 : Nat) : Int) := by simp
    refine evs (fun k => by rw [spec_dvSums.l1]) ?_
    rw [w64 (x := (k : Int) + 1) (by omega) (by omega), e3, e1, e2, w64n (sum * part) (by omega), w64n (many * (k + 1)) (by omega)]
    refine evn (by omega) (evs (fun k => by rw [spec_dvSums.l0]) ?_)
    exact evn (by omega) (evr rfl)
  | cons q L ih =>
    intro pre D sum many p power k part hw hlen hq hB
    have hf := hB.fits
    have hB0 := hB
    obtain ⟨h1, h2, h3, h4, h5, h6, h7, h8, h9, h10, h11, h12⟩ := hB
    rw [ic_cons] at hw
    have hl : whole.length = pre.length + (L.length + 1) := by simp [hw, ic]
    have hx : rd whole (pre.length : Int) = (q : Int) := by rw [hw, rd_mid]
    have hw2 : whole = (pre ++ [(q : Int)]) ++ ic L := by simp [hw]
    have hq2 := hq q (by simp)
    have hqL : ∀ x ∈ L, 2 ≤ x := fun x hx => hq x (by simp [hx])
    refine evs (fun k => by rw [spec_dvSums.l1]) ?_
    rw [hx]
    refine evp (by omega) (evp (by omega) ?_)
    by_cases hqp : q = p
    · subst hqp
      have hB2 := DvB.same hB0
      have hf2 := hB2.fits
      have e1 : (power : Int) * (q : Int) = ((power * q : Nat) : Int) := by simp
      have e2 : (part : Int) + ((power * q : Nat) : Int) = ((part + power * q : Nat) : Int) := by simp
      have e3 : (k : Int) + 1 = ((k + 1 : Nat) : Int) := by simp
      refine evp rfl ?_
      rw [e1, w64 (x := ((power * q : Nat) : Int)) (by omega) (by omega), e2, w64 (x := ((part + power * q : Nat) : Int)) (by omega) (by omega), w64 (x := (k : Int) + 1) (by omega) (by omega), w64 (x := (pre.length : Int) + 1) (by omega) (by omega), e3]
      have h := ih (pre ++ [(q : Int)]) D sum many q (power * q) (k + 1) (part + power * q) hw2 hlen hqL hB2
      simpa [dvS] using h
    · have hB2 := DvB.next hB0 hq2
      have hf2 := hB2.fits
      have e1 : (sum : Int) * (part : Int) = ((sum * part : Nat) : Int) := by simp
      have e2 : (many : Int) * (((k + 1 : Nat)) : Int) = ((many * (k + 1) : Nat) : Int) := by simp
      have e3 : (k : Int) + 1 = ((k + 1 : Nat) : Int) := by simp
      refine evn (by omega) ?_
      rw [w64 (x := (k : Int) + 1) (by omega) (by omega), e3, e1, e2, w64n (sum * part) (by omega), w64n (many * (k + 1)) (by omega)]
      refine evs (fun k => by rw [spec_dvSums.l0]) ?_
      refine evp (by omega) (evp (by omega) ?_)
      rw [hx]
      refine evs (fun k => by rw [spec_dvSums.l1]) ?_
      rw [hx]
      refine evp (by omega) (evp (by omega) (evp rfl ?_))
      rw [Int.one_mul, w64 (x := (q : Int)) (by omega) (by omega), w64 (x := (pre.length : Int) + 1) (by omega) (by omega), w64 (x := (0 : Int) + 1) (by omega) (by omega), w64 (x := (1 : Int) + (q : Int)) (by omega) (by omega)]
      have h := ih (pre ++ [(q : Int)]) (D * power) (sum * part) (many * (k + 1)) q q 1 (1 + q) hw2 hlen hqL hB2
      simpa [dvS, hqp] using h
theorem dvSums_run (L : List Nat) (hlen : L.length ≤ 1000000000000) (hq : ∀ q ∈ L, 2 ≤ q) (hn : lprod L ≤ 1000000000) :
    Ev (fun f => spec_dvSums.l0 f 1 1 (ic L) 0) (((dvL L).1 : Int), ((dvL L).2 : Int)) := by
  cases L with
  | nil =>
    refine evs (fun k => by rw [spec_dvSums.l0]) ?_
    exact evn (by simp [ic]) (evr rfl)
  | cons q L =>
    have hq2 := hq q (by simp)
    have hqL : ∀ x ∈ L, 2 ≤ x := fun x hx => hq x (by simp [hx])
    have hR := lprod_pos (l := L) (fun x hx => by have := hqL x hx; omega)
    have hB := DvB.first hq2 hR hn
    have hf := hB.fits
    have hx : rd (ic (q :: L)) 0 = (q : Int) := by simp [ic, rd]
    have hl : (ic (q :: L)).length = L.length + 1 := by simp [ic]
    refine evs (fun k => by rw [spec_dvSums.l0]) ?_
    refine evp (by omega) (evp (by omega) (evs (fun k => by rw [spec_dvSums.l1]) ?_))
    rw [hx]
    refine evp (by omega) (evp (by omega) (evp rfl ?_))
    rw [Int.one_mul, w64 (x := (q : Int)) (by omega) (by omega), w64 (x := (0 : Int) + 1) (by omega) (by omega), w64 (x := (1 : Int) + (q : Int)) (by omega) (by omega)]
    have h := dvSums_loop (ic (q :: L)) L [(q : Int)] 1 1 1 q q 1 (1 + q) rfl (by simp only [List.length_cons] at hlen; omega) hqL hB
    simpa [dvL] using h
theorem divisors_loop (L : List Nat) : ∀ (D sum many p power k part : Nat), L.length ≤ 1000000000000 → (∀ q ∈ L, 2 ≤ q) → part * p + 1 = part + power * p → DvB D sum many p power k part (lprod L) →
    Ev (fun f => impl_divisors.l1 f (sum : Int) (many : Int) (ic L) (part : Int) (k : Int) (p : Int)) (((dvS L sum many p power k part).1 : Int), ((dvS L sum many p power k part).2 : Int)) := by
  induction L with
  | nil =>
    intro D sum many p power k part hlen hq hP hB
    have hf := hB.fits
    obtain ⟨h1, h2, h3, h4, h5, h6, h7, h8, h9, h10, h11, h12⟩ := hB
    have e1 : (sum : Int) * (part : Int) = ((sum * part : Nat) : Int) := by simp
    have e2 : (many : Int) * (((k + 1 : Nat)) : Int) = ((many * (k + 1) : Nat) : Int) := by simp
    have e3 : (k : Int) + 1 = ((k + 1 : Nat) : Int) := by simp
    refine evs (fun k => by rw [impl_divisors.l1]) ?_
    rw [w64 (x := (k : Int) + 1) (by omega) (by omega), e3, e1, e2, w64n (sum * part) (by omega), w64n (many * (k + 1)) (by omega)]
    refine evn (by simp [ic]) (evs (fun k => by rw [impl_divisors.l0]) ?_)
    exact evn (by simp [ic]) (evr rfl)
  | cons q L ih =>
    intro D sum many p power k part hlen hq hP hB
    have hf := hB.fits
    have hB0 := hB
    obtain ⟨h1, h2, h3, h4, h5, h6, h7, h8, h9, h10, h11, h12⟩ := hB
    have hx : rd (ic (q :: L)) 0 = (q : Int) := by simp [ic, rd]
    have hl : (ic (q :: L)).length = L.length + 1 := by simp [ic]
    have hdr : (ic (q :: L)).drop (1 : Int).toNat = ic L := by simp [ic]
    have hq2 := hq q (by simp)
    have hqL : ∀ x ∈ L, 2 ≤ x := fun x hx => hq x (by simp [hx])
    simp only [List.length_cons] at hlen
    refine evs (fun k => by rw [impl_divisors.l1]) ?_
    rw [hx, hdr]
    refine evp (by omega) (evp (by omega) ?_)
    by_cases hqp : q = p
    · subst hqp
      have hB2 := DvB.same hB0
      have hf2 := hB2.fits
      have e1 : (part : Int) * (q : Int) = ((part * q : Nat) : Int) := by simp
      have e2 : ((part * q : Nat) : Int) + 1 = ((part + power * q : Nat) : Int) := by rw [← hP]; simp
      have e3 : (k : Int) + 1 = ((k + 1 : Nat) : Int) := by simp
      refine evp rfl (evp (by omega) ?_)
      obtain ⟨g1, g2, g3, g4, g5, g6, g7, g8, g9, g10, g11, g12⟩ := hB2
      rw [e1, w64 (x := ((part * q : Nat) : Int)) (by omega) (by omega), e2, w64 (x := ((part + power * q : Nat) : Int)) (by omega) (by omega), w64 (x := (k : Int) + 1) (by omega) (by omega), e3]
      have hP2 : (part + power * q) * q + 1 = (part + power * q) + power * q * q := by
        rw [Nat.add_mul]
        omega
      have h := ih D sum many q (power * q) (k + 1) (part + power * q) (by omega) hqL hP2 (DvB.same hB0)
      simpa [dvS] using h
    · have hB2 := DvB.next hB0 hq2
      have hf2 := hB2.fits
      have e1 : (sum : Int) * (part : Int) = ((sum * part : Nat) : Int) := by simp
      have e2 : (many : Int) * (((k + 1 : Nat)) : Int) = ((many * (k + 1) : Nat) : Int) := by simp
      have e3 : (k : Int) + 1 = ((k + 1 : Nat) : Int) := by simp
      refine evn (by omega) ?_
      rw [w64 (x := (k : Int) + 1) (by omega) (by omega), e3, e1, e2, w64n (sum * part) (by omega), w64n (many * (k + 1)) (by omega)]
      refine evs (fun k => by rw [impl_divisors.l0]) ?_
      refine evp (by omega) (evp (by omega) ?_)
      rw [hx]
      refine evs (fun k => by rw [impl_divisors.l1]) ?_
      rw [hx, hdr]
      refine evp (by omega) (evp (by omega) (evp rfl (evp (by omega) ?_)))
      rw [Int.one_mul, w64 (x := (q : Int)) (by omega) (by omega), w64 (x := (0 : Int) + 1) (by omega) (by omega), w64 (x := (q : Int) + 1) (by omega) (by omega)]
      have h := ih (D * power) (sum * part) (many * (k + 1)) q q 1 (1 + q) (by omega) hqL (by rw [Nat.add_mul]; omega) hB2
      have e4 : (((1 + q : Nat)) : Int) = (q : Int) + 1 := by omega
      rw [e4] at h
      simpa [dvS, hqp] using h
theorem divisors_run (L : List Nat) (hlen : L.length ≤ 1000000000000) (hq : ∀ q ∈ L, 2 ≤ q) (hn : lprod L ≤ 1000000000) :
    Ev (fun f => impl_divisors.l0 f 1 1 (ic L)) (((dvL L).1 : Int), ((dvL L).2 : Int)) := by
  cases L with
  | nil =>
    refine evs (fun k => by rw [impl_divisors.l0]) ?_
    exact evn (by simp [ic]) (evr rfl)
  | cons q L =>
    have hq2 := hq q (by simp)
    have hqL : ∀ x ∈ L, 2 ≤ x := fun x hx => hq x (by simp [hx])
    have hR := lprod_pos (l := L) (fun x hx => by have := hqL x hx; omega)
    have hB := DvB.first hq2 hR hn
    have hf := hB.fits
    have hx : rd (ic (q :: L)) 0 = (q : Int) := by simp [ic, rd]
    have hl : (ic (q :: L)).length = L.length + 1 := by simp [ic]
    have hdr : (ic (q :: L)).drop (1 : Int).toNat = ic L := by simp [ic]
    simp only [List.length_cons] at hlen
    refine evs (fun k => by rw [impl_divisors.l0]) ?_
    refine evp (by omega) (evp (by omega) (evs (fun k => by rw [impl_divisors.l1]) ?_))
    rw [hx, hdr]
    refine evp (by omega) (evp (by omega) (evp rfl (evp (by omega) ?_)))
    rw [Int.one_mul, w64 (x := (q : Int)) (by omega) (by omega), w64 (x := (0 : Int) + 1) (by omega) (by omega), w64 (x := (q : Int) + 1) (by omega) (by omega)]
    have h := divisors_loop L 1 1 1 q q 1 (1 + q) (by omega) hqL (by rw [Nat.add_mul]; omega) hB
    have e4 : (((1 + q : Nat)) : Int) = (q : Int) + 1 := by omega
    rw [e4] at h
    simpa [dvL] using h
theorem two_pow_le_lprod (L : List Nat) (hq : ∀ q ∈ L, 2 ≤ q) : L.length + 1 ≤ lprod L := by
  induction L with
  | nil => decide
  | cons q L ih =>
    have h1 := hq q (by simp)
    have h2 := ih (fun x hx => hq x (by simp [hx]))
    have h3 : 2 * lprod L ≤ q * lprod L := Nat.mul_le_mul_right _ h1
    simp only [List.length_cons, lprod]
    omega
/-- Both sums and numbers of divisors. -/
theorem dv_ev (n : Nat) (h1 : 1 ≤ n) (h2 : n ≤ 1000000000) : ∃ L, Fac L n 2 ∧ Ev (fun k => spec_dvFactors.f k (n : Int)) (ic L) ∧
    Ev (fun k => spec_dvSums.f k (n : Int)) (((dvL L).1 : Int), ((dvL L).2 : Int)) ∧ Ev (fun k => impl_divisors.f k (n : Int)) (((dvL L).1 : Int), ((dvL L).2 : Int)) := by
  obtain ⟨L, hL, hev⟩ := dvFactors_ev n h1 h2
  have hq : ∀ q ∈ L, 2 ≤ q := fun q hq => (hL.1 q hq).2
  have hlen := two_pow_le_lprod L hq
  rw [hL.2.1] at hlen
  exact ⟨L, hL, hev, evb hev (dvSums_run L (by omega) hq (by rw [hL.2.1]; exact h2)), evb (factors_ev hev) (divisors_run L (by omega) hq (by rw [hL.2.1]; exact h2))⟩

theorem dvS_bound (L : List Nat) : ∀ (D sum many p power k part : Nat), (∀ q ∈ L, 2 ≤ q) → DvB D sum many p power k part (lprod L) → 1 ≤ (dvS L sum many p power k part).1 ∧ (dvS L sum many p power k part).1 ≤ 1000000000000000000 := by
  induction L with
  | nil =>
    intro D sum many p power k part hq hB
    have hf := hB.fits
    obtain ⟨h1, h2, h3, h4, h5, h6, h7, h8, h9, h10, h11, h12⟩ := hB
    have b1 : 1 * 1 ≤ sum * part := Nat.mul_le_mul h1 h9
    simp only [dvS]
    omega
  | cons q L ih =>
    intro D sum many p power k part hq hB
    have hqL : ∀ x ∈ L, 2 ≤ x := fun x hx => hq x (by simp [hx])
    by_cases hqp : q = p
    · subst hqp
      simp only [dvS, if_true]
      exact ih _ _ _ _ _ _ _ hqL (DvB.same hB)
    · simp only [dvS, if_neg hqp]
      exact ih _ _ _ _ _ _ _ hqL (DvB.next hB (hq q (by simp)))
theorem dvL_bound (L : List Nat) (hq : ∀ q ∈ L, 2 ≤ q) (hn : lprod L ≤ 1000000000) : 1 ≤ (dvL L).1 ∧ (dvL L).1 ≤ 1000000000000000000 := by
  cases L with
  | nil => simp [dvL]
  | cons q L =>
    have hqL : ∀ x ∈ L, 2 ≤ x := fun x hx => hq x (by simp [hx])
    exact dvS_bound L _ _ _ _ _ _ _ hqL (DvB.first (hq q (by simp)) (lprod_pos (fun x hx => by have := hqL x hx; omega)) hn)
theorem proper_ev (n : Int) (h1 : 1 ≤ n) (h2 : n ≤ 1000000000) : ∃ s : Int, 1 - n ≤ s ∧ s ≤ 1000000000000000000 ∧ Ev (fun k => spec_dvProper.f k n) s ∧ Ev (fun k => impl_proper.f k n) s := by
  obtain ⟨n, rfl⟩ := natOf (a := n) (by omega)
  obtain ⟨L, hL, _, hs, hi⟩ := dv_ev n (by omega) (by omega)
  have hb := dvL_bound L (fun q hq => (hL.1 q hq).2) (by rw [hL.2.1]; omega)
  refine ⟨((dvL L).1 : Int) - (n : Int), by omega, by omega, evb hs (evr ?_), evb hi (evr ?_)⟩ <;> exact w64 (by omega) (by omega)

def dvs (n : Nat) : List Nat := (List.range (n + 1)).filter fun d => decide (1 ≤ d ∧ n % d = 0)
def sg (n : Nat) : Nat := (dvs n).sum
def tau (n : Nat) : Nat := (dvs n).length
theorem mem_dvs {n d : Nat} (hn : 1 ≤ n) : d ∈ dvs n ↔ d ∣ n := by
  simp only [dvs, List.mem_filter, List.mem_range, decide_eq_true_eq]
  constructor
  · intro h
    exact Nat.dvd_of_mod_eq_zero h.2.2
  · intro h
    have h1 := Nat.le_of_dvd (by omega) h
    have h2 := Nat.pos_of_dvd_of_pos h (by omega)
    exact ⟨by omega, h2, Nat.mod_eq_zero_of_dvd h⟩
theorem nodup_dvs (n : Nat) : (dvs n).Nodup := List.Pairwise.filter _ List.nodup_range
theorem pr_coprime {p d : Nat} (hp : IsPr p) (h : ¬ p ∣ d) : Nat.Coprime p d := by
  have h1 := Nat.gcd_dvd_left p d
  have h2 := Nat.gcd_dvd_right p d
  have h3 := Nat.le_of_dvd (by have := hp.1; omega) h1
  have h4 : 0 < Nat.gcd p d := Nat.gcd_pos_of_pos_left _ (by have := hp.1; omega)
  show Nat.gcd p d = 1
  by_cases h5 : Nat.gcd p d = p
  · rw [h5] at h2
    exact absurd h2 h
  · by_cases h6 : Nat.gcd p d = 1
    · exact h6
    · exact absurd h1 (hp.2 _ (by omega) (by omega))
theorem pr_mul {p a b : Nat} (hp : IsPr p) (h : p ∣ a * b) : p ∣ a ∨ p ∣ b := by
  by_cases h1 : p ∣ a
  · exact Or.inl h1
  · exact Or.inr ((pr_coprime hp h1).dvd_of_dvd_mul_left h)
theorem pr_eq {p q : Nat} (hp : IsPr p) (hq : IsPr q) (h : p ∣ q) : p = q := by
  have h1 := Nat.le_of_dvd (by have := hq.1; omega) h
  by_cases h2 : p = q
  · exact h2
  · exact absurd h (hq.2 p hp.1 (by omega))
theorem pr_lprod {p : Nat} (hp : IsPr p) (L : List Nat) (hL : ∀ q ∈ L, IsPr q) (h : p ∣ lprod L) : p ∈ L := by
  induction L with
  | nil =>
    have h1 := Nat.le_of_dvd (by decide) h
    have := hp.1
    simp only [lprod] at h1
    omega
  | cons q L ih =>
    rcases pr_mul hp h with h1 | h1
    · rw [pr_eq hp (hL q (by simp)) h1]
      simp
    · exact List.mem_cons_of_mem _ (ih (fun x hx => hL x (by simp [hx])) h1)
theorem dvd_split {p m : Nat} (hp : IsPr p) (k : Nat) : ∀ d : Nat, d ∣ p ^ (k + 1) * m → d ∣ p ^ k * m ∨ ∃ e, e ∣ m ∧ p ^ (k + 1) * e = d := by
  have hp0 : 0 < p := by have := hp.1; omega
  induction k with
  | zero =>
    intro d h
    rw [Nat.pow_one] at h
    by_cases hd : p ∣ d
    · obtain ⟨e, rfl⟩ := hd
      exact Or.inr ⟨e, Nat.dvd_of_mul_dvd_mul_left hp0 h, by rw [Nat.pow_one]⟩
    · left
      rw [Nat.pow_zero, Nat.one_mul]
      exact (pr_coprime hp hd).symm.dvd_of_dvd_mul_left h
  | succ k ih =>
    intro d h
    have e1 : p ^ (k + 1 + 1) * m = p * (p ^ (k + 1) * m) := by rw [Nat.pow_succ p (k + 1), Nat.mul_comm (p ^ (k + 1)) p, Nat.mul_assoc]
    rw [e1] at h
    by_cases hd : p ∣ d
    · obtain ⟨e, rfl⟩ := hd
      rcases ih e (Nat.dvd_of_mul_dvd_mul_left hp0 h) with h2 | ⟨x, h3, h4⟩
      · left
        rw [Nat.pow_succ, Nat.mul_comm (p ^ k) p, Nat.mul_assoc]
        exact Nat.mul_dvd_mul_left p h2
      · exact Or.inr ⟨x, h3, by rw [← h4, Nat.pow_succ p (k + 1), Nat.mul_comm (p ^ (k + 1)) p, Nat.mul_assoc]⟩
    · left
      exact (pr_coprime hp hd).symm.dvd_of_dvd_mul_left h
theorem dvs_perm {p m : Nat} (hp : IsPr p) (hm : 1 ≤ m) (hpm : ¬ p ∣ m) (k : Nat) : (dvs (p ^ (k + 1) * m)).Perm (dvs (p ^ k * m) ++ (dvs m).map (fun e => p ^ (k + 1) * e)) := by
  have hp0 : 0 < p := by have := hp.1; omega
  have hk : 0 < p ^ k := Nat.pow_pos hp0
  have hk1 : 0 < p ^ (k + 1) := Nat.pow_pos hp0
  have e1 : 1 ≤ p ^ k * m := Nat.mul_pos hk hm
  have e2 : 1 ≤ p ^ (k + 1) * m := Nat.mul_pos hk1 hm
  refine (List.perm_ext_iff_of_nodup (nodup_dvs _) (List.nodup_append.2 ⟨nodup_dvs _, ?_, ?_⟩)).2 fun d => ?_
  · refine List.Pairwise.map _ ?_ (nodup_dvs m)
    intro a b hab he
    exact hab (Nat.eq_of_mul_eq_mul_left hk1 he)
  · intro a ha b hb he
    subst he
    rw [mem_dvs e1] at ha
    obtain ⟨e, _, rfl⟩ := List.mem_map.1 hb
    rw [Nat.pow_succ, Nat.mul_assoc] at ha
    have h3 := Nat.dvd_of_mul_dvd_mul_left hk ha
    exact hpm (Nat.dvd_trans (Nat.dvd_mul_right p e) h3)
  · rw [mem_dvs e2, List.mem_append, mem_dvs e1, List.mem_map]
    constructor
    · intro h
      rcases dvd_split hp k d h with h2 | ⟨e, h3, h4⟩
      · exact Or.inl h2
      · exact Or.inr ⟨e, (mem_dvs hm).2 h3, h4⟩
    · rintro (h | ⟨e, h3, h4⟩)
      · refine Nat.dvd_trans h ?_
        rw [Nat.pow_succ, Nat.mul_assoc]
        exact Nat.mul_dvd_mul_left _ (Nat.dvd_mul_left m p)
      · rw [← h4]
        exact Nat.mul_dvd_mul_left _ ((mem_dvs hm).1 h3)
theorem sum_map_mul (c : Nat) (L : List Nat) : (L.map (fun e => c * e)).sum = c * L.sum := by
  induction L with
  | nil => simp
  | cons x L ih => simp only [List.map_cons, List.sum_cons, ih, Nat.mul_add]
/-- 1 + p + .. + p^k -/
def geo (p : Nat) : Nat → Nat
  | 0 => 1
  | k + 1 => geo p k + p ^ k * p
theorem sg_pow {p m : Nat} (hp : IsPr p) (hm : 1 ≤ m) (hpm : ¬ p ∣ m) (k : Nat) : sg (p ^ k * m) = geo p k * sg m ∧ tau (p ^ k * m) = (k + 1) * tau m := by
  induction k with
  | zero => simp [geo]
  | succ k ih =>
    have h := dvs_perm hp hm hpm k
    have h1 := h.sum_nat
    have h2 := h.length_eq
    rw [List.sum_append, sum_map_mul] at h1
    rw [List.length_append, List.length_map] at h2
    constructor
    · show (dvs (p ^ (k + 1) * m)).sum = _
      rw [h1]
      show sg (p ^ k * m) + p ^ (k + 1) * sg m = _
      rw [ih.1, geo, Nat.add_mul, Nat.pow_succ]
    · show (dvs (p ^ (k + 1) * m)).length = _
      rw [h2]
      show tau (p ^ k * m) + tau m = _
      rw [ih.2, Nat.add_mul (k + 1), Nat.one_mul]
theorem sg_one : sg 1 = 1 ∧ tau 1 = 1 := by decide
theorem dvS_sg (L : List Nat) : ∀ (sum many p k : Nat), IsPr p → 1 ≤ k → (∀ q ∈ L, IsPr q ∧ p ≤ q) → L.Pairwise (· ≤ ·) →
    dvS L sum many p (p ^ k) k (geo p k) = (sum * sg (p ^ k * lprod L), many * tau (p ^ k * lprod L)) := by
  induction L with
  | nil =>
    intro sum many p k hp hk hq hs
    have h := sg_pow (m := 1) hp (Nat.le_refl _) (fun h => by have := Nat.le_of_dvd (by decide) h; have := hp.1; omega) k
    simp only [dvS, lprod]
    rw [h.1, h.2, sg_one.1, sg_one.2, Nat.mul_one, Nat.mul_one]
  | cons q L ih =>
    intro sum many p k hp hk hq hs
    have hq1 := hq q (by simp)
    have hs2 := List.pairwise_cons.1 hs
    simp only [dvS, lprod]
    by_cases hqp : q = p
    · subst hqp
      rw [if_pos rfl]
      have h := ih sum many q (k + 1) hp (by omega) (fun x hx => hq x (by simp [hx])) hs2.2
      rw [Nat.pow_succ, Nat.mul_assoc] at h
      exact h
    · rw [if_neg hqp]
      have h := ih (sum * geo p k) (many * (k + 1)) q 1 hq1.1 (by omega) (fun x hx => ⟨(hq x (by simp [hx])).1, hs2.1 x hx⟩) hs2.2
      have hg : geo q 1 = 1 + q := by simp [geo]
      rw [Nat.pow_one, hg] at h
      rw [h]
      have hm : 1 ≤ q * lprod L := lprod_pos (l := q :: L) (fun x hx => by have := (hq x hx).1.1; omega)
      have hpm : ¬ p ∣ q * lprod L := fun hd => by
        have h3 := pr_lprod hp (q :: L) (fun x hx => (hq x hx).1) hd
        rcases List.mem_cons.1 h3 with h4 | h4
        · exact hqp h4.symm
        · have h5 := hs2.1 p h4
          omega
      have h6 := sg_pow hp hm hpm k
      rw [h6.1, h6.2, Nat.mul_assoc, Nat.mul_assoc]
/-- What the program counts is the sum and the number of all divisors. -/
theorem dvL_sg {L : List Nat} {n : Nat} (h : Fac L n 2) : dvL L = (sg n, tau n) := by
  obtain ⟨h1, h2, h3⟩ := h
  cases L with
  | nil =>
    simp only [lprod] at h2
    subst h2
    rw [sg_one.1, sg_one.2]
    rfl
  | cons q L =>
    have hs := List.pairwise_cons.1 h3
    have h := dvS_sg L 1 1 q 1 (h1 q (by simp)).1 (by omega) (fun x hx => ⟨(h1 x (by simp [hx])).1, hs.1 x hx⟩) hs.2
    have hg : geo q 1 = 1 + q := by simp [geo]
    rw [Nat.pow_one, hg, Nat.one_mul, Nat.one_mul] at h
    simp only [dvL]
    rw [h, ← h2]
    rfl
theorem pr_exists (n : Nat) (hn : 2 ≤ n) : ∃ p, IsPr p ∧ p ∣ n := by
  obtain ⟨p, ⟨h1, h2⟩, h3⟩ := least_of (P := fun p => 2 ≤ p ∧ p ∣ n) ⟨n, hn, Nat.dvd_refl n⟩
  exact ⟨p, ⟨h1, fun d h4 h5 h6 => h3 d h5 ⟨h4, Nat.dvd_trans h6 h2⟩⟩, h2⟩
theorem pr_out {p : Nat} (hp : IsPr p) (n : Nat) : 1 ≤ n → ∃ k m, n = p ^ k * m ∧ 1 ≤ m ∧ ¬ p ∣ m := by
  induction n using Nat.strongRecOn with
  | _ n ih =>
    intro hn
    by_cases h : p ∣ n
    · obtain ⟨e, rfl⟩ := h
      have hp2 := hp.1
      have he : 1 ≤ e := Nat.pos_of_mul_pos_left (by omega : 0 < p * e) |> fun h => by
        rcases e with _ | e
        · simp at hn
        · omega
      have hlt : 2 * e ≤ p * e := Nat.mul_le_mul_right _ hp2
      obtain ⟨k, m, h1, h2, h3⟩ := ih e (by omega) he
      exact ⟨k + 1, m, by rw [Nat.pow_succ, Nat.mul_comm (p ^ k) p, Nat.mul_assoc, ← h1], h2, h3⟩
    · exact ⟨0, n, by simp, hn, h⟩
theorem sg_mul (n : Nat) : ∀ m : Nat, 1 ≤ n → 1 ≤ m → Nat.Coprime n m → sg (n * m) = sg n * sg m ∧ tau (n * m) = tau n * tau m := by
  induction n using Nat.strongRecOn with
  | _ n ih =>
    intro m hn hm hc
    by_cases h1 : n = 1
    · subst h1
      rw [Nat.one_mul, sg_one.1, sg_one.2, Nat.one_mul, Nat.one_mul]
      exact ⟨rfl, rfl⟩
    · obtain ⟨p, hp, hd⟩ := pr_exists n (by omega)
      obtain ⟨k, e, rfl, he, hpe⟩ := pr_out hp n hn
      have hp2 := hp.1
      have hk : k ≠ 0 := fun h0 => by
        subst h0
        rw [Nat.pow_zero, Nat.one_mul] at hd
        exact hpe hd
      have hpk : 2 ≤ p ^ k := Nat.le_trans hp2 (Nat.le_pow (by omega : 0 < k))
      have hlt : 2 * e ≤ p ^ k * e := Nat.mul_le_mul_right _ hpk
      have hce : Nat.Coprime e m := Nat.Coprime.coprime_dvd_left (Nat.dvd_mul_left e (p ^ k)) hc
      have hpm : ¬ p ∣ m := fun h => by
        have h2 : p ∣ Nat.gcd (p ^ k * e) m := Nat.dvd_gcd hd h
        rw [hc] at h2
        have := Nat.le_of_dvd (by decide) h2
        omega
      have hpem : ¬ p ∣ e * m := fun h => by
        rcases pr_mul hp h with h2 | h2
        · exact hpe h2
        · exact hpm h2
      have h3 := sg_pow hp (Nat.mul_pos he hm : 1 ≤ e * m) hpem k
      have h4 := sg_pow hp he hpe k
      have h5 := ih e (by omega) m he hm hce
      rw [Nat.mul_assoc, h3.1, h3.2, h4.1, h4.2, h5.1, h5.2, Nat.mul_assoc, Nat.mul_assoc]
      exact ⟨rfl, rfl⟩

theorem sg_bound (n : Nat) (h1 : 1 ≤ n) (h2 : n ≤ 1000000000) {L : List Nat} (hL : Fac L n 2) : 1 ≤ sg n ∧ sg n ≤ 1000000000000000000 := by
  have h := dvL_bound L (fun q hq => (hL.1 q hq).2) (by rw [hL.2.1]; exact h2)
  rw [dvL_sg hL] at h
  exact h
theorem tau_bound (n : Nat) : tau n ≤ n + 1 := by
  have h := List.length_filter_le (fun d => decide (1 ≤ d ∧ n % d = 0)) (List.range (n + 1))
  rw [List.length_range] at h
  exact h
theorem dv_info (n : Nat) (h1 : 1 ≤ n) (h2 : n ≤ 1000000000) : 1 ≤ sg n ∧ sg n ≤ 1000000000000000000 ∧
    Ev (fun k => spec_dvSums.f k (n : Int)) ((sg n : Int), (tau n : Int)) ∧ Ev (fun k => impl_divisors.f k (n : Int)) ((sg n : Int), (tau n : Int)) := by
  obtain ⟨L, hL, _, hs, hi⟩ := dv_ev n h1 h2
  have hb := sg_bound n h1 h2 hL
  rw [dvL_sg hL] at hs hi
  exact ⟨hb.1, hb.2, hs, hi⟩
theorem proper_info (n : Nat) (h1 : 1 ≤ n) (h2 : n ≤ 1000000000) : Ev (fun k => spec_dvProper.f k (n : Int)) ((sg n : Int) - (n : Int)) ∧ Ev (fun k => impl_proper.f k (n : Int)) ((sg n : Int) - (n : Int)) := by
  obtain ⟨a, b, hs, hi⟩ := dv_info n h1 h2
  exact ⟨evb hs (evr (w64 (by omega) (by omega))), evb hi (evr (w64 (by omega) (by omega)))⟩

theorem dvS_ge (L : List Nat) : ∀ (sum many p power k part : Nat), 1 ≤ sum → 1 ≤ part → part * p + 1 = part + power * p → (∀ q ∈ L, 2 ≤ q) →
    sum * part * lprod L ≤ (dvS L sum many p power k part).1 ∧ (L ≠ [] → sum * part * lprod L + 1 ≤ (dvS L sum many p power k part).1) := by
  induction L with
  | nil => intro sum many p power k part h1 h2 h3 h4; simp [dvS, lprod]
  | cons q L ih =>
    intro sum many p power k part h1 h2 h3 h4
    have h4L : ∀ x ∈ L, 2 ≤ x := fun x hx => h4 x (by simp [hx])
    have hR := lprod_pos (l := L) (fun x hx => by have := h4L x hx; omega)
    have hq := h4 q (by simp)
    suffices h : sum * part * lprod (q :: L) + 1 ≤ (dvS (q :: L) sum many p power k part).1 by exact ⟨by omega, fun _ => h⟩
    by_cases hqp : q = p
    · subst hqp
      have h := (ih sum many q (power * q) (k + 1) (part + power * q) h1 (by omega) (by rw [Nat.add_mul]; omega) h4L).1
      simp only [dvS, if_true, lprod]
      refine Nat.le_trans ?_ h
      rw [← h3, Nat.mul_add, Nat.add_mul, Nat.mul_one, ← Nat.mul_assoc, ← Nat.mul_assoc]
      have : 1 * 1 ≤ sum * lprod L := Nat.mul_le_mul h1 hR
      omega
    · have h := (ih (sum * part) (many * (k + 1)) q q 1 (1 + q) (Nat.mul_le_mul h1 h2) (by omega) (by rw [Nat.add_mul]; omega) h4L).1
      simp only [dvS, if_neg hqp, lprod]
      refine Nat.le_trans ?_ h
      rw [Nat.mul_add, Nat.add_mul, Nat.mul_one, ← Nat.mul_assoc]
      have : 1 * 1 * 1 ≤ sum * part * lprod L := Nat.mul_le_mul (Nat.mul_le_mul h1 h2) hR
      omega
theorem lprod_ge {L : List Nat} {q : Nat} (hL : L ≠ []) (h : ∀ x ∈ L, q ≤ x) (h2 : ∀ x ∈ L, 2 ≤ x) : q ≤ lprod L := by
  cases L with
  | nil => exact absurd rfl hL
  | cons r T =>
    have hR := lprod_pos (l := T) (fun x hx => by have := h2 x (by simp [hx]); omega)
    have h1 : r * 1 ≤ r * lprod T := Nat.mul_le_mul_left _ hR
    have := h r (by simp)
    simp only [lprod]
    omega
/-- The proper sum of n from 2 on is at least 1; if it is more, n is at most the square of it less 1. -/
theorem dvL_low (L : List Nat) (n : Nat) (hn : 2 ≤ n) (hF : Fac L n 2) : n + 1 ≤ (dvL L).1 ∧ ((dvL L).1 = n + 1 ∨ n ≤ ((dvL L).1 - n - 1) * ((dvL L).1 - n - 1)) := by
  obtain ⟨h1, h2, h3⟩ := hF
  match L, h1, h2, h3 with
  | [], _, h2, _ => simp only [lprod] at h2; omega
  | [q], _, h2, _ => simp only [lprod] at h2; simp only [dvL, dvS]; omega
  | q :: r :: T, h1, h2, h3 =>
    have h4 : ∀ x ∈ r :: T, 2 ≤ x := fun x hx => (h1 x (by simp [List.mem_cons.1 hx])).2
    have h5 := (dvS_ge (r :: T) 1 1 q q 1 (1 + q) (by omega) (by omega) (by rw [Nat.add_mul]; omega) h4).2 (by simp)
    have h6 : q ≤ lprod (r :: T) := lprod_ge (by simp) (fun x hx => (List.pairwise_cons.1 h3).1 x hx) h4
    have h7 : lprod (q :: r :: T) = q * lprod (r :: T) := rfl
    rw [h7] at h2
    simp only [dvL]
    rw [Nat.one_mul, Nat.add_mul, Nat.one_mul, h2] at h5
    refine ⟨by omega, .inr ?_⟩
    have h8 : q * lprod (r :: T) ≤ lprod (r :: T) * lprod (r :: T) := Nat.mul_le_mul_right _ h6
    rw [h2] at h8
    refine Nat.le_trans h8 (Nat.mul_le_mul ?_ ?_) <;> omega
theorem proper_fn : ∃ P : Int → Int, ∀ n : Int, 1 ≤ n → n ≤ 1000000000 → 1 - n ≤ P n ∧ P n ≤ 1000000000000000000 ∧ Ev (fun k => spec_dvProper.f k n) (P n) ∧ Ev (fun k => impl_proper.f k n) (P n) ∧
    (2 ≤ n → 1 ≤ P n ∧ (2 ≤ P n → n ≤ (P n - 1) * (P n - 1))) := by
  have key : ∀ n : Int, ∃ s : Int, 1 ≤ n → n ≤ 1000000000 → 1 - n ≤ s ∧ s ≤ 1000000000000000000 ∧ Ev (fun k => spec_dvProper.f k n) s ∧ Ev (fun k => impl_proper.f k n) s ∧
      (2 ≤ n → 1 ≤ s ∧ (2 ≤ s → n ≤ (s - 1) * (s - 1))) := by
    intro n
    by_cases h : 1 ≤ n ∧ n ≤ 1000000000
    · obtain ⟨n, rfl⟩ := natOf (a := n) (by omega)
      obtain ⟨L, hL, _, hs, hi⟩ := dv_ev n (by omega) (by omega)
      have hb := dvL_bound L (fun q hq => (hL.1 q hq).2) (by rw [hL.2.1]; omega)
      refine ⟨((dvL L).1 : Int) - (n : Int), fun _ _ => ⟨by omega, by omega, evb hs (evr (w64 (by omega) (by omega))), evb hi (evr (w64 (by omega) (by omega))), fun hn => ?_⟩⟩
      have hlow := dvL_low L n (by omega) hL
      refine ⟨by omega, fun h2 => ?_⟩
      rcases hlow.2 with h3 | h3
      · omega
      · have e : ((dvL L).1 : Int) - (n : Int) - 1 = (((dvL L).1 - n - 1 : Nat) : Int) := by omega
        rw [e]
        exact_mod_cast h3
    · exact ⟨0, fun h1 h2 => absurd ⟨h1, h2⟩ h⟩
  exact ⟨fun n => Classical.choose (key n), fun n => Classical.choose_spec (key n)⟩

def flt (P : Int → Int) (n : Int) : Nat → Int → List Int
  | 0, _ => []
  | d + 1, m => if P m = n then m :: flt P n d (m + 1) else flt P n d (m + 1)
theorem flt_length (P : Int → Int) (n : Int) (d : Nat) : ∀ m : Int, (flt P n d m).length ≤ d := by
  induction d with
  | zero => intro m; simp [flt]
  | succ d ih =>
    intro m
    have := ih (m + 1)
    simp only [flt]
    split
    · simp; omega
    · omega
theorem flt_none (P : Int → Int) (n : Int) (d : Nat) : ∀ m : Int, (∀ j : Int, m ≤ j → j < m + d → P j ≠ n) → flt P n d m = [] := by
  induction d with
  | zero => intro m _; rfl
  | succ d ih =>
    intro m h
    simp only [flt]
    rw [if_neg (h m (by omega) (by omega)), ih (m + 1) (fun j h1 h2 => h j (by omega) (by omega))]
theorem flt_add (P : Int → Int) (n : Int) (e : Nat) (d : Nat) : ∀ m : Int, flt P n (d + e) m = flt P n d m ++ flt P n e (m + d) := by
  induction d with
  | zero => intro m; simp [flt]
  | succ d ih =>
    intro m
    rw [show d + 1 + e = (d + e) + 1 by omega]
    simp only [flt, ih (m + 1)]
    rw [show m + 1 + (d : Int) = m + ((d + 1 : Nat) : Int) by omega]
    split <;> simp
/-- What a proper sum function knows. -/
def PropFn (P : Int → Int) : Prop := ∀ n : Int, 1 ≤ n → n ≤ 1000000000 → 1 - n ≤ P n ∧ P n ≤ 1000000000000000000 ∧ Ev (fun k => spec_dvProper.f k n) (P n) ∧ Ev (fun k => impl_proper.f k n) (P n) ∧
    (2 ≤ n → 1 ≤ P n ∧ (2 ≤ P n → n ≤ (P n - 1) * (P n - 1)))
/-- Beyond the square nothing more is found. -/
theorem flt_cut (P : Int → Int) (hP : PropFn P) (n : Int) (h2 : 2 ≤ n) (h3 : n ≤ 100) (d : Nat) (hd : (d : Int) = (n - 1) * (n - 1) - 1) (e : Nat) (he : e ≤ 100000) : flt P n (d + e) 2 = flt P n d 2 := by
  rw [flt_add, flt_none P n e, List.append_nil]
  intro j h4 h5 h6
  have hb : (n - 1) * (n - 1) ≤ 99 * 99 := Int.mul_le_mul (by omega) (by omega) (by omega) (by omega)
  have := (hP j (by omega) (by omega)).2.2.2.2 (by omega)
  rw [h6] at this
  have := this.2 h2
  omega
theorem rd_L1_set (x : List (List Int)) (i j : Int) (v : List Int) (hi : 0 ≤ i) (hi2 : i < x.length) (hj : 0 ≤ j) : rd_L2 (x.set i.toNat v) j = if i = j then v else rd_L2 x j := by
  unfold rd_L2
  rw [List.getD_eq_getElem?_getD, List.getD_eq_getElem?_getD, List.getElem?_set]
  by_cases h : i = j
  · subst h
    have hl : i.toNat < x.length := by omega
    simp [hl]
  · have : ¬ i.toNat = j.toNat := by omega
    simp [h, this]
theorem sources_loop (P : Int → Int) (hP : PropFn P) (d : Nat) : ∀ (m : Int) (x : List (List Int)), 2 ≤ m → (9801 + 1 - m).toNat = d → m ≤ 9802 → x.length = 101 → (∀ s, (rd_L2 x s).length ≤ m.toNat) →
    ∃ y : List (List Int), y.length = 101 ∧ (∀ s, 0 ≤ s → s ≤ 100 → rd_L2 y s = rd_L2 x s ++ (if 2 ≤ s then flt P s d m else [])) ∧ Ev (fun k => impl_sources.l0 k x m) y := by
  induction d with
  | zero =>
    intro m x hm hd hm2 hx hr
    refine ⟨x, hx, fun s _ _ => by simp [flt], evs (fun k => by rw [impl_sources.l0]) ?_⟩
    exact evn (by omega) (Ev.now _)
  | succ d ih =>
    intro m x hm hd hm2 hx hr
    have hp := hP m (by omega) (by omega)
    have e1 := w64 (x := m + 1) (by omega) (by omega)
    by_cases hin : 2 ≤ P m ∧ P m ≤ 100
    · obtain ⟨y, hy, hy2, hev⟩ := ih (m + 1) (x.set (P m).toNat (rd_L2 x (P m) ++ [m])) (by omega) (by omega) (by omega) (by simpa using hx) (fun s => by
        by_cases hs : 0 ≤ s
        · rw [rd_L1_set _ _ _ _ (by omega) (by omega) hs]
          have a1 := hr (P m)
          have a2 := hr s
          split
          · simp; omega
          · omega
        · have a1 := hr 0
          have e0 : ∀ z : List (List Int), rd_L2 z s = rd_L2 z 0 := fun z => by unfold rd_L2; rw [show s.toNat = (0 : Int).toNat by omega]
          rw [e0, rd_L1_set _ _ _ _ (by omega) (by omega) (Int.le_refl _), if_neg (by omega)]
          omega)
      refine ⟨y, hy, fun s hs1 hs2 => ?_, evs (fun k => by rw [impl_sources.l0]) ?_⟩
      · rw [hy2 s hs1 hs2, rd_L1_set _ _ _ _ (by omega) (by omega) hs1]
        by_cases he : P m = s
        · subst he
          simp [flt, hin.1]
        · by_cases h2 : 2 ≤ s <;> simp [flt, he, h2]
      · rw [e1]
        simp only [impl_in_eq, Option.bind_some, decide_eq_true_eq]
        have a1 := hr (P m)
        exact evp (by omega) (evb hp.2.2.2.1 (evp hin (evp (by omega) (evp (by omega) (evp (by omega) hev)))))
    · obtain ⟨y, hy, hy2, hev⟩ := ih (m + 1) x (by omega) (by omega) (by omega) hx (fun s => by have := hr s; omega)
      refine ⟨y, hy, fun s hs1 hs2 => ?_, evs (fun k => by rw [impl_sources.l0]) ?_⟩
      · rw [hy2 s hs1 hs2]
        by_cases h2 : 2 ≤ s
        · have he : ¬ P m = s := fun e => hin (by omega)
          simp [flt, he, h2]
        · simp [h2]
      · rw [e1]
        simp only [impl_in_eq, Option.bind_some, decide_eq_true_eq]
        exact evp (by omega) (evb hp.2.2.2.1 (evn hin hev))
theorem sources_ev (P : Int → Int) (hP : PropFn P) : ∃ y : List (List Int), y.length = 101 ∧ (∀ s, 2 ≤ s → s ≤ 100 → rd_L2 y s = flt P s 9800 2) ∧ Ev (fun k => impl_sources.f k) y := by
  have h0 : ∀ s, rd_L2 (List.replicate 101 ([] : List Int)) s = [] := by
    intro s
    unfold rd_L2
    rw [List.getD_eq_getElem?_getD, List.getElem?_replicate]
    split <;> rfl
  obtain ⟨y, hy, hy2, hev⟩ := sources_loop P hP 9800 2 (List.replicate 101 []) (by omega) (by omega) (by omega) (by simp) (fun s => by rw [h0]; simp)
  refine ⟨y, hy, fun s hs1 hs2 => ?_, ?_⟩
  · rw [hy2 s (by omega) hs2, h0, if_pos hs1, List.nil_append]
  · unfold impl_sources.f
    first | exact hev | exact evp (by omega) hev

theorem dvSources_loop (P : Int → Int) (hP : PropFn P) (n s : Int) (hs : s = (n - 1) * (n - 1)) (h2 : 0 ≤ n) (h3 : n ≤ 100) (hs0 : 0 ≤ s) (hs2 : s ≤ 9801) (d : Nat) : ∀ (m : Int) (out : List Int), 2 ≤ m → (s + 1 - m).toNat = d → out.length + d ≤ 20000 →
    Ev (fun k => spec_dvSources.l0 k n out m) (out ++ flt P n d m) := by
  induction d with
  | zero =>
    intro m out hm hd ho
    refine evs (fun k => by rw [spec_dvSources.l0]) ?_
    rw [w64 (x := n - 1) (by omega) (by omega), ← hs, w64 (by omega) (by omega)]
    exact evn (by omega) (evr (by simp [flt]))
  | succ d ih =>
    intro m out hm hd ho
    refine evs (fun k => by rw [spec_dvSources.l0]) ?_
    rw [w64 (x := n - 1) (by omega) (by omega), ← hs, w64 (x := s) (by omega) (by omega), w64 (x := m + 1) (by omega) (by omega)]
    refine evp (by omega) (evb (hP m (by omega) (by omega)).2.2.1 ?_)
    by_cases he : P m = n
    · refine evp he (evp (by omega) ?_)
      have h := ih (m + 1) (out ++ [m]) (by omega) (by omega) (by simp; omega)
      simpa [flt, he] using h
    · refine evn he ?_
      have h := ih (m + 1) out (by omega) (by omega) (by omega)
      simpa [flt, he] using h

theorem rd_set (x : List Int) (i j v : Int) (hi : 0 ≤ i) (hi2 : i < x.length) (hj : 0 ≤ j) : rd (x.set i.toNat v) j = if i = j then v else rd x j := by
  unfold rd
  rw [List.getD_eq_getElem?_getD, List.getD_eq_getElem?_getD, List.getElem?_set]
  by_cases h : i = j
  · subst h
    have hl : i.toNat < x.length := by omega
    simp [hl]
  · have : ¬ i.toNat = j.toNat := by omega
    simp [h, this]
theorem noSources_fill (P : Int → Int) (hP : PropFn P) (n s : Int) (hs : s = (n - 1) * (n - 1)) (h0 : 0 ≤ n) (h3 : n ≤ 100) (hs0 : 0 ≤ s) (hs2 : s ≤ 9801) (hn1 : n ≤ 1 → s ≤ 1) (d : Nat) :
    ∀ (m : Int) (x : List Int), 2 ≤ m → (s + 1 - m).toNat = d → m ≤ 9802 → (x.length : Int) = n + 1 → (∀ j, 0 ≤ rd x j ∧ rd x j ≤ m) →
    ∃ y : List Int, (y.length : Int) = n + 1 ∧ (∀ j, 2 ≤ j → j ≤ n → rd y j = rd x j + (flt P j d m).length) ∧ ∀ r, Ev (fun k => spec_NoSources.l1 k n y [] 2) r → Ev (fun k => spec_NoSources.l0 k n x m) r := by
  induction d with
  | zero =>
    intro m x hm hd hm2 hx hr
    refine ⟨x, hx, fun j _ _ => by simp [flt], fun r h => evs (fun k => by rw [spec_NoSources.l0]) ?_⟩
    rw [w64 (x := n - 1) (by omega) (by omega), ← hs, w64 (by omega) (by omega)]
    exact evn (by omega) (evs (fun k => by rw [spec_NoSources.j1]) (evn (by simp) h))
  | succ d ih =>
    intro m x hm hd hm2 hx hr
    have hp := hP m (by omega) (by omega)
    have hp1 := (hp.2.2.2.2 hm).1
    have hn2 : n > 1 := by
      by_cases h : n > 1
      · exact h
      · have := hn1 (by omega)
        omega
    have e1 := w64 (x := m + 1) (by omega) (by omega)
    have head : ∀ r, Ev (fun k => spec_NoSources.j1 k n x m true) r → Ev (fun k => spec_NoSources.l0 k n x m) r := by
      intro r h
      refine evs (fun k => by rw [spec_NoSources.l0]) ?_
      rw [w64 (x := n - 1) (by omega) (by omega), ← hs, w64 (by omega) (by omega)]
      exact evp (by omega) (by simpa [hn2] using h)
    by_cases hin : P m ≤ n
    · have hb := hr (P m)
      obtain ⟨y, hy, hy2, hev⟩ := ih (m + 1) (x.set (P m).toNat (rd x (P m) + 1)) (by omega) (by omega) (by omega) (by simpa using hx) (fun j => by
        by_cases hj : 0 ≤ j
        · rw [rd_set _ _ _ _ (by omega) (by omega) hj]
          have := hr j
          split <;> omega
        · have e0 : ∀ z : List Int, rd z j = rd z 0 := fun z => by unfold rd; rw [show j.toNat = (0 : Int).toNat by omega]
          have := hr 0
          rw [e0, rd_set _ _ _ _ (by omega) (by omega) (Int.le_refl _)]
          split <;> omega)
      refine ⟨y, hy, fun j h2 h4 => ?_, fun r h => head r (evs (fun k => by rw [spec_NoSources.j1]) ?_)⟩
      · rw [hy2 j h2 h4, rd_set _ _ _ _ (by omega) (by omega) (by omega)]
        by_cases he : P m = j
        · simp [flt, he]
          omega
        · simp [flt, he]
      · rw [e1]
        refine evp rfl (evb hp.2.2.1 (evp hin (evp (by omega) (evp (by omega) ?_))))
        rw [w64 (x := rd x (P m) + 1) (by omega) (by omega)]
        exact hev r h
    · obtain ⟨y, hy, hy2, hev⟩ := ih (m + 1) x (by omega) (by omega) (by omega) hx (fun j => by have := hr j; omega)
      refine ⟨y, hy, fun j h2 h4 => ?_, fun r h => head r (evs (fun k => by rw [spec_NoSources.j1]) ?_)⟩
      · rw [hy2 j h2 h4]
        have he : ¬ P m = j := fun e => hin (by omega)
        simp [flt, he]
      · rw [e1]
        exact evp rfl (evb hp.2.2.1 (evn hin (hev r h)))
theorem noSources_pick (n : Int) (h3 : n ≤ 100) (y : List Int) (z : List (List Int)) (hy : (y.length : Int) = n + 1) (hz : z.length = 101) (he : ∀ j, 2 ≤ j → j ≤ n → (rd y j = 0 ↔ ((rd_L2 z j).length : Int) = 0)) (d : Nat) :
    ∀ (j : Int) (out : List Int), 2 ≤ j → (n + 1 - j).toNat = d → out.length + d ≤ 1000 → ∃ r : List Int, r.length ≤ 1000 ∧ Ev (fun k => spec_NoSources.l1 k n y out j) (r, true) ∧ Ev (fun k => impl_NoSources.l0 k n out z j) (r, true) := by
  induction d with
  | zero =>
    intro j out hj hd ho
    exact ⟨out, by omega, evs (fun k => by rw [spec_NoSources.l1]) (evn (by omega) (Ev.now _)), evs (fun k => by rw [impl_NoSources.l0]) (evn (by omega) (Ev.now _))⟩
  | succ d ih =>
    intro j out hj hd ho
    have e1 := w64 (x := j + 1) (by omega) (by omega)
    have hh := he j hj (by omega)
    by_cases h : rd y j = 0
    · obtain ⟨r, hr, a, b⟩ := ih (j + 1) (out ++ [j]) (by omega) (by omega) (by simp; omega)
      refine ⟨r, hr, evs (fun k => by rw [spec_NoSources.l1, e1]) ?_, evs (fun k => by rw [impl_NoSources.l0, e1]) ?_⟩
      · exact evp (by omega) (evp (by omega) (evp (by omega) (evp h (evp (by omega) a))))
      · exact evp (by omega) (evp (by omega) (evp (by omega) (evp (hh.1 h) (evp (by omega) b))))
    · obtain ⟨r, hr, a, b⟩ := ih (j + 1) out (by omega) (by omega) (by omega)
      refine ⟨r, hr, evs (fun k => by rw [spec_NoSources.l1, e1]) ?_, evs (fun k => by rw [impl_NoSources.l0, e1]) ?_⟩
      · exact evp (by omega) (evp (by omega) (evp (by omega) (evn h a)))
      · exact evp (by omega) (evp (by omega) (evp (by omega) (evn (fun e => h (hh.2 e)) b)))
theorem noSources_both (n : Int) : ∃ r : List Int × Bool, r.1.length ≤ 100000 ∧ Ev (fun k => spec_NoSources.f k n) r ∧ Ev (fun k => impl_NoSources.f k n) r := by
  simp only [spec_NoSources.f, impl_NoSources.f, spec_l1In_eq, impl_in_eq, Option.bind_some, decide_eq_true_eq]
  by_cases h : 0 ≤ n ∧ n ≤ 100
  · obtain ⟨P, hP⟩ := proper_fn
    have hP : PropFn P := hP
    obtain ⟨z, hz, hz2, hev⟩ := sources_ev P hP
    have hs0 : 0 ≤ (n - 1) * (n - 1) := by
      by_cases h1 : 1 ≤ n
      · exact Int.mul_nonneg (by omega) (by omega)
      · have : n = 0 := by omega
        subst this
        decide
    have hs2 : (n - 1) * (n - 1) ≤ 9801 ∧ (n ≤ 1 → (n - 1) * (n - 1) ≤ 1) := by
      by_cases h1 : 2 ≤ n
      · have : (n - 1) * (n - 1) ≤ 99 * 99 := Int.mul_le_mul (by omega) (by omega) (by omega) (by omega)
        omega
      · have : n = 0 ∨ n = 1 := by omega
        rcases this with rfl | rfl <;> decide
    have h00 : ∀ j, rd (List.replicate (n + 1).toNat (0 : Int)) j = 0 := by
      intro j
      unfold rd
      rw [List.getD_eq_getElem?_getD, List.getElem?_replicate]
      split <;> rfl
    obtain ⟨y, hy, hy2, hfill⟩ := noSources_fill P hP n ((n - 1) * (n - 1)) rfl h.1 h.2 hs0 hs2.1 hs2.2 ((n - 1) * (n - 1) + 1 - 2).toNat 2 (List.replicate (n + 1).toNat 0) (by omega) rfl (by omega) (by simp; omega) (fun j => by rw [h00]; omega)
    have he : ∀ j, 2 ≤ j → j ≤ n → (rd y j = 0 ↔ ((rd_L2 z j).length : Int) = 0) := by
      intro j h2 h4
      have hj0 : 1 * 1 ≤ (j - 1) * (j - 1) := Int.mul_le_mul (by omega) (by omega) (by omega) (by omega)
      have hj1 : (j - 1) * (j - 1) ≤ (n - 1) * (n - 1) := Int.mul_le_mul (by omega) (by omega) (by omega) (by omega)
      have a1 := flt_cut P hP j h2 (by omega) ((j - 1) * (j - 1) - 1).toNat (by omega) (9800 - ((j - 1) * (j - 1) - 1).toNat) (by omega)
      rw [show ((j - 1) * (j - 1) - 1).toNat + (9800 - ((j - 1) * (j - 1) - 1).toNat) = 9800 by omega] at a1
      have a2 := flt_cut P hP j h2 (by omega) ((j - 1) * (j - 1) - 1).toNat (by omega) (((n - 1) * (n - 1) + 1 - 2).toNat - ((j - 1) * (j - 1) - 1).toNat) (by omega)
      rw [show ((j - 1) * (j - 1) - 1).toNat + (((n - 1) * (n - 1) + 1 - 2).toNat - ((j - 1) * (j - 1) - 1).toNat) = ((n - 1) * (n - 1) + 1 - 2).toNat by omega] at a2
      rw [hy2 j h2 h4, h00, hz2 j h2 (by omega), a1, a2]
      omega
    obtain ⟨r, hr, a, b⟩ := noSources_pick n h.2 y z hy hz he (n + 1 - 2).toNat 2 [] (by omega) rfl (by simp; omega)
    refine ⟨(r, true), by simp only; omega, evp h ?_, evp h (evb hev b)⟩
    rw [w64 (by omega) (by omega)]
    exact evp (by omega) (evp (by omega) (hfill _ a))
  · exact ⟨([], false), by simp, evn h (Ev.now _), evn h (Ev.now _)⟩

theorem low_byte (x : Int) : 0 ≤ Go.bits .and .u64 ((IntKind.u64.wrap x) / 1099511627776) 255 ∧ Go.bits .and .u64 ((IntKind.u64.wrap x) / 1099511627776) 255 ≤ 255 := by
  have h0 : 0 ≤ IntKind.u64.wrap x ∧ IntKind.u64.wrap x < 18446744073709551616 := by rw [IntKind.wrap_u64]; omega
  obtain ⟨y, hy⟩ := Int.eq_ofNat_of_zero_le (show 0 ≤ IntKind.u64.wrap x / 1099511627776 by omega)
  rw [hy]
  have h1 := bits_and_u64_nat y 255 (by omega) (by omega)
  have e : y &&& 255 = y % 256 := Nat.and_two_pow_sub_one_eq_mod y 8
  rw [e] at h1
  rw [show ((255 : Int)) = ((255 : Nat) : Int) from rfl, h1]
  omega
theorem next_ok (l : List Int) (hl : ∀ x ∈ l, 0 ≤ x ∧ x ≤ 255) (p s : Int) (h0 : 0 ≤ p) (h1 : p ≤ 1000000000000) :
    ∃ v s' : Int, spec_l1Cur_next.f l p s = some (v, p + 1, s') ∧ 0 ≤ v ∧ v ≤ 255 := by
  unfold spec_l1Cur_next.f
  rw [w64 (x := p + 1) (by omega) (by omega)]
  by_cases hp : p < (l.length : Int)
  · have hm := hl _ (rd_mem l p h0 hp)
    rw [if_pos hp, if_pos h0]
    by_cases hq : p + 1 ≤ (l.length : Int)
    · rw [if_pos hq]
      refine ⟨_, _, rfl, ?_⟩
      rw [w64 (by omega) (by omega)]
      exact hm
    · omega
  · rw [if_neg hp]
    by_cases hq : p + 1 ≤ (l.length : Int)
    · omega
    · rw [if_neg hq]
      refine ⟨_, _, rfl, ?_⟩
      have h := low_byte (IntKind.u64.wrap (IntKind.u64.wrap (s * 6364136223846793005)) + 1442695040888963407)
      rw [w64 (by omega) (by omega)]
      exact h
theorem pick_ok (l : List Int) (hl : ∀ x ∈ l, 0 ≤ x ∧ x ≤ 255) (p s n : Int) (h0 : 0 ≤ p) (h1 : p ≤ 999999999990) (hn : n ≤ 1000000) :
    ∃ v p' s' : Int, spec_l1Cur_pick.f l p s n = some (v, p', s') ∧ 0 ≤ v ∧ v ≤ 1000000 ∧ (v = 0 ∨ v < n) ∧ p ≤ p' ∧ p' ≤ p + 2 := by
  unfold spec_l1Cur_pick.f
  by_cases h : n ≤ 1
  · rw [if_pos h]
    exact ⟨0, p, s, rfl, by omega, by omega, by omega, by omega, by omega⟩
  · rw [if_neg h]
    obtain ⟨v, s1, e1, h2, h3⟩ := next_ok l hl p s h0 (by omega)
    rw [e1]
    simp only [Option.bind_some]
    by_cases h4 : n > 200
    · rw [if_pos h4]
      obtain ⟨v2, s2, e2, h5, h6⟩ := next_ok l hl (p + 1) s1 (by omega) (by omega)
      rw [e2]
      simp only [Option.bind_some]
      rw [if_neg (by omega), w64 (x := v * 256) (by omega) (by omega), w64 (by omega) (by omega)]
      have h7 := Int.tmod_nonneg n (show 0 ≤ v * 256 + v2 by omega)
      have h8 := Int.tmod_lt_of_pos (v * 256 + v2) (show 0 < n by omega)
      exact ⟨_, _, _, rfl, h7, by omega, Or.inr h8, by omega, by omega⟩
    · rw [if_neg h4, if_neg (by omega)]
      have h7 := Int.tmod_nonneg n (show 0 ≤ v by omega)
      have h8 := Int.tmod_lt_of_pos v (show 0 < n by omega)
      exact ⟨_, _, _, rfl, h7, by omega, Or.inr h8, by omega, by omega⟩
theorem among_ok (l : List Int) (hl : ∀ x ∈ l, 0 ≤ x ∧ x ≤ 255) (p s : Int) (m : List Int) (hm : m ≠ []) (hm2 : m.length ≤ 1000000) (h0 : 0 ≤ p) (h1 : p ≤ 999999999990) :
    ∃ v p' s' : Int, spec_l1Cur_among.f l p s m = some (v, p', s') ∧ v ∈ m ∧ p ≤ p' ∧ p' ≤ p + 2 := by
  unfold spec_l1Cur_among.f
  have hpos := List.length_pos_iff.2 hm
  obtain ⟨v, p', s', e1, h2, h3, h4, h5, h6⟩ := pick_ok l hl p s m.length h0 h1 (by omega)
  rw [e1]
  simp only [Option.bind_some]
  rw [if_pos h2, if_pos (by omega)]
  exact ⟨_, _, _, rfl, rd_mem m v h2 (by omega), h5, h6⟩

theorem laws_qSame_loop (post : List Int) : ∀ (pre post' : List Int), post'.length = post.length → (pre ++ post).length ≤ 4611686018427387904 →
    Ev (fun k => laws_qSame.l0 k (pre ++ post) (pre ++ post') ((pre ++ post).length : Int) (pre.length : Int)) (decide (post = post')) := by
  induction post with
  | nil =>
    intro pre post' hl h
    obtain rfl : post' = [] := List.eq_nil_of_length_eq_zero hl
    refine evs (fun k => by rw [laws_qSame.l0]) ?_
    exact evn (by simp) (evr (by simp))
  | cons x post ih =>
    intro pre post' hl h
    obtain ⟨y, post', rfl⟩ : ∃ y z, post' = y :: z := by cases post' with
      | nil => simp at hl
      | cons y z => exact ⟨y, z, rfl⟩
    refine evs (fun k => by rw [laws_qSame.l0]) ?_
    refine evp (by simp; omega) (evp (by omega) (evp (by simp; omega) (evp (by simp; omega) ?_)))
    rw [rd_mid, rd_mid]
    by_cases he : x = y
    · subst he
      refine evp rfl ?_
      have h2 := ih (pre ++ [x]) post' (by simpa using hl) (by simpa using h)
      simp only [List.append_assoc, List.singleton_append] at h2
      rw [w64 (by omega) (by simp at h; omega)]
      simpa using h2
    · exact evn he (evr (by simp [he]))
theorem laws_qSame_ev (l l' : List Int) (h : l.length ≤ 4611686018427387904) : Ev (fun k => laws_qSame.f k l l') (decide (l = l')) := by
  unfold laws_qSame.f
  by_cases hl : l.length = l'.length
  · exact evp (by omega) (by simpa using laws_qSame_loop l [] l' hl.symm (by simpa using h))
  · exact evn (by omega) (evr (by symm; rw [decide_eq_false_iff_not]; exact fun e => hl (by rw [e])))
theorem laws_qSame_self (l : List Int) (h : l.length ≤ 4611686018427387904) : Ev (fun k => laws_qSame.f k l l) true := by simpa using laws_qSame_ev l l h

theorem mem_le_sum (l : List Nat) (x : Nat) (h : x ∈ l) : x ≤ l.sum := by
  induction l with
  | nil => simp at h
  | cons y l ih =>
    rw [List.sum_cons]
    rcases List.mem_cons.1 h with rfl | h
    · omega
    · have := ih h
      omega
theorem sg_ge (n : Nat) (hn : 1 ≤ n) : n ≤ sg n := mem_le_sum _ _ ((mem_dvs hn).2 (Nat.dvd_refl n))
theorem sg_prime {p : Nat} (hp : IsPr p) : sg p = p + 1 := by
  have h := (sg_pow (m := 1) hp (Nat.le_refl _) (fun h => by have := Nat.le_of_dvd (by decide) h; have := hp.1; omega) 1).1
  rw [Nat.pow_one, Nat.mul_one, sg_one.1, Nat.mul_one] at h
  rw [h]
  simp [geo]
  omega
/-- The partner of a number, 0 if it has none. -/
def pt (n : Nat) : Nat := if sg n - n ≠ n ∧ 1 ≤ sg n - n ∧ sg n - n ≤ 1000000000 ∧ sg (sg n - n) - (sg n - n) = n then sg n - n else 0
theorem pt_le (n : Nat) : pt n ≤ 1000000000 := by
  unfold pt
  split
  · rename_i h
    exact h.2.2.1
  · omega
theorem partner_full (n : Nat) (h1 : 1 ≤ n) (h2 : n ≤ 1000000000) : Ev (fun k => spec_dvPartner.f k (n : Int)) (pt n : Int) ∧ Ev (fun k => impl_partner.f k (n : Int)) (pt n : Int) := by
  obtain ⟨hs, hi⟩ := proper_info n h1 h2
  have hg := sg_ge n h1
  obtain ⟨s, hsd⟩ : ∃ s, sg n - n = s := ⟨_, rfl⟩
  have e1 : (sg n : Int) - (n : Int) = (s : Int) := by omega
  rw [e1] at hs hi
  simp only [spec_dvPartner.f, impl_partner.f, spec_dvNumber_eq, impl_isDivided_eq, Option.bind_some, decide_eq_true_eq]
  unfold pt
  rw [hsd]
  by_cases c1 : s = n
  · rw [if_neg (fun h => h.1 c1)]
    exact ⟨evb hs (evp (by omega) (Ev.now _)), evb hi (evp (by omega) (Ev.now _))⟩
  · by_cases c2 : 1 ≤ s ∧ s ≤ 1000000000
    · obtain ⟨gs, gi⟩ := proper_info s c2.1 c2.2
      have hg2 := sg_ge s c2.1
      obtain ⟨t, ht⟩ : ∃ t, sg s - s = t := ⟨_, rfl⟩
      have e2 : (sg s : Int) - (s : Int) = (t : Int) := by omega
      rw [e2] at gs gi
      rw [ht]
      by_cases c3 : t = n
      · rw [if_pos ⟨c1, c2.1, c2.2, c3⟩]
        exact ⟨evb hs (evn (by omega) (evp (by omega) (evb gs (evp (by omega) (Ev.now _))))), evb hi (evn (by omega) (evp (by omega) (evb gi (evp (by omega) (Ev.now _)))))⟩
      · rw [if_neg (fun h => c3 h.2.2.2)]
        exact ⟨evb hs (evn (by omega) (evp (by omega) (evb gs (evn (by omega) (Ev.now _))))), evb hi (evn (by omega) (evp (by omega) (evb gi (evn (by omega) (Ev.now _)))))⟩
    · rw [if_neg (fun h => c2 ⟨h.2.1, h.2.2.1⟩)]
      exact ⟨evb hs (evn (by omega) (evn (by omega) (Ev.now _))), evb hi (evn (by omega) (evn (by omega) (Ev.now _)))⟩
theorem partner_impl (n : Nat) (h1 : 1 ≤ n) (h2 : n ≤ 1000000000) : Ev (fun k => impl_PartnerOf.f k (n : Int)) ((pt n : Int), decide ((pt n : Int) > 0)) := by
  simp only [impl_PartnerOf.f, impl_isDivided_eq, Option.bind_some, decide_eq_true_eq]
  exact evp (by omega) (evb (partner_full n h1 h2).2 (Ev.now _))
/-- Rows of pairs. -/
def prow (x : Nat) : List Int := [(x : Int), (pt x : Int)]
def prows (xs : List Nat) : List (List Int) := xs.map prow
theorem pairs_loop (most : Nat) (hm : most ≤ 10000) (d : Nat) : ∀ (x : Nat) (xs : List Nat), 1 ≤ x → x + d = most + 1 → xs.length < x → (∀ y ∈ xs, 1 ≤ y ∧ y < x ∧ y < pt y) → xs.Pairwise (· < ·) →
    ∃ R : List Nat, R.length ≤ 10001 ∧ (∀ y ∈ R, 1 ≤ y ∧ y ≤ 10000 ∧ y < pt y) ∧ R.Pairwise (· < ·) ∧ Ev (fun k => impl_PairsUpTo.l0 k (most : Int) (prows xs) (x : Int)) (prows R, true) ∧ Ev (fun k => spec_PairsUpTo.l0 k (most : Int) (prows xs) (x : Int)) (prows R, true) := by
  induction d with
  | zero =>
    intro x xs h1 h2 h3 h4 h5
    refine ⟨xs, by omega, fun y hy => by have := h4 y hy; omega, h5, evs (fun k => by rw [impl_PairsUpTo.l0]) ?_, evs (fun k => by rw [spec_PairsUpTo.l0]) ?_⟩
    · exact evn (by omega) (Ev.now _)
    · exact evn (by omega) (Ev.now _)
  | succ d ih =>
    intro x xs h1 h2 h3 h4 h5
    obtain ⟨hs, hi⟩ := partner_full x h1 (by omega)
    have hl : (prows xs).length = xs.length := by simp [prows]
    by_cases h : x < pt x
    · obtain ⟨R, g1, g2, g3, g4, g5⟩ := ih (x + 1) (xs ++ [x]) (by omega) (by omega) (by simp; omega) (fun y hy => by
          rcases List.mem_append.1 hy with hy | hy
          · have := h4 y hy; omega
          · obtain rfl := List.mem_singleton.1 hy
            omega) (List.pairwise_append.2 ⟨h5, by simp, fun y hy z hz => by
          obtain rfl := List.mem_singleton.1 hz
          exact (h4 y hy).2.1⟩)
      have e : prows (xs ++ [x]) = prows xs ++ [[(x : Int), (pt x : Int)]] := by simp [prows, prow]
      rw [e] at g4 g5
      refine ⟨R, g1, g2, g3, evs (fun k => by rw [impl_PairsUpTo.l0]) ?_, evs (fun k => by rw [spec_PairsUpTo.l0]) ?_⟩
      · rw [w64 (x := (x : Int) + 1) (by omega) (by omega)]
        exact evp (by omega) (evb hi (evp (by omega) (evp (by omega) g4)))
      · rw [w64 (x := (x : Int) + 1) (by omega) (by omega)]
        exact evp (by omega) (evb hs (evp (by omega) (evp (by omega) g5)))
    · obtain ⟨R, g1, g2, g3, g4, g5⟩ := ih (x + 1) xs (by omega) (by omega) (by omega) (fun y hy => by have := h4 y hy; omega) h5
      refine ⟨R, g1, g2, g3, evs (fun k => by rw [impl_PairsUpTo.l0]) ?_, evs (fun k => by rw [spec_PairsUpTo.l0]) ?_⟩
      · rw [w64 (x := (x : Int) + 1) (by omega) (by omega)]
        exact evp (by omega) (evb hi (evn (by omega) g4))
      · rw [w64 (x := (x : Int) + 1) (by omega) (by omega)]
        exact evp (by omega) (evb hs (evn (by omega) g5))
theorem pairs_both (m : Int) : ∃ (R : List Nat) (t : Bool), R.length ≤ 10001 ∧ (∀ y ∈ R, 1 ≤ y ∧ y ≤ 10000 ∧ y < pt y) ∧ R.Pairwise (· < ·) ∧ Ev (fun k => impl_PairsUpTo.f k m) (prows R, t) ∧ Ev (fun k => spec_PairsUpTo.f k m) (prows R, t) := by
  simp only [impl_PairsUpTo.f, spec_PairsUpTo.f, impl_in_eq, spec_l1In_eq, Option.bind_some, decide_eq_true_eq]
  by_cases h : 0 ≤ m ∧ m ≤ 10000
  · obtain ⟨m, rfl⟩ := natOf (a := m) (by omega)
    obtain ⟨R, g1, g2, g3, g4, g5⟩ := pairs_loop m (by omega) m 1 [] (by omega) (by omega) (by simp) (by simp) (by simp)
    exact ⟨R, true, g1, g2, g3, evp h g4, evp h g5⟩
  · exact ⟨[], false, by simp, by simp, by simp, evn h (evr rfl), evn h (evr rfl)⟩
theorem rd_L1_at (pre post : List (List Int)) (x : List Int) : rd_L2 (pre ++ x :: post) (pre.length : Int) = x := by simp [rd_L2]
theorem rows_loop (whole : List (List Int)) (hr : ∀ x ∈ whole, x.length ≤ 1000000) (post : List (List Int)) : ∀ pre : List (List Int), whole = pre ++ post → whole.length ≤ 1000000 →
    Ev (fun k => laws_qSameRows.l0 k whole whole (whole.length : Int) (pre.length : Int)) true := by
  induction post with
  | nil =>
    intro pre hw h
    refine evs (fun k => by rw [laws_qSameRows.l0]) ?_
    exact evn (by simp [hw]) (Ev.now _)
  | cons x post ih =>
    intro pre hw h
    have hl : whole.length = pre.length + (post.length + 1) := by simp [hw]
    have hx : rd_L2 whole (pre.length : Int) = x := by rw [hw]; exact rd_L1_at pre post x
    have h2 := ih (pre ++ [x]) (by simp [hw]) h
    have hxl := hr x (by rw [hw]; simp)
    refine evs (fun k => by rw [laws_qSameRows.l0]) ?_
    rw [hx, w64 (x := (pre.length : Int) + 1) (by omega) (by omega)]
    refine evp (by omega) (evp (by omega) (evp (by omega) (evp (by omega) (evb (laws_qSame_self _ (by omega)) (evp rfl ?_)))))
    simpa using h2
theorem rows_self (rows : List (List Int)) (hr : ∀ x ∈ rows, x.length ≤ 1000000) (h : rows.length ≤ 1000000) : Ev (fun k => laws_qSameRows.f k rows rows) true := by
  unfold laws_qSameRows.f
  exact evp rfl (by simpa using rows_loop rows hr rows [] rfl h)
/-- Perfect numbers. -/
theorem pr_two : IsPr 2 := ⟨by omega, fun d h1 h2 => by omega⟩
theorem geo_two (k : Nat) : geo 2 k + 1 = 2 ^ (k + 1) := by
  induction k with
  | zero => rfl
  | succ k ih =>
    have e1 : 2 ^ (k + 1) = 2 ^ k * 2 := Nat.pow_succ ..
    have e2 : 2 ^ (k + 1 + 1) = 2 ^ (k + 1) * 2 := Nat.pow_succ ..
    simp only [geo]
    omega
theorem perfect_sg (p : Nat) (hp : 2 ≤ p) (hq : IsPr (2 ^ p - 1)) : sg (2 ^ (p - 1) * (2 ^ p - 1)) = 2 * (2 ^ (p - 1) * (2 ^ p - 1)) := by
  have h2 : 4 ≤ 2 ^ p := by
    have : 2 ^ 2 ≤ 2 ^ p := Nat.pow_le_pow_right (by omega) hp
    omega
  have he : 2 ^ p = 2 * 2 ^ (p - 1) := by rw [← Nat.pow_succ']; congr 1; omega
  have hodd : ¬ 2 ∣ 2 ^ p - 1 := by
    rintro ⟨c, hc⟩
    omega
  have h := (sg_pow pr_two (by omega : 1 ≤ 2 ^ p - 1) hodd (p - 1)).1
  have hg := geo_two (p - 1)
  rw [show p - 1 + 1 = p by omega] at hg
  rw [h, sg_prime hq, show geo 2 (p - 1) = 2 ^ p - 1 by omega, show 2 ^ p - 1 + 1 = 2 * 2 ^ (p - 1) by omega, Nat.mul_comm (2 ^ p - 1), Nat.mul_assoc]
theorem shl_nat (x p : Nat) (hp : p ≤ 60) (h : x * 2 ^ p ≤ 9223372036854775807) : shl .i64 (x : Int) (p : Int) = ((x * 2 ^ p : Nat) : Int) := by
  unfold shl
  rw [Int.toNat_natCast, show IntKind.bits .i64 = 64 from rfl, Nat.min_eq_left (by omega), i64_w]
  have e : (x : Int) * 2 ^ p = ((x * 2 ^ p : Nat) : Int) := by simp
  rw [e, w64n _ h]
theorem perfect_ev (x : Int) (hx : x ≤ 1000) : ∃ (v : Int) (t : Bool), Ev (fun k => impl_EvenPerfect.f k x) (v, t) ∧ Ev (fun k => spec_EvenPerfect.f k x) (v, t) ∧ (t = true → ∃ n : Nat, v = (n : Int) ∧ 1 ≤ n ∧ n ≤ 1000000000 ∧ sg n = 2 * n) := by
  simp only [impl_EvenPerfect.f, spec_EvenPerfect.f, impl_in_eq, spec_l1In_eq, Option.bind_some, decide_eq_true_eq]
  by_cases h : 2 ≤ x ∧ x ≤ 15
  · obtain ⟨p, rfl⟩ := natOf (a := x) (by omega)
    have hp2 : 2 ^ p ≤ 2 ^ 15 := Nat.pow_le_pow_right (by omega) (by omega)
    have hp1 : 2 ^ (p - 1) ≤ 2 ^ 14 := Nat.pow_le_pow_right (by omega) (by omega)
    have hpos : 1 ≤ 2 ^ (p - 1) := Nat.pow_pos (by omega)
    have h4 : 2 ^ 2 ≤ 2 ^ p := Nat.pow_le_pow_right (by omega) (by omega)
    have s1 := shl_nat 1 p (by omega) (by omega)
    have s2 := shl_nat 1 (p - 1) (by omega) (by omega)
    rw [Nat.one_mul] at s1 s2
    have hprod : 2 ^ (p - 1) * (2 ^ p - 1) ≤ 2 ^ 14 * 2 ^ 15 := Nat.mul_le_mul hp1 (by omega)
    have hprod1 : 1 * 1 ≤ 2 ^ (p - 1) * (2 ^ p - 1) := Nat.mul_le_mul hpos (by omega)
    have s1' : shl .i64 1 (p : Int) = ((2 ^ p : Nat) : Int) := s1
    have s2' : shl .i64 1 ((p - 1 : Nat) : Int) = ((2 ^ (p - 1) : Nat) : Int) := s2
    obtain ⟨A, hA⟩ : ∃ A, 2 ^ p = A := ⟨_, rfl⟩
    obtain ⟨B, hB⟩ : ∃ B, 2 ^ (p - 1) = B := ⟨_, rfl⟩
    have hperf := perfect_sg p (by omega)
    rw [hA] at hp2 h4 hprod hprod1 hperf s1'
    rw [hB] at hp1 hpos hprod hprod1 hperf s2'
    clear s1 s2
    have e3 : wrap64 ((p : Int) - 1) = ((p - 1 : Nat) : Int) := by rw [w64 (by omega) (by omega)]; omega
    have e1 : wrap64 (((A : Nat) : Int) - 1) = ((A - 1 : Nat) : Int) := by rw [w64 (by omega) (by omega)]; omega
    have e2 : wrap64 (((B : Nat) : Int) * ((A - 1 : Nat) : Int)) = ((B * (A - 1) : Nat) : Int) := by rw [← Int.natCast_mul, w64n _ (by omega)]
    rw [e3, s1', s2', e1, e2]
    clear e1 e2 e3
    obtain ⟨t, hs, hi, ht⟩ := dvPrime_ev ((A - 1 : Nat) : Int) (by omega)
    cases t with
    | false => exact ⟨0, false, evp h (evp (by omega) (evb hi (evn (by simp) (Ev.now _)))), evp h (evp (by omega) (evb hs (evn (by simp) (Ev.now _)))), fun h => by simp at h⟩
    | true =>
      obtain ⟨_, hpr⟩ := ht rfl
      rw [Int.toNat_natCast] at hpr
      exact ⟨_, true, evp h (evp (by omega) (evb hi (evp rfl (evp (by omega) (Ev.now _))))), evp h (evp (by omega) (evb hs (evp rfl (evp (by omega) (Ev.now _))))), fun _ => ⟨B * (A - 1), rfl, by omega, by omega, hperf hpr⟩⟩
  · exact ⟨0, false, evn h (Ev.now _), evn h (Ev.now _), fun h => by simp at h⟩
theorem kind_zero (n : Nat) (h1 : 1 ≤ n) (h2 : n ≤ 1000000000) (h : sg n = 2 * n) : Ev (fun k => impl_KindOfNumber.f k (n : Int)) (0, true) := by
  obtain ⟨_, pi⟩ := proper_info n h1 h2
  have e : (sg n : Int) - (n : Int) = (n : Int) := by omega
  rw [e] at pi
  simp only [impl_KindOfNumber.f, impl_isDivided_eq, Option.bind_some, decide_eq_true_eq]
  exact evp (by omega) (evb pi (evn (by omega) (evn (by omega) (Ev.now _))))
/-- Pairs by the rule of three prime numbers. -/
theorem thabit_pt (k u v w : Nat) (hu : IsPr u) (hv : IsPr v) (hw : IsPr w) (huv : u < v) (hu2 : u % 2 = 1) (hv2 : v % 2 = 1) (hw2 : w % 2 = 1) (h1 : geo 2 k * ((u + 1) * (v + 1)) = 2 ^ k * (u * v) + 2 ^ k * w) (h2 : geo 2 k * (w + 1) = 2 ^ k * (u * v) + 2 ^ k * w) (hne : u * v < w) (hb : 2 ^ k * w ≤ 1000000000) : pt (2 ^ k * (u * v)) = 2 ^ k * w := by
  have hu1 := hu.1
  have hv1 := hv.1
  have hw1 := hw.1
  have hk : 1 ≤ 2 ^ k := Nat.pow_pos (by omega)
  have hcop : Nat.Coprime u v := pr_coprime hu (fun h => by
    have := pr_eq hu hv h
    omega)
  have huv1 : 1 * 1 ≤ u * v := Nat.mul_le_mul (by omega) (by omega)
  have ho : ¬ 2 ∣ u * v := fun h => by
    rcases pr_mul pr_two h with h | h
    · have := Nat.mod_eq_zero_of_dvd h; omega
    · have := Nat.mod_eq_zero_of_dvd h; omega
  have hw3 : ¬ 2 ∣ w := fun h => by have := Nat.mod_eq_zero_of_dvd h; omega
  have s1 := (sg_pow pr_two (by omega : 1 ≤ u * v) ho k).1
  have s2 := (sg_pow pr_two (by omega : 1 ≤ w) hw3 k).1
  rw [(sg_mul u v (by omega) (by omega) hcop).1, sg_prime hu, sg_prime hv, h1] at s1
  rw [sg_prime hw, h2] at s2
  have hlt : 2 ^ k * (u * v) < 2 ^ k * w := Nat.mul_lt_mul_of_pos_left hne hk
  have hpos : 2 ^ k * 1 ≤ 2 ^ k * w := Nat.mul_le_mul_left _ (by omega)
  obtain ⟨A, hA⟩ : ∃ A, 2 ^ k * (u * v) = A := ⟨_, rfl⟩
  obtain ⟨B, hB⟩ : ∃ B, 2 ^ k * w = B := ⟨_, rfl⟩
  rw [hA, hB] at s1 s2 hlt
  rw [hB] at hb hpos
  rw [hA, hB]
  unfold pt
  rw [s1, show A + B - A = B by omega, s2, if_pos ⟨by omega, by omega, hb, by omega⟩]
theorem thabit_case (x : Int) (hx : 2 ≤ x ∧ x ≤ 7) (k u v w : Nat) (e1 : wrap64 ((shl .i64 3 (wrap64 (x - 1))) - 1) = (u : Int)) (e2 : wrap64 ((shl .i64 3 x) - 1) = (v : Int)) (e3 : wrap64 ((shl .i64 9 (wrap64 ((wrap64 (2 * x)) - 1))) - 1) = (w : Int))
    (e4 : shl .i64 (wrap64 ((u : Int) * (v : Int))) x = ((2 ^ k * (u * v) : Nat) : Int)) (e5 : shl .i64 (w : Int) x = ((2 ^ k * w : Nat) : Int)) (hw9 : w ≤ 1000000000) (huv : u < v) (hvw : v ≤ w) (hu2 : u % 2 = 1) (hv2 : v % 2 = 1) (hw2 : w % 2 = 1) (h1 : geo 2 k * ((u + 1) * (v + 1)) = 2 ^ k * (u * v) + 2 ^ k * w) (h2 : geo 2 k * (w + 1) = 2 ^ k * (u * v) + 2 ^ k * w) (hne : u * v < w) (hb : 2 ^ k * w ≤ 1000000000) (hA1 : 1 ≤ 2 ^ k * (u * v)) (hA2 : 2 ^ k * (u * v) ≤ 1000000000) (hB1 : 1 ≤ 2 ^ k * w) :
    ∃ (a b : Int) (t : Bool), Ev (fun k => impl_ThabitPair.f k x) (a, b, t) ∧ Ev (fun k => spec_ThabitPair.f k x) (a, b, t) ∧ (t = true → ∃ A : Nat, a = (A : Int) ∧ 1 ≤ A ∧ A ≤ 1000000000 ∧ b = (pt A : Int) ∧ 0 < pt A) := by
  have g1 : 0 ≤ wrap64 (x - 1) := by rw [w64 (by omega) (by omega)]; omega
  have g2 : 0 ≤ wrap64 (wrap64 (2 * x) - 1) := by rw [w64 (x := 2 * x) (by omega) (by omega), w64 (by omega) (by omega)]; omega
  obtain ⟨t1, s1, i1, p1⟩ := dvPrime_ev (u : Int) (by omega)
  obtain ⟨t2, s2, i2, p2⟩ := dvPrime_ev (v : Int) (by omega)
  obtain ⟨t3, s3, i3, p3⟩ := dvPrime_ev (w : Int) (by omega)
  simp only [impl_ThabitPair.f, spec_ThabitPair.f, impl_in_eq, spec_l1In_eq, Option.bind_some, decide_eq_true_eq]
  rw [e1, e2, e3, e4, e5]
  have hx0 : 0 ≤ x := by omega
  have no : ∀ (P : Nat → Option Bool) (Q : Nat → Option Bool), True := fun _ _ => trivial
  cases t1 with
  | false => exact ⟨0, 0, false, evp hx (evp g1 (evp hx0 (evp g2 (evb i1 (evn (by simp) (Ev.now _)))))), evp hx (evp g1 (evp hx0 (evp g2 (evb s1 (evn (by simp) (Ev.now _)))))), fun h => by simp at h⟩
  | true =>
    cases t2 with
    | false => exact ⟨0, 0, false, evp hx (evp g1 (evp hx0 (evp g2 (evb i1 (evp rfl (evb i2 (evn (by simp) (Ev.now _)))))))), evp hx (evp g1 (evp hx0 (evp g2 (evb s1 (evp rfl (evb s2 (evn (by simp) (Ev.now _)))))))), fun h => by simp at h⟩
    | true =>
      cases t3 with
      | false => exact ⟨0, 0, false, evp hx (evp g1 (evp hx0 (evp g2 (evb i1 (evp rfl (evb i2 (evp rfl (evb i3 (evn (by simp) (Ev.now _)))))))))), evp hx (evp g1 (evp hx0 (evp g2 (evb s1 (evp rfl (evb s2 (evp rfl (evb s3 (evn (by simp) (Ev.now _)))))))))), fun h => by simp at h⟩
      | true =>
        have hp := thabit_pt k u v w (by simpa using (p1 rfl).2) (by simpa using (p2 rfl).2) (by simpa using (p3 rfl).2) huv hu2 hv2 hw2 h1 h2 hne hb
        exact ⟨_, _, true, evp hx (evp g1 (evp hx0 (evp g2 (evb i1 (evp rfl (evb i2 (evp rfl (evb i3 (evp rfl (Ev.now _)))))))))), evp hx (evp g1 (evp hx0 (evp g2 (evb s1 (evp rfl (evb s2 (evp rfl (evb s3 (evp rfl (Ev.now _)))))))))), fun _ => ⟨2 ^ k * (u * v), rfl, hA1, hA2, by rw [hp], by rw [hp]; omega⟩⟩
theorem thabit_ev (x : Int) : ∃ (a b : Int) (t : Bool), Ev (fun k => impl_ThabitPair.f k x) (a, b, t) ∧ Ev (fun k => spec_ThabitPair.f k x) (a, b, t) ∧ (t = true → ∃ A : Nat, a = (A : Int) ∧ 1 ≤ A ∧ A ≤ 1000000000 ∧ b = (pt A : Int) ∧ 0 < pt A) := by
  by_cases h : 2 ≤ x ∧ x ≤ 7
  · have hc : x = 2 ∨ x = 3 ∨ x = 4 ∨ x = 5 ∨ x = 6 ∨ x = 7 := by omega
    rcases hc with rfl | rfl | rfl | rfl | rfl | rfl
    · exact thabit_case 2 h 2 5 11 71 (by decide +kernel) (by decide +kernel) (by decide +kernel) (by decide +kernel) (by decide +kernel) (by decide) (by decide) (by decide) (by decide) (by decide) (by decide) (by decide) (by decide) (by decide) (by decide) (by decide) (by decide) (by decide)
    · exact thabit_case 3 h 3 11 23 287 (by decide +kernel) (by decide +kernel) (by decide +kernel) (by decide +kernel) (by decide +kernel) (by decide) (by decide) (by decide) (by decide) (by decide) (by decide) (by decide) (by decide) (by decide) (by decide) (by decide) (by decide) (by decide)
    · exact thabit_case 4 h 4 23 47 1151 (by decide +kernel) (by decide +kernel) (by decide +kernel) (by decide +kernel) (by decide +kernel) (by decide) (by decide) (by decide) (by decide) (by decide) (by decide) (by decide) (by decide) (by decide) (by decide) (by decide) (by decide) (by decide)
    · exact thabit_case 5 h 5 47 95 4607 (by decide +kernel) (by decide +kernel) (by decide +kernel) (by decide +kernel) (by decide +kernel) (by decide) (by decide) (by decide) (by decide) (by decide) (by decide) (by decide) (by decide) (by decide) (by decide) (by decide) (by decide) (by decide)
    · exact thabit_case 6 h 6 95 191 18431 (by decide +kernel) (by decide +kernel) (by decide +kernel) (by decide +kernel) (by decide +kernel) (by decide) (by decide) (by decide) (by decide) (by decide) (by decide) (by decide) (by decide) (by decide) (by decide) (by decide) (by decide) (by decide)
    · exact thabit_case 7 h 7 191 383 73727 (by decide +kernel) (by decide +kernel) (by decide +kernel) (by decide +kernel) (by decide +kernel) (by decide) (by decide) (by decide) (by decide) (by decide) (by decide) (by decide) (by decide) (by decide) (by decide) (by decide) (by decide) (by decide)
  · simp only [impl_ThabitPair.f, spec_ThabitPair.f, impl_in_eq, spec_l1In_eq, Option.bind_some, decide_eq_true_eq]
    exact ⟨0, 0, false, evn h (Ev.now _), evn h (Ev.now _), fun h => by simp at h⟩
theorem flt_mem (P : Int → Int) (n : Int) (d : Nat) : ∀ m : Int, (∀ x ∈ flt P n d m, P x = n ∧ m ≤ x ∧ x < m + d) ∧ (flt P n d m).Pairwise (· < ·) := by
  induction d with
  | zero => intro m; simp [flt]
  | succ d ih =>
    intro m
    obtain ⟨h1, h2⟩ := ih (m + 1)
    simp only [flt]
    split
    · rename_i h
      refine ⟨fun x hx => ?_, List.pairwise_cons.2 ⟨fun x hx => by have := h1 x hx; omega, h2⟩⟩
      rcases List.mem_cons.1 hx with rfl | hx
      · exact ⟨h, by omega, by omega⟩
      · have := h1 x hx
        exact ⟨this.1, by omega, by omega⟩
    · exact ⟨fun x hx => by have := h1 x hx; exact ⟨this.1, by omega, by omega⟩, h2⟩
/-- What SourcesOf returns. -/
theorem sources_info (P : Int → Int) (hP : PropFn P) (n : Int) : ∃ (L : List Int) (t : Bool), (t = true → 2 ≤ n ∧ n ≤ 100 ∧ L = flt P n 9800 2) ∧ (t = false → L = []) ∧ L.length ≤ 9800 ∧ Ev (fun k => spec_SourcesOf.f k n) (L, t) ∧ Ev (fun k => impl_SourcesOf.f k n) (L, t) := by
  simp only [spec_SourcesOf.f, impl_SourcesOf.f, spec_l1In_eq, impl_in_eq, Option.bind_some, decide_eq_true_eq]
  by_cases h : 2 ≤ n ∧ n ≤ 100
  · obtain ⟨y, hy, hy2, hev⟩ := sources_ev P hP
    have hb : (n - 1) * (n - 1) ≤ 99 * 99 := Int.mul_le_mul (by omega) (by omega) (by omega) (by omega)
    have hb1 : 1 * 1 ≤ (n - 1) * (n - 1) := Int.mul_le_mul (by omega) (by omega) (by omega) (by omega)
    have h1 := dvSources_loop P hP n ((n - 1) * (n - 1)) rfl (by omega) h.2 (by omega) (by omega) ((n - 1) * (n - 1) + 1 - 2).toNat 2 [] (by omega) rfl (by simp; omega)
    rw [List.nil_append] at h1
    have h2 : flt P n 9800 2 = flt P n ((n - 1) * (n - 1) + 1 - 2).toNat 2 := by
      have := flt_cut P hP n h.1 h.2 ((n - 1) * (n - 1) + 1 - 2).toNat (by omega) (9800 - ((n - 1) * (n - 1) + 1 - 2).toNat) (by omega)
      rwa [show ((n - 1) * (n - 1) + 1 - 2).toNat + (9800 - ((n - 1) * (n - 1) + 1 - 2).toNat) = 9800 by omega] at this
    rw [← h2] at h1
    refine ⟨flt P n 9800 2, true, fun _ => ⟨h.1, h.2, rfl⟩, fun h => by simp at h, flt_length P n 9800 2, evp h (evb h1 (Ev.now _)), evp h (evb hev (evp (by omega) (evp (by omega) (evr ?_))))⟩
    rw [hy2 n h.1 h.2]
  · exact ⟨[], false, fun h => by simp at h, fun _ => rfl, by simp, evn h (Ev.now _), evn h (Ev.now _)⟩
theorem noSources_pick2 (n : Int) (h3 : n ≤ 100) (y : List Int) (z : List (List Int)) (hy : (y.length : Int) = n + 1) (hz : z.length = 101) (he : ∀ j, 2 ≤ j → j ≤ n → (rd y j = 0 ↔ ((rd_L2 z j).length : Int) = 0)) (d : Nat) :
    ∀ (j : Int) (out : List Int), 2 ≤ j → (n + 1 - j).toNat = d → out.length + d ≤ 1000 → ∃ r : List Int, r.length ≤ 1000 ∧ (∀ i, i ∈ r ↔ i ∈ out ∨ (j ≤ i ∧ i ≤ n ∧ rd_L2 z i = [])) ∧ Ev (fun k => spec_NoSources.l1 k n y out j) (r, true) ∧ Ev (fun k => impl_NoSources.l0 k n out z j) (r, true) := by
  induction d with
  | zero =>
    intro j out hj hd ho
    exact ⟨out, by omega, fun i => ⟨Or.inl, fun h => by rcases h with h | h; exact h; omega⟩, evs (fun k => by rw [spec_NoSources.l1]) (evn (by omega) (Ev.now _)), evs (fun k => by rw [impl_NoSources.l0]) (evn (by omega) (Ev.now _))⟩
  | succ d ih =>
    intro j out hj hd ho
    have e1 := w64 (x := j + 1) (by omega) (by omega)
    have hh := he j hj (by omega)
    have hnil : ((rd_L2 z j).length : Int) = 0 ↔ rd_L2 z j = [] := by
      constructor
      · intro h; exact List.eq_nil_of_length_eq_zero (by omega)
      · intro h; rw [h]; rfl
    by_cases h : rd y j = 0
    · obtain ⟨r, hr, hm, a, b⟩ := ih (j + 1) (out ++ [j]) (by omega) (by omega) (by simp; omega)
      have hz0 := hnil.1 (hh.1 h)
      have hlen := hh.1 h
      refine ⟨r, hr, fun i => ?_, evs (fun k => by rw [spec_NoSources.l1, e1]) ?_, evs (fun k => by rw [impl_NoSources.l0, e1]) ?_⟩
      · rw [hm i, List.mem_append, List.mem_singleton]
        constructor
        · rintro ((h | rfl) | h)
          · exact Or.inl h
          · exact Or.inr ⟨by omega, by omega, hz0⟩
          · exact Or.inr ⟨by omega, h.2⟩
        · rintro (h | h)
          · exact Or.inl (Or.inl h)
          · by_cases c : i = j
            · exact Or.inl (Or.inr c)
            · exact Or.inr ⟨by omega, h.2⟩
      · clear e1
        exact evp (by omega) (evp (by omega) (evp (by omega) (evp h (evp (by omega) a))))
      · clear e1
        exact evp (by omega) (evp (by omega) (evp (by omega) (evp hlen (evp (by omega) b))))
    · obtain ⟨r, hr, hm, a, b⟩ := ih (j + 1) out (by omega) (by omega) (by omega)
      have hz0 : rd_L2 z j ≠ [] := fun e => h (hh.2 (hnil.2 e))
      refine ⟨r, hr, fun i => ?_, evs (fun k => by rw [spec_NoSources.l1, e1]) ?_, evs (fun k => by rw [impl_NoSources.l0, e1]) ?_⟩
      · rw [hm i]
        constructor
        · rintro (h | h)
          · exact Or.inl h
          · exact Or.inr ⟨by omega, h.2⟩
        · rintro (h | h)
          · exact Or.inl h
          · by_cases c : i = j
            · subst c
              exact absurd h.2.2 hz0
            · exact Or.inr ⟨by omega, h.2⟩
      · clear e1
        exact evp (by omega) (evp (by omega) (evp (by omega) (evn h a)))
      · clear e1
        exact evp (by omega) (evp (by omega) (evp (by omega) (evn (fun e => h (hh.2 e)) b)))
theorem noSources_info (P : Int → Int) (hP : PropFn P) (n : Int) : ∃ (L : List Int) (t : Bool), (t = true → ∀ i, 2 ≤ i → i ≤ n → (i ∈ L ↔ flt P i 9800 2 = [])) ∧ L.length ≤ 1000 ∧ Ev (fun k => spec_NoSources.f k n) (L, t) ∧ Ev (fun k => impl_NoSources.f k n) (L, t) := by
  simp only [spec_NoSources.f, impl_NoSources.f, spec_l1In_eq, impl_in_eq, Option.bind_some, decide_eq_true_eq]
  by_cases h : 0 ≤ n ∧ n ≤ 100
  · obtain ⟨z, hz, hz2, hev⟩ := sources_ev P hP
    have hs0 : 0 ≤ (n - 1) * (n - 1) := by
      by_cases h1 : 1 ≤ n
      · exact Int.mul_nonneg (by omega) (by omega)
      · have : n = 0 := by omega
        subst this
        decide
    have hs2 : (n - 1) * (n - 1) ≤ 9801 ∧ (n ≤ 1 → (n - 1) * (n - 1) ≤ 1) := by
      by_cases h1 : 2 ≤ n
      · have : (n - 1) * (n - 1) ≤ 99 * 99 := Int.mul_le_mul (by omega) (by omega) (by omega) (by omega)
        omega
      · have : n = 0 ∨ n = 1 := by omega
        rcases this with rfl | rfl <;> decide
    have h00 : ∀ j, rd (List.replicate (n + 1).toNat (0 : Int)) j = 0 := by
      intro j
      unfold rd
      rw [List.getD_eq_getElem?_getD, List.getElem?_replicate]
      split <;> rfl
    obtain ⟨y, hy, hy2, hfill⟩ := noSources_fill P hP n ((n - 1) * (n - 1)) rfl h.1 h.2 hs0 hs2.1 hs2.2 ((n - 1) * (n - 1) + 1 - 2).toNat 2 (List.replicate (n + 1).toNat 0) (by omega) rfl (by omega) (by simp; omega) (fun j => by rw [h00]; omega)
    have he : ∀ j, 2 ≤ j → j ≤ n → (rd y j = 0 ↔ ((rd_L2 z j).length : Int) = 0) := by
      intro j h2 h4
      have hj0 : 1 * 1 ≤ (j - 1) * (j - 1) := Int.mul_le_mul (by omega) (by omega) (by omega) (by omega)
      have hj1 : (j - 1) * (j - 1) ≤ (n - 1) * (n - 1) := Int.mul_le_mul (by omega) (by omega) (by omega) (by omega)
      have a1 := flt_cut P hP j h2 (by omega) ((j - 1) * (j - 1) - 1).toNat (by omega) (9800 - ((j - 1) * (j - 1) - 1).toNat) (by omega)
      rw [show ((j - 1) * (j - 1) - 1).toNat + (9800 - ((j - 1) * (j - 1) - 1).toNat) = 9800 by omega] at a1
      have a2 := flt_cut P hP j h2 (by omega) ((j - 1) * (j - 1) - 1).toNat (by omega) (((n - 1) * (n - 1) + 1 - 2).toNat - ((j - 1) * (j - 1) - 1).toNat) (by omega)
      rw [show ((j - 1) * (j - 1) - 1).toNat + (((n - 1) * (n - 1) + 1 - 2).toNat - ((j - 1) * (j - 1) - 1).toNat) = ((n - 1) * (n - 1) + 1 - 2).toNat by omega] at a2
      rw [hy2 j h2 h4, h00, hz2 j h2 (by omega), a1, a2]
      omega
    obtain ⟨r, hr, hm, a, b⟩ := noSources_pick2 n h.2 y z hy hz he (n + 1 - 2).toNat 2 [] (by omega) rfl (by simp; omega)
    refine ⟨r, true, fun _ i hi1 hi2 => ?_, hr, evp h ?_, evp h (evb hev b)⟩
    · rw [hm i, hz2 i hi1 (by omega)]
      simp [hi1, hi2]
    · rw [w64 (by omega) (by omega)]
      exact evp (by omega) (evp (by omega) (hfill _ a))
  · exact ⟨[], false, fun h => by simp at h, by simp, evn h (Ev.now _), evn h (Ev.now _)⟩
theorem l2_ok (n : Int) (S : List Int) (N : List Int) (hN : N.length ≤ 1000) (post : List Int) : ∀ (pre : List Int) (m : Bool), N = pre ++ post → m = decide (n ∈ pre) → decide (n ∈ N) = ((S.length : Int) == 0) →
    Ev (fun k => laws_FnPairsAndPerfect.l2 k n S m N (N.length : Int) (pre.length : Int)) true := by
  induction post with
  | nil =>
    intro pre m hw hm he
    refine evs (fun k => by rw [laws_FnPairsAndPerfect.l2]) ?_
    refine evn (by simp [hw]) (evr ?_)
    rw [List.append_nil] at hw
    subst hw
    rw [hm, he]
    simp
  | cons x post ih =>
    intro pre m hw hm he
    have hl : N.length = pre.length + (post.length + 1) := by simp [hw]
    have hx : rd N (pre.length : Int) = x := by rw [hw, rd_mid]
    refine evs (fun k => by rw [laws_FnPairsAndPerfect.l2]) ?_
    rw [hx, w64 (x := (pre.length : Int) + 1) (by omega) (by omega)]
    refine evp (by omega) (evp (by omega) (evp (by omega) ?_))
    cases m with
    | true =>
      have h := ih (pre ++ [x]) true (by simp [hw]) (by
        have := hm.symm
        rw [decide_eq_true_eq] at this
        simp [this]) he
      exact evp rfl (by simpa using h)
    | false =>
      have hn : n ∉ pre := by
        have := hm.symm
        rwa [decide_eq_false_iff_not] at this
      have h := ih (pre ++ [x]) (x == n) (by simp [hw]) (by
        by_cases c : x = n
        · subst c; simp
        · have c2 : ¬ n = x := fun e => c e.symm
          simp [hn, c, c2]) he
      exact evn (by simp) (by simpa using h)
theorem l1_ok (P : Int → Int) (hP : PropFn P) (n : Int) (S : List Int) (t : Bool) (ht : t = true → 2 ≤ n ∧ n ≤ 100 ∧ S = flt P n 9800 2) (hf : t = false → S = []) (hS : S.length ≤ 9800) (m : Int) (N : List Int) (t2 : Bool) (hN : N.length ≤ 1000) (hNm : t2 = true → ∀ i, 2 ≤ i → i ≤ m → (i ∈ N ↔ flt P i 9800 2 = [])) (post : List Int) : ∀ pre : List Int, S = pre ++ post →
    Ev (fun k => laws_FnPairsAndPerfect.l1 k n S t m N t2 S (S.length : Int) (pre.length : Int)) true := by
  have noj : Ev (fun k => laws_FnPairsAndPerfect.j7 k n S N false) true := by
    refine evs (fun k => by rw [laws_FnPairsAndPerfect.j7]) ?_
    exact evn (by simp) (Ev.now _)
  induction post with
  | nil =>
    intro pre hw
    refine evs (fun k => by rw [laws_FnPairsAndPerfect.l1]) ?_
    refine evn (by simp [hw]) ?_
    cases t2 with
    | false => exact evn (by simp) noj
    | true =>
      cases t with
      | false => exact evp rfl (evn (by simp) noj)
      | true =>
        obtain ⟨a1, a2, a3⟩ := ht rfl
        by_cases c : n ≤ m
        · rw [decide_eq_true c]
          refine evp rfl (evp rfl ?_)
          refine evs (fun k => by rw [laws_FnPairsAndPerfect.j7]) ?_
          refine evp rfl (l2_ok n S N hN N [] false rfl (by simp) ?_)
          have hm := hNm rfl n a1 c
          rw [← a3] at hm
          by_cases c2 : S = []
          · rw [decide_eq_true (hm.2 c2), c2]
            rfl
          · rw [decide_eq_false (fun h => c2 (hm.1 h))]
            have : S.length ≠ 0 := fun h => c2 (List.eq_nil_of_length_eq_zero h)
            exact (beq_eq_false_iff_ne.2 (by omega)).symm
        · rw [decide_eq_false c]
          exact evp rfl (evp rfl noj)
  | cons x post ih =>
    intro pre hw
    cases t with
    | false => rw [hf rfl] at hw; simp at hw
    | true =>
      obtain ⟨a1, a2, a3⟩ := ht rfl
      obtain ⟨f1, f2⟩ := flt_mem P n 9800 2
      rw [← a3] at f1 f2
      have hx1 := f1 x (by rw [hw]; simp)
      have hl : S.length = pre.length + (post.length + 1) := by simp [hw]
      have hx : rd S (pre.length : Int) = x := by rw [hw, rd_mid]
      have hp := (hP x (by omega) (by omega)).2.2.2.1
      have hps : Ev (fun k => impl_ProperSum.f k x) (n, true) := by
        simp only [impl_ProperSum.f, impl_isDivided_eq, Option.bind_some, decide_eq_true_eq]
        rw [hx1.1] at hp
        exact evp (by omega) (evb hp (Ev.now _))
      have hnext := ih (pre ++ [x]) (by simp [hw])
      have e2 : (((pre ++ [x]).length : Nat) : Int) = (pre.length : Int) + 1 := by simp
      rw [e2] at hnext
      refine evs (fun k => by rw [laws_FnPairsAndPerfect.l1]) ?_
      rw [hx, w64 (x := (pre.length : Int) + 1) (by omega) (by omega), w64 (x := (pre.length : Int) - 1) (by omega) (by omega)]
      refine evp (by omega) (evp (by omega) (evp (by omega) (evb hps (evp rfl (evp rfl ?_)))))
      by_cases h0 : (pre.length : Int) > 0
      · have hr : rd S ((pre.length : Int) - 1) < x := by
          have hp0 : pre.length - 1 < pre.length := by omega
          rw [show (pre.length : Int) - 1 = ((pre.length - 1 : Nat) : Int) by omega, rd_get _ _ (by omega)]
          have e : S[pre.length - 1]'(by omega) = pre[pre.length - 1] := by
            subst hw
            rw [List.getElem_append_left hp0]
          rw [e]
          rw [hw] at f2
          exact (List.pairwise_append.1 f2).2.2 _ (List.getElem_mem hp0) x (by simp)
        exact evp h0 (evp (by omega) (evp (by omega) (evn (by omega) hnext)))
      · exact evn h0 hnext
theorem drawOne (l : List Int) (hl : ∀ x ∈ l, 0 ≤ x ∧ x ≤ 255) (n : Int) (hn : n ≤ 1000000) : ∃ (v : Bool) (p s : Int), spec_l1Cur_one.f l 0 0 n = some (v, p, s) ∧ 0 ≤ p ∧ p ≤ 2 := by
  obtain ⟨v1, p1, s1, e1, a1, b1, c1, d1, f1⟩ := pick_ok l hl 0 0 n (by omega) (by omega) hn
  unfold spec_l1Cur_one.f
  rw [e1]
  exact ⟨v1 == 0, p1, s1, rfl, d1, by omega⟩
theorem drawSources_ok (l : List Int) (hl : ∀ x ∈ l, 0 ≤ x ∧ x ≤ 255) : ∃ n : Int, spec_DrawSourcesOf.f l = some n := by
  obtain ⟨v, p, s, e, h1, h2⟩ := drawOne l hl 8 (by omega)
  simp only [spec_DrawSourcesOf.f, e, Option.bind_some]
  by_cases h : v = true
  · obtain ⟨x, p2, s2, e2, _⟩ := among_ok l hl p s [0, 1, 100, 101] (by simp) (by simp) (by omega) (by omega)
    rw [if_pos h, e2]
    exact ⟨_, rfl⟩
  · obtain ⟨x, p2, s2, e2, _⟩ := pick_ok l hl p s 40 (by omega) (by omega) (by omega)
    rw [if_neg h, e2]
    exact ⟨_, rfl⟩
theorem drawNo_ok (l : List Int) (hl : ∀ x ∈ l, 0 ≤ x ∧ x ≤ 255) : ∃ n : Int, spec_DrawNoSources.f l = some n := by
  obtain ⟨v, p, s, e, h1, h2⟩ := drawOne l hl 8 (by omega)
  simp only [spec_DrawNoSources.f, e, Option.bind_some]
  by_cases h : v = true
  · obtain ⟨x, p2, s2, e2, _⟩ := among_ok l hl p s [(-1), 0, 1, 2, 100, 101] (by simp) (by simp) (by omega) (by omega)
    rw [if_pos h, e2]
    exact ⟨_, rfl⟩
  · obtain ⟨x, p2, s2, e2, _⟩ := pick_ok l hl p s 50 (by omega) (by omega) (by omega)
    rw [if_neg h, e2]
    exact ⟨_, rfl⟩
theorem drawPairs_ok (l : List Int) (hl : ∀ x ∈ l, 0 ≤ x ∧ x ≤ 255) : ∃ n : Int, spec_DrawPairsUpTo.f l = some n := by
  obtain ⟨v, p, s, e, h1, h2⟩ := drawOne l hl 16 (by omega)
  simp only [spec_DrawPairsUpTo.f, e, Option.bind_some]
  by_cases h : v = true
  · obtain ⟨x, p2, s2, e2, _⟩ := among_ok l hl p s [(-1), 10001, 6000] (by simp) (by simp) (by omega) (by omega)
    rw [if_pos h, e2]
    exact ⟨_, rfl⟩
  · obtain ⟨x, p2, s2, e2, a2, _, _, g1, g2⟩ := pick_ok l hl p s 256 (by omega) (by omega) (by omega)
    obtain ⟨y, p3, s3, e3, _⟩ := pick_ok l hl p2 s2 8 (by omega) (by omega) (by omega)
    rw [if_neg h, e2]
    simp only [Option.bind_some]
    rw [e3]
    exact ⟨_, rfl⟩
theorem j4_ok (l0 l1 : List Int) (hl0 : ∀ x ∈ l0, 0 ≤ x ∧ x ≤ 255) (hl1 : ∀ x ∈ l1, 0 ≤ x ∧ x ≤ 255) : Ev (fun k => laws_FnPairsAndPerfect.j4 k l0 l1) true := by
  obtain ⟨P, hP⟩ := proper_fn
  have hP : PropFn P := hP
  obtain ⟨n, en⟩ := drawSources_ok l0 hl0
  obtain ⟨m, em⟩ := drawNo_ok l1 hl1
  obtain ⟨S, t, s1, s2, s3, s4, s5⟩ := sources_info P hP n
  obtain ⟨N, t2, n1, n2, n3, n4⟩ := noSources_info P hP m
  refine evs (fun k => by rw [laws_FnPairsAndPerfect.j4]) ?_
  simp only [en, em, Option.bind_some]
  refine evb s5 (evb s4 (evb n4 (evb n3 (evn (by simp) (evb (laws_qSame_self _ (by simp only; omega)) (evp rfl (evn (by simp) (evb (laws_qSame_self _ (by simp only; omega)) ?_))))))))
  refine evs (fun k => by rw [laws_FnPairsAndPerfect.j5]) ?_
  exact evn (by simp) (l1_ok P hP n S t s1 s2 s3 m N t2 n2 n1 S [] rfl)
theorem l0_end (l0 l1 : List Int) (hl0 : ∀ x ∈ l0, 0 ≤ x ∧ x ≤ 255) (hl1 : ∀ x ∈ l1, 0 ≤ x ∧ x ≤ 255) (R : List Nat) : Ev (fun k => laws_FnPairsAndPerfect.l0 k l0 l1 (prows R) (prows R) ((prows R).length : Int) ((prows R).length : Int)) true := by
  obtain ⟨p, p1, s1, e1, a1, b1, c1, d1, f1⟩ := pick_ok l1 hl1 0 0 18 (by omega) (by omega) (by omega)
  obtain ⟨q, p2, s2, e2, a2, b2, c2, d2, f2⟩ := pick_ok l1 hl1 0 0 10 (by omega) (by omega) (by omega)
  obtain ⟨v, t, v1, v2, v3⟩ := perfect_ev p (by omega)
  obtain ⟨a, b, t2, w1, w2, w3⟩ := thabit_ev q
  have j4 := j4_ok l0 l1 hl0 hl1
  have j3 : Ev (fun k => laws_FnPairsAndPerfect.j3 k l0 l1 a b t2) true := by
    refine evs (fun k => by rw [laws_FnPairsAndPerfect.j3]) ?_
    cases t2 with
    | false => exact evn (by simp) j4
    | true =>
      obtain ⟨A, rfl, g1, g2, rfl, g4⟩ := w3 rfl
      have h := partner_impl A g1 g2
      rw [decide_eq_true (by omega)] at h
      exact evp rfl (evb h (evp rfl (evp rfl j4)))
  have j2 : Ev (fun k => laws_FnPairsAndPerfect.j2 k l0 l1 v t a b t2 false) true := by
    refine evs (fun k => by rw [laws_FnPairsAndPerfect.j2]) ?_
    cases t with
    | false => exact evn (by simp) (evn (by simp) j3)
    | true =>
      obtain ⟨n, rfl, g1, g2, g3⟩ := v3 rfl
      exact evn (by simp) (evp rfl (evb (kind_zero n g1 g2 g3) (evp rfl (evp rfl j3))))
  have d1 : spec_DrawEvenPerfect.f l1 = some p := by unfold spec_DrawEvenPerfect.f; rw [e1]; rfl
  have d2 : spec_DrawThabitPair.f l1 = some q := by unfold spec_DrawThabitPair.f; rw [e2]; rfl
  refine evs (fun k => by rw [laws_FnPairsAndPerfect.l0]) ?_
  simp only [d1, d2, Option.bind_some]
  refine evn (by omega) (evb v1 (evb v2 (evb w1 (evb w2 (evn (by simp) (evp rfl (evn (by simp) (evp rfl ?_))))))))
  simpa using j2
theorem l0_ok (l0 l1 : List Int) (hl0 : ∀ x ∈ l0, 0 ≤ x ∧ x ≤ 255) (hl1 : ∀ x ∈ l1, 0 ≤ x ∧ x ≤ 255) (R : List Nat) (hl : R.length ≤ 10001) (hR : ∀ y ∈ R, 1 ≤ y ∧ y ≤ 10000 ∧ y < pt y) (hs : R.Pairwise (· < ·)) (post : List Nat) : ∀ pre : List Nat, R = pre ++ post →
    Ev (fun k => laws_FnPairsAndPerfect.l0 k l0 l1 (prows R) (prows R) ((prows R).length : Int) (pre.length : Int)) true := by
  have hlen : (prows R).length = R.length := by simp [prows]
  induction post with
  | nil =>
    intro pre hp
    rw [List.append_nil] at hp
    subst hp
    have h := l0_end l0 l1 hl0 hl1 R
    rw [hlen] at h ⊢
    exact h
  | cons x post ih =>
    intro pre hp
    have hx := hR x (by rw [hp]; simp)
    have hl2 : R.length = pre.length + (post.length + 1) := by rw [hp]; simp
    have hrow : ∀ i (h : i < R.length), rd_L2 (prows R) (i : Int) = prow (R[i]) := by
      intro i h
      simp [rd_L2, prows, List.getD_eq_getElem?_getD, h]
    have hrd : rd_L2 (prows R) (pre.length : Int) = prow x := by
      rw [hrow pre.length (by omega)]
      congr 1
      simp only [hp]
      rw [List.getElem_append_right (by omega)]
      simp
    have r0 : ∀ y, rd (prow y) 0 = (y : Int) := fun y => rfl
    have r1 : rd (prow x) 1 = (pt x : Int) := rfl
    have rl : ∀ y, (((prow y).length : Nat) : Int) = 2 := fun y => rfl
    have hnext := ih (pre ++ [x]) (by rw [hp]; simp)
    have e2 : (((pre ++ [x]).length : Nat) : Int) = (pre.length : Int) + 1 := by simp
    rw [e2] at hnext
    have hpi := partner_impl x hx.1 (by omega)
    rw [decide_eq_true (by omega)] at hpi
    refine evs (fun k => by rw [laws_FnPairsAndPerfect.l0]) ?_
    rw [hrd, r0, r1, rl, w64 (x := (pre.length : Int) + 1) (by omega) (by omega), w64 (x := (pre.length : Int) - 1) (by omega) (by omega)]
    rw [hlen] at hnext ⊢
    refine evp (by omega) (evp (by omega) (evp (by omega) (evp (by omega) (evb hpi (evp rfl (evp (by omega) (evp rfl (evn (by omega) ?_))))))))
    by_cases h0 : (pre.length : Int) > 0
    · have hp0 : pre.length - 1 < pre.length := by omega
      have hprev : rd_L2 (prows R) ((pre.length : Int) - 1) = prow (pre[pre.length - 1]) := by
        rw [show (pre.length : Int) - 1 = ((pre.length - 1 : Nat) : Int) by omega, hrow (pre.length - 1) (by omega)]
        congr 1
        simp only [hp]
        rw [List.getElem_append_left hp0]
      have hlt : pre[pre.length - 1] < x := by
        rw [hp] at hs
        exact (List.pairwise_append.1 hs).2.2 _ (List.getElem_mem hp0) x (by simp)
      rw [hprev, r0, rl]
      exact evp h0 (evp (by omega) (evp (by omega) (evp (by omega) (evn (by omega) hnext))))
    · exact evn h0 hnext
theorem FnPairsAndPerfect : laws_FnPairsAndPerfect.Pure := by
  intro l0 l1 _ _ w0 _ _ w1
  have hb : ∀ l : List Int, (∀ x ∈ l, (Lit.int .u8 x).wf = true) → ∀ x ∈ l, 0 ≤ x ∧ x ≤ 255 := by
    intro l h x hx
    have := h x hx
    simpa [Lit.wf, IntKind.min, IntKind.max, IntKind.signed, IntKind.bits] using this
  have hl0 := hb l0 w0
  have hl1 := hb l1 w1
  refine Ev.rounds (g := fun k => laws_FnPairsAndPerfect.f k l0 l1) ?_
  unfold laws_FnPairsAndPerfect.f
  obtain ⟨t, ht⟩ : ∃ t, laws_big.f l0 l1 = some t := by
    unfold laws_big.f
    split <;> exact ⟨_, rfl⟩
  rw [ht]
  simp only [Option.bind_some]
  cases t with
  | true => exact evp rfl (Ev.now _)
  | false =>
    refine evn (by simp) ?_
    obtain ⟨m, em⟩ := drawPairs_ok l0 hl0
    simp only [em, Option.bind_some]
    obtain ⟨R, t, g1, g2, g3, g4, g5⟩ := pairs_both m
    refine evb g4 (evb g5 (evn (by simp) (evb (rows_self (prows R) (fun x hx => ?_) (by simp [prows]; omega)) ?_)))
    · obtain ⟨y, _, rfl⟩ := List.mem_map.1 hx
      simp [prow]
    · refine evs (fun k => by rw [laws_FnPairsAndPerfect.j0]) ?_
      exact evn (by simp) (l0_ok l0 l1 hl0 hl1 R g1 g2 g3 R [] rfl)

end Go.Proofs.Ytiheocddlopfcaa.Pure
