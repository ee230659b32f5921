/- For all codes: sums and numbers of divisors multiply for numbers without common divisors, and kinds are told by proper sums. -/
import Derived.Test.YtikkpehjleoplaaPFnDivisorsSumx4
import Derived.Test.YtikkpehjleoplaaWMore
set_option linter.unusedVariables false
set_option linter.unusedSimpArgs false
namespace Go.Proofs.Ytikkpehjleoplaa.Pure
open Go.RowKit Go.Proofs.Ytikkpehjleoplaa.PFnDivisorsSum Go.Proofs.YtikkpehjleoplaaW.PrintWords Go.Proofs.YtikkpehjleoplaaW.PrintLast

theorem w64 {x : Int} (h1 : -9223372036854775808 ≤ x) (h2 : x ≤ 9223372036854775807) : wrap64 x = x := by unfold wrap64; omega

theorem w64n (n : Nat) (h : n ≤ 9223372036854775807) : wrap64 (n : Int) = (n : Int) := w64 (by omega) (by omega)

theorem evp {α : Type} {c : Prop} [Decidable c] {a b : Nat → Option α} {r : α} (h : c) (k : Ev a r) : Ev (fun n => if c then a n else b n) r := Ev.congr (fun _ => if_pos h) k
theorem evn {α : Type} {c : Prop} [Decidable c] {a b : Nat → Option α} {r : α} (h : ¬ c) (k : Ev b r) : Ev (fun n => if c then a n else b n) r := Ev.congr (fun _ => if_neg h) k
theorem evr {α : Type} {x r : α} (h : x = r) : Ev (fun _ => some x) r := h ▸ Ev.now x
theorem evb {α β : Type} {g : Nat → Option α} {f : Nat → α → Option β} {a : α} {r : β} (h : Ev g a) (k : Ev (fun n => f n a) r) : Ev (fun n => (g n).bind fun x => f n x) r := Ev.bind h k
theorem evs {α : Type} {g f : Nat → Option α} {r : α} (h : ∀ k, g (k + 1) = f k) (k : Ev f r) : Ev g r := Ev.step h k
theorem evu {α : Type} {g : Nat → Option α} {r s : α} (h : Ev g r) (k : Ev g s) : r = s := by
  obtain ⟨K, h⟩ := h
  obtain ⟨L, k⟩ := k
  have := (h (K + L) (by omega)).symm.trans (k (K + L) (by omega))
  injection this

theorem rd_mid (pre post : List Int) (x : Int) : rd (pre ++ x :: post) (pre.length : Int) = x := by simp [rd]
theorem rd_mid' (pre post : List Int) (x i : Int) (h : i = pre.length) : rd (pre ++ x :: post) i = x := by subst h; exact rd_mid pre post x
theorem set_mid {α : Type} (pre post : List α) (x y : α) : (pre ++ x :: post).set pre.length y = pre ++ y :: post := by simp
theorem set_midI {α : Type} (pre post : List α) (x y : α) (i : Int) (h : i = pre.length) : (pre ++ x :: post).set i.toNat y = pre ++ y :: post := by subst h; simp
theorem rd_nat (xs : List Int) (i : Nat) : rd xs (i : Int) = xs.getD i 0 := by simp [rd]
theorem rd_get (xs : List Int) (i : Nat) (h : i < xs.length) : rd xs (i : Int) = xs[i] := by simp [rd, h]
theorem rd_mem (xs : List Int) (i : Int) (h0 : 0 ≤ i) (h : i < xs.length) : rd xs i ∈ xs := by
  have hi : i.toNat < xs.length := by omega
  simp only [rd, List.getD_eq_getElem?_getD, List.getElem?_eq_getElem hi, Option.getD_some]
  exact List.getElem_mem hi
/-- m, m + 1, .. -/
def iota (m : Int) : Nat → List Int
  | 0 => []
  | n + 1 => m :: iota (m + 1) n
theorem iota_length (m : Int) (n : Nat) : (iota m n).length = n := by induction n generalizing m with
  | zero => rfl
  | succ n ih => simp [iota, ih]
/-- A list is cut in two. -/
theorem cut_at {α : Type} (xs : List α) (i : Nat) (h : i < xs.length) : ∃ pre x post, xs = pre ++ x :: post ∧ pre.length = i := by
  refine ⟨xs.take i, xs[i], xs.drop (i + 1), ?_, by simp; omega⟩
  simp
theorem wf64 {x : Int} (h : (Lit.int .i64 x).wf = true) : -9223372036854775808 ≤ x ∧ x ≤ 9223372036854775807 := by
  have h2 : (decide (IntKind.i64.min ≤ x) && decide (x ≤ IntKind.i64.max)) = true := h
  rw [show IntKind.i64.min = -9223372036854775808 from rfl, show IntKind.i64.max = 9223372036854775807 from rfl] at h2
  simpa using h2

def ic (l : List Nat) : List Int := l.map (fun x : Nat => (x : Int))
theorem ic_nil : ic [] = [] := rfl
theorem ic_cons (x : Nat) (l : List Nat) : ic (x :: l) = (x : Int) :: ic l := rfl
theorem ic_append (l m : List Nat) : ic (l ++ m) = ic l ++ ic m := by simp [ic]
theorem ic_length (l : List Nat) : (ic l).length = l.length := by simp [ic]
theorem ic_drop (l : List Nat) (k : Nat) : (ic l).drop k = ic (l.drop k) := by simp [ic, List.map_drop]
def digs (n b : Nat) : Nat → Nat → List Nat
  | 0, _ => []
  | k + 1, a => a * b / n :: digs n b k (a * b % n)
theorem digs_length (n b k : Nat) : ∀ a, (digs n b k a).length = k := by
  induction k with
  | zero => intro a; rfl
  | succ k ih => intro a; simp [digs, ih]

def IsPr (p : Nat) : Prop := 2 ≤ p ∧ ∀ d, 2 ≤ d → d < p → ¬ d ∣ p
def lprod : List Nat → Nat
  | [] => 1
  | x :: l => x * lprod l
theorem lprod_pos {l : List Nat} (h : ∀ q ∈ l, 0 < q) : 0 < lprod l := by
  induction l with
  | nil => decide
  | cons x l ih => exact Nat.mul_pos (h x (by simp)) (ih (fun q hq => h q (by simp [hq])))
/-- L: the prime factors of n, not falling, none less than p. -/
def Fac (L : List Nat) (n p : Nat) : Prop := (∀ q ∈ L, IsPr q ∧ p ≤ q) ∧ lprod L = n ∧ L.Pairwise (· ≤ ·)
theorem sq_lt {a b : Nat} (h : a * a ≤ b * b) : a ≤ b := by
  by_cases hc : a ≤ b
  · exact hc
  · have : b * b < a * a := Nat.mul_lt_mul_of_lt_of_le (by omega) (by omega) (by omega)
    omega
theorem prime_of_big {n p : Nat} (hn : 1 < n) (hd : ∀ d, 2 ≤ d → d < p → ¬ d ∣ n) (hp : n < p * p) : IsPr n := by
  refine ⟨hn, fun d h2 h3 hdv => ?_⟩
  have h4 : p ≤ d := by
    by_cases h : p ≤ d
    · exact h
    · exact absurd hdv (hd d h2 (by omega))
  obtain ⟨e, he⟩ := hdv
  have h5 : 2 ≤ e := by
    rcases e with _ | _ | e
    · omega
    · omega
    · omega
  have h6 : p ≤ e := by
    by_cases h : p ≤ e
    · exact h
    · exact absurd ⟨d, by rw [he, Nat.mul_comm]⟩ (hd e h5 (by omega))
  have : p * p ≤ d * e := Nat.mul_le_mul h4 h6
  omega

/-- Within a stretch of p: its power, how many, and the sum of its powers. -/
def dvS : List Nat → Nat → Nat → Nat → Nat → Nat → Nat → Nat × Nat
  | [], sum, many, _, _, k, part => (sum * part, many * (k + 1))
  | q :: L, sum, many, p, power, k, part => if q = p then dvS L sum many p (power * p) (k + 1) (part + power * p) else dvS L (sum * part) (many * (k + 1)) q q 1 (1 + q)
def dvL : List Nat → Nat × Nat
  | [] => (1, 1)
  | q :: L => dvS L 1 1 q q 1 (1 + q)
/-- The bounds that hold within a stretch. -/
def DvB (D sum many p power k part R : Nat) : Prop := 1 ≤ sum ∧ sum ≤ D * D ∧ 1 ≤ many ∧ many ≤ D ∧ 2 ≤ p ∧ p ≤ power ∧ 1 ≤ k ∧ k + 1 ≤ power ∧ 1 ≤ part ∧ part + 1 ≤ 2 * power ∧ D * power * R ≤ 1000000000 ∧ 1 ≤ R
theorem DvB.D1 {D sum many p power k part R : Nat} (h : DvB D sum many p power k part R) : 1 ≤ D := by
  obtain ⟨_, _, h3, h4, _⟩ := h
  omega
theorem DvB.fits {D sum many p power k part R : Nat} (h : DvB D sum many p power k part R) : D * power ≤ 1000000000 ∧ power ≤ 1000000000 ∧ D ≤ 1000000000 ∧ sum * part ≤ (D * power) * (D * power) ∧ many * (k + 1) ≤ D * power ∧ sum * part ≤ 1000000000000000000 ∧ sum ≤ 1000000000000000000 := by
  have hD := h.D1
  obtain ⟨h1, h2, h3, h4, h5, h6, h7, h8, h9, h10, h11, h12⟩ := h
  have a1 : D * power * 1 ≤ D * power * R := Nat.mul_le_mul_left _ h12
  have a2 : 1 * power ≤ D * power := Nat.mul_le_mul_right _ hD
  have a3 : D * 1 ≤ D * power := Nat.mul_le_mul_left _ (by omega)
  have a4 : 2 * power ≤ power * power := Nat.mul_le_mul_right _ (by omega)
  have a5 : sum * part ≤ (D * D) * (power * power) := Nat.mul_le_mul h2 (by omega)
  have a6 : (D * D) * (power * power) = (D * power) * (D * power) := by
    rw [Nat.mul_mul_mul_comm]
  have a7 : many * (k + 1) ≤ D * power := Nat.mul_le_mul h4 h8
  have a8 : (D * power) * (D * power) ≤ 1000000000 * 1000000000 := Nat.mul_le_mul (by omega) (by omega)
  have a9 : D * D ≤ 1000000000 * 1000000000 := Nat.mul_le_mul (by omega) (by omega)
  omega
theorem DvB.same {D sum many p power k part R : Nat} (h : DvB D sum many p power k part (p * R)) : DvB D sum many p (power * p) (k + 1) (part + power * p) R := by
  obtain ⟨h1, h2, h3, h4, h5, h6, h7, h8, h9, h10, h11, h12⟩ := h
  have a1 : power * 2 ≤ power * p := Nat.mul_le_mul_left _ h5
  have hR : 1 ≤ R := by
    rcases R with _ | R
    · simp at h12
    · omega
  refine ⟨h1, h2, h3, h4, h5, by omega, by omega, by omega, by omega, by omega, ?_, hR⟩
  rw [← Nat.mul_assoc] at h11
  rw [← Nat.mul_assoc]
  exact h11
theorem DvB.next {D sum many p power k part q R : Nat} (h : DvB D sum many p power k part (q * R)) (hq : 2 ≤ q) : DvB (D * power) (sum * part) (many * (k + 1)) q q 1 (1 + q) R := by
  have hf := h.fits
  obtain ⟨h1, h2, h3, h4, h5, h6, h7, h8, h9, h10, h11, h12⟩ := h
  have hR : 1 ≤ R := by
    rcases R with _ | R
    · simp at h12
    · omega
  have b1 : 1 * 1 ≤ sum * part := Nat.mul_le_mul h1 h9
  have b2 : 1 * 1 ≤ many * (k + 1) := Nat.mul_le_mul h3 (by omega)
  refine ⟨by omega, hf.2.2.2.1, by omega, hf.2.2.2.2.1, hq, Nat.le_refl _, by omega, by omega, by omega, by omega, ?_, hR⟩
  rw [← Nat.mul_assoc] at h11
  exact h11
theorem DvB.first {q R : Nat} (hq : 2 ≤ q) (hR : 1 ≤ R) (h : q * R ≤ 1000000000) : DvB 1 1 1 q q 1 (1 + q) R := ⟨by omega, by omega, by omega, by omega, hq, Nat.le_refl _, by omega, by omega, by omega, by omega, by rw [Nat.one_mul]; exact h, hR⟩

theorem impl_in_eq (a b c : Int) : impl_in.f a b c = some (decide (b ≤ a ∧ a ≤ c)) := by
  unfold impl_in.f
  by_cases h : b ≤ a <;> simp [h]
theorem spec_l1In_eq (a b c : Int) : spec_l1In.f a b c = some (decide (b ≤ a ∧ a ≤ c)) := by
  unfold spec_l1In.f
  by_cases h : b ≤ a <;> simp [h]

theorem low_byte (x : Int) : 0 ≤ Go.bits .and .u64 ((IntKind.u64.wrap x) / 1099511627776) 255 ∧ Go.bits .and .u64 ((IntKind.u64.wrap x) / 1099511627776) 255 ≤ 255 := by
  have h0 : 0 ≤ IntKind.u64.wrap x ∧ IntKind.u64.wrap x < 18446744073709551616 := by rw [IntKind.wrap_u64]; omega
  obtain ⟨y, hy⟩ := Int.eq_ofNat_of_zero_le (show 0 ≤ IntKind.u64.wrap x / 1099511627776 by omega)
  rw [hy]
  have h1 := bits_and_u64_nat y 255 (by omega) (by omega)
  have e : y &&& 255 = y % 256 := Nat.and_two_pow_sub_one_eq_mod y 8
  rw [e] at h1
  rw [show ((255 : Int)) = ((255 : Nat) : Int) from rfl, h1]
  omega
theorem next_ok (l : List Int) (hl : ∀ x ∈ l, 0 ≤ x ∧ x ≤ 255) (p s : Int) (h0 : 0 ≤ p) (h1 : p ≤ 1000000000000) :
    ∃ v s' : Int, spec_l1Cur_next.f l p s = some (v, p + 1, s') ∧ 0 ≤ v ∧ v ≤ 255 := by
  unfold spec_l1Cur_next.f
  rw [w64 (x := p + 1) (by omega) (by omega)]
  by_cases hp : p < (l.length : Int)
  · have hm := hl _ (rd_mem l p h0 hp)
    rw [if_pos hp, if_pos h0]
    by_cases hq : p + 1 ≤ (l.length : Int)
    · rw [if_pos hq]
      refine ⟨_, _, rfl, ?_⟩
      rw [w64 (by omega) (by omega)]
      exact hm
    · omega
  · rw [if_neg hp]
    by_cases hq : p + 1 ≤ (l.length : Int)
    · omega
    · rw [if_neg hq]
      refine ⟨_, _, rfl, ?_⟩
      have h := low_byte (IntKind.u64.wrap (IntKind.u64.wrap (s * 6364136223846793005)) + 1442695040888963407)
      rw [w64 (by omega) (by omega)]
      exact h
theorem pick_ok (l : List Int) (hl : ∀ x ∈ l, 0 ≤ x ∧ x ≤ 255) (p s n : Int) (h0 : 0 ≤ p) (h1 : p ≤ 999999999990) (hn : n ≤ 1000000) :
    ∃ v p' s' : Int, spec_l1Cur_pick.f l p s n = some (v, p', s') ∧ 0 ≤ v ∧ v ≤ 1000000 ∧ (v = 0 ∨ v < n) ∧ p ≤ p' ∧ p' ≤ p + 2 := by
  unfold spec_l1Cur_pick.f
  by_cases h : n ≤ 1
  · rw [if_pos h]
    exact ⟨0, p, s, rfl, by omega, by omega, by omega, by omega, by omega⟩
  · rw [if_neg h]
    obtain ⟨v, s1, e1, h2, h3⟩ := next_ok l hl p s h0 (by omega)
    rw [e1]
    simp only [Option.bind_some]
    by_cases h4 : n > 200
    · rw [if_pos h4]
      obtain ⟨v2, s2, e2, h5, h6⟩ := next_ok l hl (p + 1) s1 (by omega) (by omega)
      rw [e2]
      simp only [Option.bind_some]
      rw [if_neg (by omega), w64 (x := v * 256) (by omega) (by omega), w64 (by omega) (by omega)]
      have h7 := Int.tmod_nonneg n (show 0 ≤ v * 256 + v2 by omega)
      have h8 := Int.tmod_lt_of_pos (v * 256 + v2) (show 0 < n by omega)
      exact ⟨_, _, _, rfl, h7, by omega, Or.inr h8, by omega, by omega⟩
    · rw [if_neg h4, if_neg (by omega)]
      have h7 := Int.tmod_nonneg n (show 0 ≤ v by omega)
      have h8 := Int.tmod_lt_of_pos v (show 0 < n by omega)
      exact ⟨_, _, _, rfl, h7, by omega, Or.inr h8, by omega, by omega⟩
theorem among_ok (l : List Int) (hl : ∀ x ∈ l, 0 ≤ x ∧ x ≤ 255) (p s : Int) (m : List Int) (hm : m ≠ []) (hm2 : m.length ≤ 1000000) (h0 : 0 ≤ p) (h1 : p ≤ 999999999990) :
    ∃ v p' s' : Int, spec_l1Cur_among.f l p s m = some (v, p', s') ∧ v ∈ m ∧ p ≤ p' ∧ p' ≤ p + 2 := by
  unfold spec_l1Cur_among.f
  have hpos := List.length_pos_iff.2 hm
  obtain ⟨v, p', s', e1, h2, h3, h4, h5, h6⟩ := pick_ok l hl p s m.length h0 h1 (by omega)
  rw [e1]
  simp only [Option.bind_some]
  rw [if_pos h2, if_pos (by omega)]
  exact ⟨_, _, _, rfl, rd_mem m v h2 (by omega), h5, h6⟩

theorem pigeon (n : Nat) : ∀ f : Nat → Nat, (∀ i, i ≤ n → f i < n) → ∃ i j, i < j ∧ j ≤ n ∧ f i = f j := by
  induction n with
  | zero => intro f h; exact absurd (h 0 (Nat.le_refl _)) (by omega)
  | succ n ih =>
    intro f h
    by_cases hc : ∃ i, i ≤ n ∧ f i = f (n + 1)
    · obtain ⟨i, hi, he⟩ := hc
      exact ⟨i, n + 1, by omega, Nat.le_refl _, he⟩
    · have hv := h (n + 1) (Nat.le_refl _)
      have hne : ∀ i, i ≤ n → f i ≠ f (n + 1) := fun i hi he => hc ⟨i, hi, he⟩
      obtain ⟨i, j, hij, hj, he⟩ := ih (fun i => if f i = n then f (n + 1) else f i) (fun i hi => by
        have h1 := h i (by omega)
        have h2 := hne i hi
        show (if f i = n then f (n + 1) else f i) < n
        split <;> omega)
      refine ⟨i, j, hij, by omega, ?_⟩
      have h1 := hne i (by omega)
      have h2 := hne j hj
      (try simp only at he)
      split at he <;> split at he <;> omega
theorem least_of {P : Nat → Prop} (h : ∃ k, P k) : ∃ k, P k ∧ ∀ j, j < k → ¬ P j := by
  obtain ⟨k, hk⟩ := h
  induction k using Nat.strongRecOn with
  | _ k ih =>
    by_cases hc : ∃ j, j < k ∧ P j
    · obtain ⟨j, hj, hp⟩ := hc
      exact ih j hj hp
    · exact ⟨k, hk, fun j hj hp => hc ⟨j, hj, hp⟩⟩
theorem mod_of_dvd_sub {a n : Nat} (h1 : 1 ≤ a) (h : n ∣ a - 1) : a % n = 1 % n := by
  obtain ⟨q, hq⟩ := h
  have : a = n * q + 1 := by omega
  rw [this, Nat.mul_add_mod]
theorem pow_back (b n : Nat) (hb : 0 < b) (hn : 0 < n) (hc : Nat.Coprime n b) : ∃ k, 1 ≤ k ∧ k ≤ n ∧ b ^ k % n = 1 % n := by
  obtain ⟨i, j, hij, hj, he⟩ := pigeon n (fun i => b ^ i % n) (fun i _ => Nat.mod_lt _ hn)
  refine ⟨j - i, by omega, by omega, mod_of_dvd_sub (Nat.pow_pos hb) ?_⟩
  have h1 := Nat.sub_mod_eq_zero_of_mod_eq he.symm
  have h2 := Nat.dvd_of_mod_eq_zero h1
  have h3 : b ^ j - b ^ i = b ^ i * (b ^ (j - i) - 1) := by
    rw [Nat.mul_sub, ← Nat.pow_add, Nat.mul_one]
    congr 2
    omega
  rw [h3] at h2
  exact Nat.Coprime.dvd_of_dvd_mul_left (Nat.Coprime.pow_right _ hc) h2
theorem tmod_cast (a b : Nat) : Int.tmod (a : Int) (b : Int) = ((a % b : Nat) : Int) := (Int.ofNat_tmod a b).symm
theorem tdiv_cast (a b : Nat) : Int.tdiv (a : Int) (b : Int) = ((a / b : Nat) : Int) := (Int.ofNat_tdiv a b).symm
theorem natOf {a : Int} (h : 0 ≤ a) : ∃ n : Nat, a = (n : Int) := ⟨a.toNat, by omega⟩

theorem divided_loop (l : List Int) (hl : ∀ x ∈ l, 0 ≤ x ∧ x ≤ 255) (d : Nat) : ∀ x p s : Int, 0 ≤ p → p + 2 * (d : Int) ≤ 1000 → ∃ v p' s' : Int, Ev (fun k => spec_l1Cur_divided.l0 k x (d : Int) l p s) (v, p', s') ∧ p ≤ p' ∧ p' ≤ p + 2 * (d : Int) := by
  induction d with
  | zero =>
    intro x p s h0 h1
    exact ⟨x, p, s, evs (fun k => by rw [spec_l1Cur_divided.l0]) (evn (by omega) (Ev.now _)), by omega, by omega⟩
  | succ d ih =>
    intro x p s h0 h1
    obtain ⟨v, p1, s1, e1, _, h2, h3⟩ := among_ok l hl p s [2, 2, 2, 3, 3, 5, 7, 11, 13] (by simp) (by simp) h0 (by omega)
    obtain ⟨v', p2, s2, e2, h4, h5⟩ := ih (wrap64 (x * v)) p1 s1 (by omega) (by omega)
    refine ⟨v', p2, s2, evs (fun k => by rw [spec_l1Cur_divided.l0]) (evp (by omega) ?_), by omega, by omega⟩
    simp only [e1, Option.bind_some]
    rw [w64 (x := (((d + 1 : Nat)) : Int) - 1) (by omega) (by omega), show (((d + 1 : Nat)) : Int) - 1 = (d : Int) by omega]
    exact e2
theorem divided_ok (l : List Int) (hl : ∀ x ∈ l, 0 ≤ x ∧ x ≤ 255) (p s : Int) (h0 : 0 ≤ p) (h1 : p ≤ 900) : ∃ v p' s' : Int, Ev (fun k => spec_l1Cur_divided.f k l p s) (v, p', s') ∧ p ≤ p' ∧ p' ≤ p + 30 := by
  obtain ⟨v1, p1, s1, e1, a1, b1, c1, d1, f1⟩ := pick_ok l hl p s 8 (by omega) (by omega) (by omega)
  simp only [spec_l1Cur_divided.f, e1, Option.bind_some]
  by_cases h0 : v1 = 0
  · obtain ⟨v, p2, s2, e2, _, h2, h3⟩ := among_ok l hl p1 s1 [(-1), 0, 1, 1000000000, 1000000001, 4611686018427387904] (by simp) (by simp) (by omega) (by omega)
    refine ⟨v, p2, s2, evp h0 ?_, by omega, by omega⟩
    simp only [e2, Option.bind_some]
    exact Ev.now _
  · by_cases h1 : v1 = 1
    · obtain ⟨v, p2, s2, e2, _, h2, h3⟩ := among_ok l hl p1 s1 [6, 28, 496, 8128, 220, 284, 1184, 1210, 12496, 14316, 2620, 276, 562] (by simp) (by simp) (by omega) (by omega)
      refine ⟨v, p2, s2, evn h0 (evp h1 ?_), by omega, by omega⟩
      simp only [e2, Option.bind_some]
      exact Ev.now _
    · by_cases h2 : v1 = 2
      · obtain ⟨v2, p2, s2, e2, a2, b2, c2, d2, f2⟩ := pick_ok l hl p1 s1 256 (by omega) (by omega) (by omega)
        obtain ⟨v3, p3, s3, e3, a3, b3, c3, d3, f3⟩ := pick_ok l hl p2 s2 256 (by omega) (by omega) (by omega)
        refine ⟨wrap64 (1 + wrap64 (v2 * v3)), p3, s3, evn h0 (evn h1 (evp h2 ?_)), by omega, by omega⟩
        simp only [e2, e3, Option.bind_some]
        exact Ev.now _
      · obtain ⟨v2, p2, s2, e2, a2, b2, c2, d2, f2⟩ := pick_ok l hl p1 s1 8 (by omega) (by omega) (by omega)
        obtain ⟨d, rfl⟩ := natOf (a := v2) a2
        obtain ⟨v3, p3, s3, e3, h4, h5⟩ := divided_loop l hl d 1 p2 s2 (by omega) (by omega)
        refine ⟨v3, p3, s3, evn h0 (evn h1 (evn h2 ?_)), by omega, by omega⟩
        simp only [e2, Option.bind_some]
        exact e3
theorem drawPrimeFactors_ok (l : List Int) (hl : ∀ x ∈ l, 0 ≤ x ∧ x ≤ 255) : ∃ n : Int, Ev (fun k => spec_DrawPrimeFactors.f k l) n := by
  obtain ⟨v, p, s, e, _, _⟩ := divided_ok l hl 0 0 (by omega) (by omega)
  exact ⟨v, evb e (Ev.now _)⟩

theorem spec_dvNumber_eq (n : Int) : spec_dvNumber.f n = some (decide (1 ≤ n ∧ n ≤ 1000000000)) := by simp only [spec_dvNumber.f, spec_l1In_eq, Option.bind_some]
theorem impl_isDivided_eq (n : Int) : impl_isDivided.f n = some (decide (1 ≤ n ∧ n ≤ 1000000000)) := by simp only [impl_isDivided.f, impl_in_eq, Option.bind_some]

theorem dvFactors_l1 (M : Nat) : ∀ (n p : Nat) (out : List Int), 1 ≤ n → n ≤ 1000000000 → 2 ≤ p → p ≤ 31623 → out.length + n ≤ 2000000000 → (∀ d, 2 ≤ d → d < p → ¬ d ∣ n) → n + (40000 - p) ≤ M →
    ∃ L, Fac L n p ∧ Ev (fun k => spec_dvFactors.l1 k (n : Int) out (p : Int)) (out ++ ic L) := by
  induction M with
  | zero => intro n p out h1 h2 h3 h4 h5 h6 h7; omega
  | succ M ih =>
    intro n p out h1 h2 h3 h4 h5 h6 h7
    by_cases hd : n % p = 0
    · obtain ⟨m, rfl⟩ := Nat.dvd_of_mod_eq_zero hd
      have hm : 1 ≤ m := by
        rcases m with _ | m
        · omega
        · omega
      have hm2 : 2 * m ≤ p * m := Nat.mul_le_mul_right m h3
      have h9' : m + (40000 - p) ≤ M := by omega
      obtain ⟨L, ⟨hL1, hL2, hL3⟩, hev⟩ := ih m p (out ++ [(p : Int)]) hm (by omega) h3 h4 (by simp; omega) (fun d h8 h9 h10 => h6 d h8 h9 (Nat.dvd_trans h10 (Nat.dvd_mul_left m p))) h9'
      refine ⟨p :: L, ⟨fun q hq => ?_, by simp [lprod, hL2], List.pairwise_cons.2 ⟨fun q hq => (hL1 q hq).2, hL3⟩⟩, ?_⟩
      · rcases List.mem_cons.1 hq with rfl | hq
        · exact ⟨⟨h3, fun d h8 h9 h10 => h6 d h8 h9 (Nat.dvd_trans h10 (Nat.dvd_mul_right _ m))⟩, Nat.le_refl _⟩
        · exact hL1 q hq
      · refine evs (fun k => by rw [spec_dvFactors.l1]) ?_
        rw [tmod_cast, tdiv_cast, hd]
        refine evn (by omega) (evp (by simp) (evp (by omega) ?_))
        rw [Nat.mul_div_cancel_left m (by omega : 0 < p), w64 (by omega) (by omega)]
        simpa [ic_cons] using hev
    · have hdv : ¬ p ∣ n := fun h => hd (Nat.mod_eq_zero_of_dvd h)
      have h6' : ∀ d, 2 ≤ d → d < p + 1 → ¬ d ∣ n := by
        intro d h8 h9 h10
        by_cases he : d = p
        · subst he; exact hdv h10
        · exact h6 d h8 (by omega) h10
      have hsq : ((p + 1 : Nat) : Int) * ((p + 1 : Nat) : Int) = (((p + 1) * (p + 1) : Nat) : Int) := by simp
      have hb : (p + 1) * (p + 1) ≤ 31624 * 31624 := Nat.mul_le_mul (by omega) (by omega)
      have key : ∃ L, Fac L n (p + 1) ∧ Ev (fun k => spec_dvFactors.l0 k (n : Int) out ((p + 1 : Nat) : Int)) (out ++ ic L) := by
        by_cases hc : (p + 1) * (p + 1) ≤ n
        · have hp : p + 1 ≤ 31623 := by
            by_cases h : p + 1 ≤ 31623
            · exact h
            · have : 31624 * 31624 ≤ (p + 1) * (p + 1) := Nat.mul_le_mul (by omega) (by omega)
              omega
          obtain ⟨L, hL, hev⟩ := ih n (p + 1) out h1 h2 (by omega) hp h5 h6' (by omega)
          refine ⟨L, hL, evs (fun k => by rw [spec_dvFactors.l0]) ?_⟩
          rw [hsq, w64 (by omega) (by omega)]
          exact evp (by omega) hev
        · by_cases hn : 1 < n
          · refine ⟨[n], ⟨fun q hq => ?_, by simp [lprod], by simp⟩, evs (fun k => by rw [spec_dvFactors.l0]) ?_⟩
            · rw [List.mem_singleton.1 hq]
              have hpr := prime_of_big hn h6' (by omega)
              refine ⟨hpr, ?_⟩
              by_cases h : p + 1 ≤ n
              · exact h
              · exact absurd (Nat.dvd_refl n) (h6' n (by omega) (by omega))
            · rw [hsq, w64 (by omega) (by omega)]
              exact evn (by omega) (evp (by omega) (evp (by omega) (evr (by simp [ic]))))
          · obtain rfl : n = 1 := by omega
            refine ⟨[], ⟨by simp, by simp [lprod], by simp⟩, evs (fun k => by rw [spec_dvFactors.l0]) ?_⟩
            rw [hsq, w64 (by omega) (by omega)]
            exact evn (by omega) (evn (by omega) (evr (by simp [ic])))
      obtain ⟨L, ⟨hL1, hL2, hL3⟩, hev⟩ := key
      refine ⟨L, ⟨fun q hq => ⟨(hL1 q hq).1, by have := (hL1 q hq).2; omega⟩, hL2, hL3⟩, evs (fun k => by rw [spec_dvFactors.l1]) ?_⟩
      rw [tmod_cast]
      refine evn (by omega) (evn (by omega) ?_)
      rw [w64 (by omega) (by omega)]
      exact hev
theorem dvFactors_ev (n : Nat) (h1 : 1 ≤ n) (h2 : n ≤ 1000000000) : ∃ L, Fac L n 2 ∧ Ev (fun k => spec_dvFactors.f k (n : Int)) (ic L) := by
  unfold spec_dvFactors.f
  by_cases hc : 4 ≤ n
  · obtain ⟨M, hM⟩ : ∃ M, n + (40000 - 2) ≤ M := ⟨_, Nat.le_refl _⟩
    obtain ⟨L, hL, hev⟩ := dvFactors_l1 M n 2 [] h1 h2 (by omega) (by omega) (by simp; omega) (fun d h8 h9 => by omega) hM
    refine ⟨L, hL, evs (fun k => by rw [spec_dvFactors.l0]) ?_⟩
    rw [w64 (by omega) (by omega)]
    exact evp (by omega) (by simpa using hev)
  · by_cases hn : 1 < n
    · refine ⟨[n], ⟨fun q hq => ?_, by simp [lprod], by simp⟩, evs (fun k => by rw [spec_dvFactors.l0]) ?_⟩
      · rw [List.mem_singleton.1 hq]
        exact ⟨prime_of_big (p := 2) hn (fun d h8 h9 => by omega) (by omega), by omega⟩
      · rw [w64 (by omega) (by omega)]
        exact evn (by omega) (evp (by omega) (evp (by simp) (evr (by simp [ic]))))
    · obtain rfl : n = 1 := by omega
      refine ⟨[], ⟨by simp, by simp [lprod], by simp⟩, evs (fun k => by rw [spec_dvFactors.l0]) ?_⟩
      rw [w64 (by omega) (by omega)]
      exact evn (by omega) (evn (by omega) (evr (by simp [ic])))
theorem factors_same_loop : ∀ (k : Nat), (∀ (a : Int) (b : List Int) (c : Int), impl_factors.l0 k a b c = spec_dvFactors.l0 k a b c) ∧ (∀ (a : Int) (b : List Int) (c : Int), impl_factors.l1 k a b c = spec_dvFactors.l1 k a b c)
  | 0 => ⟨fun _ _ _ => rfl, fun _ _ _ => rfl⟩
  | k + 1 => ⟨fun a b c => by simp only [impl_factors.l0, spec_dvFactors.l0, factors_same_loop k], fun a b c => by simp only [impl_factors.l1, spec_dvFactors.l1, factors_same_loop k]⟩
theorem factors_same (k : Nat) (a : Int) : impl_factors.f k a = spec_dvFactors.f k a := by simp only [impl_factors.f, spec_dvFactors.f, factors_same_loop]
theorem factors_ev {n : Nat} {L : List Nat} (h : Ev (fun k => spec_dvFactors.f k (n : Int)) (ic L)) : Ev (fun k => impl_factors.f k (n : Int)) (ic L) := by simpa only [factors_same] using h

theorem dvSums_loop (whole : List Int) (L : List Nat) : ∀ (pre : List Int) (D sum many p power k part : Nat), whole = pre ++ ic L → whole.length ≤ 1000000000000 → (∀ q ∈ L, 2 ≤ q) → DvB D sum many p power k part (lprod L) →
    Ev (fun f => spec_dvSums.l1 f (sum : Int) (many : Int) whole (pre.length : Int) (p : Int) (power : Int) (k : Int) (part : Int)) (((dvS L sum many p power k part).1 : Int), ((dvS L sum many p power k part).2 : Int)) := by
  induction L with
  | nil =>
    intro pre D sum many p power k part hw hlen hq hB
    have hf := hB.fits
    obtain ⟨h1, h2, h3, h4, h5, h6, h7, h8, h9, h10, h11, h12⟩ := hB
    have hl : whole.length = pre.length := by simp [hw, ic]
    have e1 : (sum : Int) * (part : Int) = ((sum * part : Nat) : Int) := by simp
    have e2 : (many : Int) * (((k + 1 : Nat)) : Int) = ((many * (k + 1) : Nat) : Int) := by simp
    have e3 : (k : Int) + 1 = ((k + 1 : Nat) : Int) := by simp
    refine evs (fun k => by rw [spec_dvSums.l1]) ?_
    rw [w64 (x := (k : Int) + 1) (by omega) (by omega), e3, e1, e2, w64n (sum * part) (by omega), w64n (many * (k + 1)) (by omega)]
    refine evn (by omega) (evs (fun k => by rw [spec_dvSums.l0]) ?_)
    exact evn (by omega) (evr rfl)
  | cons q L ih =>
    intro pre D sum many p power k part hw hlen hq hB
    have hf := hB.fits
    have hB0 := hB
    obtain ⟨h1, h2, h3, h4, h5, h6, h7, h8, h9, h10, h11, h12⟩ := hB
    rw [ic_cons] at hw
    have hl : whole.length = pre.length + (L.length + 1) := by simp [hw, ic]
    have hx : rd whole (pre.length : Int) = (q : Int) := by rw [hw, rd_mid]
    have hw2 : whole = (pre ++ [(q : Int)]) ++ ic L := by simp [hw]
    have hq2 := hq q (by simp)
    have hqL : ∀ x ∈ L, 2 ≤ x := fun x hx => hq x (by simp [hx])
    refine evs (fun k => by rw [spec_dvSums.l1]) ?_
    rw [hx]
    refine evp (by omega) (evp (by omega) ?_)
    by_cases hqp : q = p
    · subst hqp
      have hB2 := DvB.same hB0
      have hf2 := hB2.fits
      have e1 : (power : Int) * (q : Int) = ((power * q : Nat) : Int) := by simp
      have e2 : (part : Int) + ((power * q : Nat) : Int) = ((part + power * q : Nat) : Int) := by simp
      have e3 : (k : Int) + 1 = ((k + 1 : Nat) : Int) := by simp
      refine evp rfl ?_
      rw [e1, w64 (x := ((power * q : Nat) : Int)) (by omega) (by omega), e2, w64 (x := ((part + power * q : Nat) : Int)) (by omega) (by omega), w64 (x := (k : Int) + 1) (by omega) (by omega), w64 (x := (pre.length : Int) + 1) (by omega) (by omega), e3]
      have h := ih (pre ++ [(q : Int)]) D sum many q (power * q) (k + 1) (part + power * q) hw2 hlen hqL hB2
      simpa [dvS] using h
    · have hB2 := DvB.next hB0 hq2
      have hf2 := hB2.fits
      have e1 : (sum : Int) * (part : Int) = ((sum * part : Nat) : Int) := by simp
      have e2 : (many : Int) * (((k + 1 : Nat)) : Int) = ((many * (k + 1) : Nat) : Int) := by simp
      have e3 : (k : Int) + 1 = ((k + 1 : Nat) : Int) := by simp
      refine evn (by omega) ?_
      rw [w64 (x := (k : Int) + 1) (by omega) (by omega), e3, e1, e2, w64n (sum * part) (by omega), w64n (many * (k + 1)) (by omega)]
      refine evs (fun k => by rw [spec_dvSums.l0]) ?_
      refine evp (by omega) (evp (by omega) ?_)
      rw [hx]
      refine evs (fun k => by rw [spec_dvSums.l1]) ?_
      rw [hx]
      refine evp (by omega) (evp (by omega) (evp rfl ?_))
      rw [Int.one_mul, w64 (x := (q : Int)) (by omega) (by omega), w64 (x := (pre.length : Int) + 1) (by omega) (by omega), w64 (x := (0 : Int) + 1) (by omega) (by omega), w64 (x := (1 : Int) + (q : Int)) (by omega) (by omega)]
      have h := ih (pre ++ [(q : Int)]) (D * power) (sum * part) (many * (k + 1)) q q 1 (1 + q) hw2 hlen hqL hB2
      simpa [dvS, hqp] using h
theorem dvSums_run (L : List Nat) (hlen : L.length ≤ 1000000000000) (hq : ∀ q ∈ L, 2 ≤ q) (hn : lprod L ≤ 1000000000) :
    Ev (fun f => spec_dvSums.l0 f 1 1 (ic L) 0) (((dvL L).1 : Int), ((dvL L).2 : Int)) := by
  cases L with
  | nil =>
    refine evs (fun k => by rw [spec_dvSums.l0]) ?_
    exact evn (by simp [ic]) (evr rfl)
  | cons q L =>
    have hq2 := hq q (by simp)
    have hqL : ∀ x ∈ L, 2 ≤ x := fun x hx => hq x (by simp [hx])
    have hR := lprod_pos (l := L) (fun x hx => by have := hqL x hx; omega)
    have hB := DvB.first hq2 hR hn
    have hf := hB.fits
    have hx : rd (ic (q :: L)) 0 = (q : Int) := by simp [ic, rd]
    have hl : (ic (q :: L)).length = L.length + 1 := by simp [ic]
    refine evs (fun k => by rw [spec_dvSums.l0]) ?_
    refine evp (by omega) (evp (by omega) (evs (fun k => by rw [spec_dvSums.l1]) ?_))
    rw [hx]
    refine evp (by omega) (evp (by omega) (evp rfl ?_))
    rw [Int.one_mul, w64 (x := (q : Int)) (by omega) (by omega), w64 (x := (0 : Int) + 1) (by omega) (by omega), w64 (x := (1 : Int) + (q : Int)) (by omega) (by omega)]
    have h := dvSums_loop (ic (q :: L)) L [(q : Int)] 1 1 1 q q 1 (1 + q) rfl (by simp only [List.length_cons] at hlen; omega) hqL hB
    simpa [dvL] using h
theorem divisors_loop (L : List Nat) : ∀ (D sum many p power k part : Nat), L.length ≤ 1000000000000 → (∀ q ∈ L, 2 ≤ q) → part * p + 1 = part + power * p → DvB D sum many p power k part (lprod L) →
    Ev (fun f => impl_divisors.l1 f (sum : Int) (many : Int) (ic L) (part : Int) (k : Int) (p : Int)) (((dvS L sum many p power k part).1 : Int), ((dvS L sum many p power k part).2 : Int)) := by
  induction L with
  | nil =>
    intro D sum many p power k part hlen hq hP hB
    have hf := hB.fits
    obtain ⟨h1, h2, h3, h4, h5, h6, h7, h8, h9, h10, h11, h12⟩ := hB
    have e1 : (sum : Int) * (part : Int) = ((sum * part : Nat) : Int) := by simp
    have e2 : (many : Int) * (((k + 1 : Nat)) : Int) = ((many * (k + 1) : Nat) : Int) := by simp
    have e3 : (k : Int) + 1 = ((k + 1 : Nat) : Int) := by simp
    refine evs (fun k => by rw [impl_divisors.l1]) ?_
    rw [w64 (x := (k : Int) + 1) (by omega) (by omega), e3, e1, e2, w64n (sum * part) (by omega), w64n (many * (k + 1)) (by omega)]
    refine evn (by simp [ic]) (evs (fun k => by rw [impl_divisors.l0]) ?_)
    exact evn (by simp [ic]) (evr rfl)
  | cons q L ih =>
    intro D sum many p power k part hlen hq hP hB
    have hf := hB.fits
    have hB0 := hB
    obtain ⟨h1, h2, h3, h4, h5, h6, h7, h8, h9, h10, h11, h12⟩ := hB
    have hx : rd (ic (q :: L)) 0 = (q : Int) := by simp [ic, rd]
    have hl : (ic (q :: L)).length = L.length + 1 := by simp [ic]
    have hdr : (ic (q :: L)).drop (1 : Int).toNat = ic L := by simp [ic]
    have hq2 := hq q (by simp)
    have hqL : ∀ x ∈ L, 2 ≤ x := fun x hx => hq x (by simp [hx])
    simp only [List.length_cons] at hlen
    refine evs (fun k => by rw [impl_divisors.l1]) ?_
    rw [hx, hdr]
    refine evp (by omega) (evp (by omega) ?_)
    by_cases hqp : q = p
    · subst hqp
      have hB2 := DvB.same hB0
      have hf2 := hB2.fits
      have e1 : (part : Int) * (q : Int) = ((part * q : Nat) : Int) := by simp
      have e2 : ((part * q : Nat) : Int) + 1 = ((part + power * q : Nat) : Int) := by rw [← hP]; simp
      have e3 : (k : Int) + 1 = ((k + 1 : Nat) : Int) := by simp
      refine evp rfl (evp (by omega) ?_)
      obtain ⟨g1, g2, g3, g4, g5, g6, g7, g8, g9, g10, g11, g12⟩ := hB2
      rw [e1, w64 (x := ((part * q : Nat) : Int)) (by omega) (by omega), e2, w64 (x := ((part + power * q : Nat) : Int)) (by omega) (by omega), w64 (x := (k : Int) + 1) (by omega) (by omega), e3]
      have hP2 : (part + power * q) * q + 1 = (part + power * q) + power * q * q := by
        rw [Nat.add_mul]
        omega
      have h := ih D sum many q (power * q) (k + 1) (part + power * q) (by omega) hqL hP2 (DvB.same hB0)
      simpa [dvS] using h
    · have hB2 := DvB.next hB0 hq2
      have hf2 := hB2.fits
      have e1 : (sum : Int) * (part : Int) = ((sum * part : Nat) : Int) := by simp
      have e2 : (many : Int) * (((k + 1 : Nat)) : Int) = ((many * (k + 1) : Nat) : Int) := by simp
      have e3 : (k : Int) + 1 = ((k + 1 : Nat) : Int) := by simp
      refine evn (by omega) ?_
      rw [w64 (x := (k : Int) + 1) (by omega) (by omega), e3, e1, e2, w64n (sum * part) (by omega), w64n (many * (k + 1)) (by omega)]
      refine evs (fun k => by rw [impl_divisors.l0]) ?_
      refine evp (by omega) (evp (by omega) ?_)
      rw [hx]
      refine evs (fun k => by rw [impl_divisors.l1]) ?_
      rw [hx, hdr]
      refine evp (by omega) (evp (by omega) (evp rfl (evp (by omega) ?_)))
      rw [Int.one_mul, w64 (x := (q : Int)) (by omega) (by omega), w64 (x := (0 : Int) + 1) (by omega) (by omega), w64 (x := (q : Int) + 1) (by omega) (by omega)]
      have h := ih (D * power) (sum * part) (many * (k + 1)) q q 1 (1 + q) (by omega) hqL (by rw [Nat.add_mul]; omega) hB2
      have e4 : (((1 + q : Nat)) : Int) = (q : Int) + 1 := by omega
      rw [e4] at h
      simpa [dvS, hqp] using h
theorem divisors_run (L : List Nat) (hlen : L.length ≤ 1000000000000) (hq : ∀ q ∈ L, 2 ≤ q) (hn : lprod L ≤ 1000000000) :
    Ev (fun f => impl_divisors.l0 f 1 1 (ic L)) (((dvL L).1 : Int), ((dvL L).2 : Int)) := by
  cases L with
  | nil =>
    refine evs (fun k => by rw [impl_divisors.l0]) ?_
    exact evn (by simp [ic]) (evr rfl)
  | cons q L =>
    have hq2 := hq q (by simp)
    have hqL : ∀ x ∈ L, 2 ≤ x := fun x hx => hq x (by simp [hx])
    have hR := lprod_pos (l := L) (fun x hx => by have := hqL x hx; omega)
    have hB := DvB.first hq2 hR hn
    have hf := hB.fits
    have hx : rd (ic (q :: L)) 0 = (q : Int) := by simp [ic, rd]
    have hl : (ic (q :: L)).length = L.length + 1 := by simp [ic]
    have hdr : (ic (q :: L)).drop (1 : Int).toNat = ic L := by simp [ic]
    simp only [List.length_cons] at hlen
    refine evs (fun k => by rw [impl_divisors.l0]) ?_
    refine evp (by omega) (evp (by omega) (evs (fun k => by rw [impl_divisors.l1]) ?_))
    rw [hx, hdr]
    refine evp (by omega) (evp (by omega) (evp rfl (evp (by omega) ?_)))
    rw [Int.one_mul, w64 (x := (q : Int)) (by omega) (by omega), w64 (x := (0 : Int) + 1) (by omega) (by omega), w64 (x := (q : Int) + 1) (by omega) (by omega)]
    have h := divisors_loop L 1 1 1 q q 1 (1 + q) (by omega) hqL (by rw [Nat.add_mul]; omega) hB
    have e4 : (((1 + q : Nat)) : Int) = (q : Int) + 1 := by omega
    rw [e4] at h
    simpa [dvL] using h
theorem two_pow_le_lprod (L : List Nat) (hq : ∀ q ∈ L, 2 ≤ q) : L.length + 1 ≤ lprod L := by
  induction L with
  | nil => decide
  | cons q L ih =>
    have h1 := hq q (by simp)
    have h2 := ih (fun x hx => hq x (by simp [hx]))
    have h3 : 2 * lprod L ≤ q * lprod L := Nat.mul_le_mul_right _ h1
    simp only [List.length_cons, lprod]
    omega
/-- Both sums and numbers of divisors. -/
theorem dv_ev (n : Nat) (h1 : 1 ≤ n) (h2 : n ≤ 1000000000) : ∃ L, Fac L n 2 ∧ Ev (fun k => spec_dvFactors.f k (n : Int)) (ic L) ∧
    Ev (fun k => spec_dvSums.f k (n : Int)) (((dvL L).1 : Int), ((dvL L).2 : Int)) ∧ Ev (fun k => impl_divisors.f k (n : Int)) (((dvL L).1 : Int), ((dvL L).2 : Int)) := by
  obtain ⟨L, hL, hev⟩ := dvFactors_ev n h1 h2
  have hq : ∀ q ∈ L, 2 ≤ q := fun q hq => (hL.1 q hq).2
  have hlen := two_pow_le_lprod L hq
  rw [hL.2.1] at hlen
  exact ⟨L, hL, hev, evb hev (dvSums_run L (by omega) hq (by rw [hL.2.1]; exact h2)), evb (factors_ev hev) (divisors_run L (by omega) hq (by rw [hL.2.1]; exact h2))⟩

theorem dvS_bound (L : List Nat) : ∀ (D sum many p power k part : Nat), (∀ q ∈ L, 2 ≤ q) → DvB D sum many p power k part (lprod L) → 1 ≤ (dvS L sum many p power k part).1 ∧ (dvS L sum many p power k part).1 ≤ 1000000000000000000 := by
  induction L with
  | nil =>
    intro D sum many p power k part hq hB
    have hf := hB.fits
    obtain ⟨h1, h2, h3, h4, h5, h6, h7, h8, h9, h10, h11, h12⟩ := hB
    have b1 : 1 * 1 ≤ sum * part := Nat.mul_le_mul h1 h9
    simp only [dvS]
    omega
  | cons q L ih =>
    intro D sum many p power k part hq hB
    have hqL : ∀ x ∈ L, 2 ≤ x := fun x hx => hq x (by simp [hx])
    by_cases hqp : q = p
    · subst hqp
      simp only [dvS, if_true]
      exact ih _ _ _ _ _ _ _ hqL (DvB.same hB)
    · simp only [dvS, if_neg hqp]
      exact ih _ _ _ _ _ _ _ hqL (DvB.next hB (hq q (by simp)))
theorem dvL_bound (L : List Nat) (hq : ∀ q ∈ L, 2 ≤ q) (hn : lprod L ≤ 1000000000) : 1 ≤ (dvL L).1 ∧ (dvL L).1 ≤ 1000000000000000000 := by
  cases L with
  | nil => simp [dvL]
  | cons q L =>
    have hqL : ∀ x ∈ L, 2 ≤ x := fun x hx => hq x (by simp [hx])
    exact dvS_bound L _ _ _ _ _ _ _ hqL (DvB.first (hq q (by simp)) (lprod_pos (fun x hx => by have := hqL x hx; omega)) hn)
theorem proper_ev (n : Int) (h1 : 1 ≤ n) (h2 : n ≤ 1000000000) : ∃ s : Int, 1 - n ≤ s ∧ s ≤ 1000000000000000000 ∧ Ev (fun k => spec_dvProper.f k n) s ∧ Ev (fun k => impl_proper.f k n) s := by
  obtain ⟨n, rfl⟩ := natOf (a := n) (by omega)
  obtain ⟨L, hL, _, hs, hi⟩ := dv_ev n (by omega) (by omega)
  have hb := dvL_bound L (fun q hq => (hL.1 q hq).2) (by rw [hL.2.1]; omega)
  refine ⟨((dvL L).1 : Int) - (n : Int), by omega, by omega, evb hs (evr ?_), evb hi (evr ?_)⟩ <;> exact w64 (by omega) (by omega)

def dvs (n : Nat) : List Nat := (List.range (n + 1)).filter fun d => decide (1 ≤ d ∧ n % d = 0)
def sg (n : Nat) : Nat := (dvs n).sum
def tau (n : Nat) : Nat := (dvs n).length
theorem mem_dvs {n d : Nat} (hn : 1 ≤ n) : d ∈ dvs n ↔ d ∣ n := by
  simp only [dvs, List.mem_filter, List.mem_range, decide_eq_true_eq]
  constructor
  · intro h
    exact Nat.dvd_of_mod_eq_zero h.2.2
  · intro h
    have h1 := Nat.le_of_dvd (by omega) h
    have h2 := Nat.pos_of_dvd_of_pos h (by omega)
    exact ⟨by omega, h2, Nat.mod_eq_zero_of_dvd h⟩
theorem nodup_dvs (n : Nat) : (dvs n).Nodup := List.Pairwise.filter _ List.nodup_range
theorem pr_coprime {p d : Nat} (hp : IsPr p) (h : ¬ p ∣ d) : Nat.Coprime p d := by
  have h1 := Nat.gcd_dvd_left p d
  have h2 := Nat.gcd_dvd_right p d
  have h3 := Nat.le_of_dvd (by have := hp.1; omega) h1
  have h4 : 0 < Nat.gcd p d := Nat.gcd_pos_of_pos_left _ (by have := hp.1; omega)
  show Nat.gcd p d = 1
  by_cases h5 : Nat.gcd p d = p
  · rw [h5] at h2
    exact absurd h2 h
  · by_cases h6 : Nat.gcd p d = 1
    · exact h6
    · exact absurd h1 (hp.2 _ (by omega) (by omega))
theorem pr_mul {p a b : Nat} (hp : IsPr p) (h : p ∣ a * b) : p ∣ a ∨ p ∣ b := by
  by_cases h1 : p ∣ a
  · exact Or.inl h1
  · exact Or.inr ((pr_coprime hp h1).dvd_of_dvd_mul_left h)
theorem pr_eq {p q : Nat} (hp : IsPr p) (hq : IsPr q) (h : p ∣ q) : p = q := by
  have h1 := Nat.le_of_dvd (by have := hq.1; omega) h
  by_cases h2 : p = q
  · exact h2
  · exact absurd h (hq.2 p hp.1 (by omega))
theorem pr_lprod {p : Nat} (hp : IsPr p) (L : List Nat) (hL : ∀ q ∈ L, IsPr q) (h : p ∣ lprod L) : p ∈ L := by
  induction L with
  | nil =>
    have h1 := Nat.le_of_dvd (by decide) h
    have := hp.1
    simp only [lprod] at h1
    omega
  | cons q L ih =>
    rcases pr_mul hp h with h1 | h1
    · rw [pr_eq hp (hL q (by simp)) h1]
      simp
    · exact List.mem_cons_of_mem _ (ih (fun x hx => hL x (by simp [hx])) h1)
theorem dvd_split {p m : Nat} (hp : IsPr p) (k : Nat) : ∀ d : Nat, d ∣ p ^ (k + 1) * m → d ∣ p ^ k * m ∨ ∃ e, e ∣ m ∧ p ^ (k + 1) * e = d := by
  have hp0 : 0 < p := by have := hp.1; omega
  induction k with
  | zero =>
    intro d h
    rw [Nat.pow_one] at h
    by_cases hd : p ∣ d
    · obtain ⟨e, rfl⟩ := hd
      exact Or.inr ⟨e, Nat.dvd_of_mul_dvd_mul_left hp0 h, by rw [Nat.pow_one]⟩
    · left
      rw [Nat.pow_zero, Nat.one_mul]
      exact (pr_coprime hp hd).symm.dvd_of_dvd_mul_left h
  | succ k ih =>
    intro d h
    have e1 : p ^ (k + 1 + 1) * m = p * (p ^ (k + 1) * m) := by rw [Nat.pow_succ p (k + 1), Nat.mul_comm (p ^ (k + 1)) p, Nat.mul_assoc]
    rw [e1] at h
    by_cases hd : p ∣ d
    · obtain ⟨e, rfl⟩ := hd
      rcases ih e (Nat.dvd_of_mul_dvd_mul_left hp0 h) with h2 | ⟨x, h3, h4⟩
      · left
        rw [Nat.pow_succ, Nat.mul_comm (p ^ k) p, Nat.mul_assoc]
        exact Nat.mul_dvd_mul_left p h2
      · exact Or.inr ⟨x, h3, by rw [← h4, Nat.pow_succ p (k + 1), Nat.mul_comm (p ^ (k + 1)) p, Nat.mul_assoc]⟩
    · left
      exact (pr_coprime hp hd).symm.dvd_of_dvd_mul_left h
theorem dvs_perm {p m : Nat} (hp : IsPr p) (hm : 1 ≤ m) (hpm : ¬ p ∣ m) (k : Nat) : (dvs (p ^ (k + 1) * m)).Perm (dvs (p ^ k * m) ++ (dvs m).map (fun e => p ^ (k + 1) * e)) := by
  have hp0 : 0 < p := by have := hp.1; omega
  have hk : 0 < p ^ k := Nat.pow_pos hp0
  have hk1 : 0 < p ^ (k + 1) := Nat.pow_pos hp0
  have e1 : 1 ≤ p ^ k * m := Nat.mul_pos hk hm
  have e2 : 1 ≤ p ^ (k + 1) * m := Nat.mul_pos hk1 hm
  refine (List.perm_ext_iff_of_nodup (nodup_dvs _) (List.nodup_append.2 ⟨nodup_dvs _, ?_, ?_⟩)).2 fun d => ?_
  · refine List.Pairwise.map _ ?_ (nodup_dvs m)
    intro a b hab he
    exact hab (Nat.eq_of_mul_eq_mul_left hk1 he)
  · intro a ha b hb he
    subst he
    rw [mem_dvs e1] at ha
    obtain ⟨e, _, rfl⟩ := List.mem_map.1 hb
    rw [Nat.pow_succ, Nat.mul_assoc] at ha
    have h3 := Nat.dvd_of_mul_dvd_mul_left hk ha
    exact hpm (Nat.dvd_trans (Nat.dvd_mul_right p e) h3)
  · rw [mem_dvs e2, List.mem_append, mem_dvs e1, List.mem_map]
    constructor
    · intro h
      rcases dvd_split hp k d h with h2 | ⟨e, h3, h4⟩
      · exact Or.inl h2
      · exact Or.inr ⟨e, (mem_dvs hm).2 h3, h4⟩
    · rintro (h | ⟨e, h3, h4⟩)
      · refine Nat.dvd_trans h ?_
        rw [Nat.pow_succ, Nat.mul_assoc]
        exact Nat.mul_dvd_mul_left _ (Nat.dvd_mul_left m p)
      · rw [← h4]
        exact Nat.mul_dvd_mul_left _ ((mem_dvs hm).1 h3)
theorem sum_map_mul (c : Nat) (L : List Nat) : (L.map (fun e => c * e)).sum = c * L.sum := by
  induction L with
  | nil => simp
  | cons x L ih => simp only [List.map_cons, List.sum_cons, ih, Nat.mul_add]
/-- 1 + p + .. + p^k -/
def geo (p : Nat) : Nat → Nat
  | 0 => 1
  | k + 1 => geo p k + p ^ k * p
theorem sg_pow {p m : Nat} (hp : IsPr p) (hm : 1 ≤ m) (hpm : ¬ p ∣ m) (k : Nat) : sg (p ^ k * m) = geo p k * sg m ∧ tau (p ^ k * m) = (k + 1) * tau m := by
  induction k with
  | zero => simp [geo]
  | succ k ih =>
    have h := dvs_perm hp hm hpm k
    have h1 := h.sum_nat
    have h2 := h.length_eq
    rw [List.sum_append, sum_map_mul] at h1
    rw [List.length_append, List.length_map] at h2
    constructor
    · show (dvs (p ^ (k + 1) * m)).sum = _
      rw [h1]
      show sg (p ^ k * m) + p ^ (k + 1) * sg m = _
      rw [ih.1, geo, Nat.add_mul, Nat.pow_succ]
    · show (dvs (p ^ (k + 1) * m)).length = _
      rw [h2]
      show tau (p ^ k * m) + tau m = _
      rw [ih.2, Nat.add_mul (k + 1), Nat.one_mul]
theorem sg_one : sg 1 = 1 ∧ tau 1 = 1 := by decide
theorem dvS_sg (L : List Nat) : ∀ (sum many p k : Nat), IsPr p → 1 ≤ k → (∀ q ∈ L, IsPr q ∧ p ≤ q) → L.Pairwise (· ≤ ·) →
    dvS L sum many p (p ^ k) k (geo p k) = (sum * sg (p ^ k * lprod L), many * tau (p ^ k * lprod L)) := by
  induction L with
  | nil =>
    intro sum many p k hp hk hq hs
    have h := sg_pow (m := 1) hp (Nat.le_refl _) (fun h => by have := Nat.le_of_dvd (by decide) h; have := hp.1; omega) k
    simp only [dvS, lprod]
    rw [h.1, h.2, sg_one.1, sg_one.2, Nat.mul_one, Nat.mul_one]
  | cons q L ih =>
    intro sum many p k hp hk hq hs
    have hq1 := hq q (by simp)
    have hs2 := List.pairwise_cons.1 hs
    simp only [dvS, lprod]
    by_cases hqp : q = p
    · subst hqp
      rw [if_pos rfl]
      have h := ih sum many q (k + 1) hp (by omega) (fun x hx => hq x (by simp [hx])) hs2.2
      rw [Nat.pow_succ, Nat.mul_assoc] at h
      exact h
    · rw [if_neg hqp]
      have h := ih (sum * geo p k) (many * (k + 1)) q 1 hq1.1 (by omega) (fun x hx => ⟨(hq x (by simp [hx])).1, hs2.1 x hx⟩) hs2.2
      have hg : geo q 1 = 1 + q := by simp [geo]
      rw [Nat.pow_one, hg] at h
      rw [h]
      have hm : 1 ≤ q * lprod L := lprod_pos (l := q :: L) (fun x hx => by have := (hq x hx).1.1; omega)
      have hpm : ¬ p ∣ q * lprod L := fun hd => by
        have h3 := pr_lprod hp (q :: L) (fun x hx => (hq x hx).1) hd
        rcases List.mem_cons.1 h3 with h4 | h4
        · exact hqp h4.symm
        · have h5 := hs2.1 p h4
          omega
      have h6 := sg_pow hp hm hpm k
      rw [h6.1, h6.2, Nat.mul_assoc, Nat.mul_assoc]
/-- What the program counts is the sum and the number of all divisors. -/
theorem dvL_sg {L : List Nat} {n : Nat} (h : Fac L n 2) : dvL L = (sg n, tau n) := by
  obtain ⟨h1, h2, h3⟩ := h
  cases L with
  | nil =>
    simp only [lprod] at h2
    subst h2
    rw [sg_one.1, sg_one.2]
    rfl
  | cons q L =>
    have hs := List.pairwise_cons.1 h3
    have h := dvS_sg L 1 1 q 1 (h1 q (by simp)).1 (by omega) (fun x hx => ⟨(h1 x (by simp [hx])).1, hs.1 x hx⟩) hs.2
    have hg : geo q 1 = 1 + q := by simp [geo]
    rw [Nat.pow_one, hg, Nat.one_mul, Nat.one_mul] at h
    simp only [dvL]
    rw [h, ← h2]
    rfl
theorem pr_exists (n : Nat) (hn : 2 ≤ n) : ∃ p, IsPr p ∧ p ∣ n := by
  obtain ⟨p, ⟨h1, h2⟩, h3⟩ := least_of (P := fun p => 2 ≤ p ∧ p ∣ n) ⟨n, hn, Nat.dvd_refl n⟩
  exact ⟨p, ⟨h1, fun d h4 h5 h6 => h3 d h5 ⟨h4, Nat.dvd_trans h6 h2⟩⟩, h2⟩
theorem pr_out {p : Nat} (hp : IsPr p) (n : Nat) : 1 ≤ n → ∃ k m, n = p ^ k * m ∧ 1 ≤ m ∧ ¬ p ∣ m := by
  induction n using Nat.strongRecOn with
  | _ n ih =>
    intro hn
    by_cases h : p ∣ n
    · obtain ⟨e, rfl⟩ := h
      have hp2 := hp.1
      have he : 1 ≤ e := Nat.pos_of_mul_pos_left (by omega : 0 < p * e) |> fun h => by
        rcases e with _ | e
        · simp at hn
        · omega
      have hlt : 2 * e ≤ p * e := Nat.mul_le_mul_right _ hp2
      obtain ⟨k, m, h1, h2, h3⟩ := ih e (by omega) he
      exact ⟨k + 1, m, by rw [Nat.pow_succ, Nat.mul_comm (p ^ k) p, Nat.mul_assoc, ← h1], h2, h3⟩
    · exact ⟨0, n, by simp, hn, h⟩
theorem sg_mul (n : Nat) : ∀ m : Nat, 1 ≤ n → 1 ≤ m → Nat.Coprime n m → sg (n * m) = sg n * sg m ∧ tau (n * m) = tau n * tau m := by
  induction n using Nat.strongRecOn with
  | _ n ih =>
    intro m hn hm hc
    by_cases h1 : n = 1
    · subst h1
      rw [Nat.one_mul, sg_one.1, sg_one.2, Nat.one_mul, Nat.one_mul]
      exact ⟨rfl, rfl⟩
    · obtain ⟨p, hp, hd⟩ := pr_exists n (by omega)
      obtain ⟨k, e, rfl, he, hpe⟩ := pr_out hp n hn
      have hp2 := hp.1
      have hk : k ≠ 0 := fun h0 => by
        subst h0
        rw [Nat.pow_zero, Nat.one_mul] at hd
        exact hpe hd
      have hpk : 2 ≤ p ^ k := Nat.le_trans hp2 (Nat.le_pow (by omega : 0 < k))
      have hlt : 2 * e ≤ p ^ k * e := Nat.mul_le_mul_right _ hpk
      have hce : Nat.Coprime e m := Nat.Coprime.coprime_dvd_left (Nat.dvd_mul_left e (p ^ k)) hc
      have hpm : ¬ p ∣ m := fun h => by
        have h2 : p ∣ Nat.gcd (p ^ k * e) m := Nat.dvd_gcd hd h
        rw [hc] at h2
        have := Nat.le_of_dvd (by decide) h2
        omega
      have hpem : ¬ p ∣ e * m := fun h => by
        rcases pr_mul hp h with h2 | h2
        · exact hpe h2
        · exact hpm h2
      have h3 := sg_pow hp (Nat.mul_pos he hm : 1 ≤ e * m) hpem k
      have h4 := sg_pow hp he hpe k
      have h5 := ih e (by omega) m he hm hce
      rw [Nat.mul_assoc, h3.1, h3.2, h4.1, h4.2, h5.1, h5.2, Nat.mul_assoc, Nat.mul_assoc]
      exact ⟨rfl, rfl⟩

theorem sg_bound (n : Nat) (h1 : 1 ≤ n) (h2 : n ≤ 1000000000) {L : List Nat} (hL : Fac L n 2) : 1 ≤ sg n ∧ sg n ≤ 1000000000000000000 := by
  have h := dvL_bound L (fun q hq => (hL.1 q hq).2) (by rw [hL.2.1]; exact h2)
  rw [dvL_sg hL] at h
  exact h
theorem tau_bound (n : Nat) : tau n ≤ n + 1 := by
  have h := List.length_filter_le (fun d => decide (1 ≤ d ∧ n % d = 0)) (List.range (n + 1))
  rw [List.length_range] at h
  exact h
theorem dv_info (n : Nat) (h1 : 1 ≤ n) (h2 : n ≤ 1000000000) : 1 ≤ sg n ∧ sg n ≤ 1000000000000000000 ∧
    Ev (fun k => spec_dvSums.f k (n : Int)) ((sg n : Int), (tau n : Int)) ∧ Ev (fun k => impl_divisors.f k (n : Int)) ((sg n : Int), (tau n : Int)) := by
  obtain ⟨L, hL, _, hs, hi⟩ := dv_ev n h1 h2
  have hb := sg_bound n h1 h2 hL
  rw [dvL_sg hL] at hs hi
  exact ⟨hb.1, hb.2, hs, hi⟩
theorem proper_info (n : Nat) (h1 : 1 ≤ n) (h2 : n ≤ 1000000000) : Ev (fun k => spec_dvProper.f k (n : Int)) ((sg n : Int) - (n : Int)) ∧ Ev (fun k => impl_proper.f k (n : Int)) ((sg n : Int) - (n : Int)) := by
  obtain ⟨a, b, hs, hi⟩ := dv_info n h1 h2
  exact ⟨evb hs (evr (w64 (by omega) (by omega))), evb hi (evr (w64 (by omega) (by omega)))⟩

theorem laws_qSame_loop (post : List Int) : ∀ (pre post' : List Int), post'.length = post.length → (pre ++ post).length ≤ 4611686018427387904 →
    Ev (fun k => laws_qSame.l0 k (pre ++ post) (pre ++ post') ((pre ++ post).length : Int) (pre.length : Int)) (decide (post = post')) := by
  induction post with
  | nil =>
    intro pre post' hl h
    obtain rfl : post' = [] := List.eq_nil_of_length_eq_zero hl
    refine evs (fun k => by rw [laws_qSame.l0]) ?_
    exact evn (by simp) (evr (by simp))
  | cons x post ih =>
    intro pre post' hl h
    obtain ⟨y, post', rfl⟩ : ∃ y z, post' = y :: z := by cases post' with
      | nil => simp at hl
      | cons y z => exact ⟨y, z, rfl⟩
    refine evs (fun k => by rw [laws_qSame.l0]) ?_
    refine evp (by simp; omega) (evp (by omega) (evp (by simp; omega) (evp (by simp; omega) ?_)))
    rw [rd_mid, rd_mid]
    by_cases he : x = y
    · subst he
      refine evp rfl ?_
      have h2 := ih (pre ++ [x]) post' (by simpa using hl) (by simpa using h)
      simp only [List.append_assoc, List.singleton_append] at h2
      rw [w64 (by omega) (by simp at h; omega)]
      simpa using h2
    · exact evn he (evr (by simp [he]))
theorem laws_qSame_ev (l l' : List Int) (h : l.length ≤ 4611686018427387904) : Ev (fun k => laws_qSame.f k l l') (decide (l = l')) := by
  unfold laws_qSame.f
  by_cases hl : l.length = l'.length
  · exact evp (by omega) (by simpa using laws_qSame_loop l [] l' hl.symm (by simpa using h))
  · exact evn (by omega) (evr (by symm; rw [decide_eq_false_iff_not]; exact fun e => hl (by rw [e])))
theorem laws_qSame_self (l : List Int) (h : l.length ≤ 4611686018427387904) : Ev (fun k => laws_qSame.f k l l) true := by simpa using laws_qSame_ev l l h

theorem qGcd_loop (b : Nat) : ∀ a : Nat, Ev (fun k => laws_qGcd.l0 k (a : Int) (b : Int)) ((Nat.gcd a b : Nat) : Int) := by
  induction b using Nat.strongRecOn with
  | _ b ih =>
    intro a
    refine evs (fun k => by rw [laws_qGcd.l0]) ?_
    by_cases hb : b = 0
    · subst hb
      exact evn (by simp) (evr (by simp))
    · refine evp (by omega) (evn (by omega) ?_)
      rw [tmod_cast, Nat.gcd_comm a b, Nat.gcd_rec, Nat.gcd_comm]
      exact ih (a % b) (Nat.mod_lt _ (by omega)) b
theorem qGcd_ev (a b : Nat) : Ev (fun k => laws_qGcd.f k (a : Int) (b : Int)) ((Nat.gcd a b : Nat) : Int) := qGcd_loop b a
theorem sum_impl (n : Nat) (h1 : 1 ≤ n) (h2 : n ≤ 1000000000) : Ev (fun k => impl_SumOfDivisors.f k (n : Int)) ((sg n : Int), true) := by
  obtain ⟨_, _, _, hi⟩ := dv_info n h1 h2
  simp only [impl_SumOfDivisors.f, impl_isDivided_eq, Option.bind_some, decide_eq_true_eq]
  exact evp (by omega) (evb hi (Ev.now _))
theorem count_impl (n : Nat) (h1 : 1 ≤ n) (h2 : n ≤ 1000000000) : Ev (fun k => impl_CountDivisors.f k (n : Int)) ((tau n : Int), true) := by
  obtain ⟨_, _, _, hi⟩ := dv_info n h1 h2
  simp only [impl_CountDivisors.f, impl_isDivided_eq, Option.bind_some, decide_eq_true_eq]
  exact evp (by omega) (evb hi (Ev.now _))
theorem j5_ok (n m : Nat) (h1 : 1 ≤ n) (h2 : 1 ≤ m) (h3 : n * m ≤ 1000000000) (hc : Nat.gcd n m = 1) : Ev (fun k => laws_FnDivisorsSum.j5 k (n : Int) (sg n : Int) (tau n : Int) (m : Int) true) true := by
  have h4 : 1 * m ≤ n * m := Nat.mul_le_mul_right _ h1
  have h5 : n * 1 ≤ n * m := Nat.mul_le_mul_left _ h2
  have hm := sg_mul n m h1 h2 hc
  have e1 : wrap64 ((n : Int) * (m : Int)) = ((n * m : Nat) : Int) := by rw [← Int.natCast_mul, w64n _ (by omega)]
  have hp : 1 ≤ n * m := Nat.mul_pos h1 h2
  obtain ⟨_, g2, _, _⟩ := dv_info (n * m) hp h3
  have g3 := tau_bound (n * m)
  have e2 : wrap64 ((sg m : Int) * (sg n : Int)) = ((sg (n * m) : Nat) : Int) := by rw [← Int.natCast_mul, Nat.mul_comm, ← hm.1, w64n _ (by omega)]
  have e3 : wrap64 ((tau m : Int) * (tau n : Int)) = ((tau (n * m) : Nat) : Int) := by rw [← Int.natCast_mul, Nat.mul_comm, ← hm.2, w64n _ (by omega)]
  refine evs (fun k => by rw [laws_FnDivisorsSum.j5]) ?_
  rw [e1]
  refine evp rfl (evb (sum_impl m h2 (by omega)) (evb (sum_impl (n * m) hp h3) (evb (count_impl m h2 (by omega)) (evb (count_impl (n * m) hp h3) ?_))))
  exact evp rfl (evp rfl (evp rfl (evp rfl (evp e2 (evr (by simp only [e3]; simp))))))
theorem j5_no (a b c d : Int) : Ev (fun k => laws_FnDivisorsSum.j5 k a b c d false) true := by
  refine evs (fun k => by rw [laws_FnDivisorsSum.j5]) ?_
  exact evn (by simp) (Ev.now _)
theorem j4_no (l : List Int) (hl : ∀ x ∈ l, 0 ≤ x ∧ x ≤ 255) (n s c : Int) : Ev (fun k => laws_FnDivisorsSum.j4 k l n s false c) true := by
  obtain ⟨m, hm⟩ := drawPrimeFactors_ok l hl
  refine evs (fun k => by rw [laws_FnDivisorsSum.j4]) ?_
  exact evb hm (evn (by simp) (j5_no _ _ _ _))
theorem j4_ok (l : List Int) (hl : ∀ x ∈ l, 0 ≤ x ∧ x ≤ 255) (n : Nat) (h1 : 1 ≤ n) (h2 : n ≤ 1000000000) : Ev (fun k => laws_FnDivisorsSum.j4 k l (n : Int) (sg n : Int) true (tau n : Int)) true := by
  obtain ⟨m, hm⟩ := drawPrimeFactors_ok l hl
  refine evs (fun k => by rw [laws_FnDivisorsSum.j4]) ?_
  refine evb hm (evp rfl ?_)
  by_cases c1 : m ≥ 1
  · by_cases c2 : m ≤ 1000000000
    · obtain ⟨m, rfl⟩ := natOf (a := m) (by omega)
      have hb : n * m ≤ 1000000000 * 1000000000 := Nat.mul_le_mul h2 (by omega)
      have e1 : wrap64 ((n : Int) * (m : Int)) = ((n * m : Nat) : Int) := by rw [← Int.natCast_mul, w64n _ (by omega)]
      rw [e1]
      by_cases c3 : ((n * m : Nat) : Int) ≤ 1000000000
      · refine evp c1 (evp c2 (evp c3 (evb (qGcd_ev n m) ?_)))
        by_cases hg : Nat.gcd n m = 1
        · rw [hg]
          exact j5_ok n m h1 (by omega) (by omega) hg
        · have hgb : (((Nat.gcd n m : Nat) : Int) == 1) = false := beq_eq_false_iff_ne.2 (by omega)
          rw [hgb]
          exact j5_no _ _ _ _
      · exact evp c1 (evp c2 (evn c3 (j5_no _ _ _ _)))
    · exact evp c1 (evn c2 (j5_no _ _ _ _))
  · exact evn c1 (j5_no _ _ _ _)
/-- Sums and numbers of the divisors that are less than k. -/
def dvUp (n : Nat) (k : Nat) : List Nat := (List.range k).filter fun d => decide (1 ≤ d ∧ n % d = 0)
theorem dvUp_le (n k : Nat) : (dvUp n k).sum ≤ k * k ∧ (dvUp n k).length ≤ k := by
  constructor
  · induction k with
    | zero => simp [dvUp]
    | succ k ih =>
      have h : (dvUp n (k + 1)).sum ≤ (dvUp n k).sum + k := by
        unfold dvUp
        rw [List.range_succ, List.filter_append, List.sum_append]
        by_cases h : 1 ≤ k ∧ n % k = 0 <;> simp [h]
      have e : (k + 1) * (k + 1) = k * k + k + k + 1 := by rw [Nat.add_mul, Nat.mul_add]; omega
      omega
  · have h := List.length_filter_le (fun d => decide (1 ≤ d ∧ n % d = 0)) (List.range k)
    rw [List.length_range] at h
    exact h
theorem l1_ok (l : List Int) (hl : ∀ x ∈ l, 0 ≤ x ∧ x ≤ 255) (n : Nat) (h1 : 1 ≤ n) (h2 : n ≤ 5000) (d : Nat) : ∀ i : Nat, 1 ≤ i → i + d = n + 1 →
    Ev (fun k => laws_FnDivisorsSum.l1 k l (n : Int) (sg n : Int) true (tau n : Int) ((dvUp n i).sum : Int) ((dvUp n i).length : Int) (i : Int)) true := by
  induction d with
  | zero =>
    intro i h3 h4
    obtain rfl : i = n + 1 := by omega
    refine evs (fun k => by rw [laws_FnDivisorsSum.l1]) ?_
    exact evn (by omega) (evp rfl (evp rfl (j4_ok l hl n h1 (by omega))))
  | succ d ih =>
    intro i h3 h4
    have hb := dvUp_le n i
    have hb2 : i * i ≤ 5001 * 5001 := Nat.mul_le_mul (by omega) (by omega)
    have hstep : dvUp n (i + 1) = dvUp n i ++ (if n % i = 0 then [i] else []) := by
      unfold dvUp
      rw [List.range_succ, List.filter_append]
      by_cases h : n % i = 0 <;> simp [h, h3]
    have h5 := ih (i + 1) (by omega) (by omega)
    rw [hstep] at h5
    refine evs (fun k => by rw [laws_FnDivisorsSum.l1]) ?_
    rw [tmod_cast, w64 (x := (i : Int) + 1) (by omega) (by omega)]
    refine evp (by omega) (evn (by omega) ?_)
    by_cases h : n % i = 0
    · rw [if_pos h] at h5
      have e1 : (((dvUp n i ++ [i]).sum : Nat) : Int) = ((dvUp n i).sum : Int) + (i : Int) := by simp [List.sum_append]
      have e2 : (((dvUp n i ++ [i]).length : Nat) : Int) = ((dvUp n i).length : Int) + 1 := by simp
      rw [e1, e2] at h5
      rw [w64 (x := ((dvUp n i).sum : Int) + (i : Int)) (by omega) (by omega), w64 (x := ((dvUp n i).length : Int) + 1) (by omega) (by omega)]
      exact evp (by omega) h5
    · rw [if_neg h, List.append_nil] at h5
      exact evn (by omega) h5
theorem j2_ok (l : List Int) (hl : ∀ x ∈ l, 0 ≤ x ∧ x ≤ 255) (n : Nat) (h1 : 1 ≤ n) (h2 : n ≤ 1000000000) : Ev (fun k => laws_FnDivisorsSum.j2 k l (n : Int) (sg n : Int) true (tau n : Int) false) true := by
  refine evs (fun k => by rw [laws_FnDivisorsSum.j2]) ?_
  refine evn (by simp) ?_
  by_cases h : (n : Int) ≤ 5000
  · have h3 := l1_ok l hl n h1 (by omega) n 1 (by omega) (by omega)
    have e : dvUp n 1 = [] := by simp [dvUp, List.range_succ]
    rw [e] at h3
    exact evp h h3
  · exact evn h (j4_ok l hl n h1 h2)
/-- The prime factors of a prime number are this number. -/
theorem fac_prime {L : List Nat} {p : Nat} (hp : IsPr p) (h : Fac L p 2) : L = [p] := by
  obtain ⟨h1, h2, h3⟩ := h
  have hp2 := hp.1
  cases L with
  | nil =>
    simp only [lprod] at h2
    omega
  | cons q L =>
    have hq := (h1 q (by simp)).1
    have hd : q ∣ p := ⟨lprod L, by rw [← h2]; rfl⟩
    obtain rfl := pr_eq hq hp hd
    have hL : lprod L = 1 := by
      simp only [lprod] at h2
      exact Nat.eq_of_mul_eq_mul_left (by omega : 0 < q) (by omega)
    cases L with
    | nil => rfl
    | cons r L =>
      have hr := (h1 r (by simp)).2
      have hpos : 0 < lprod L := lprod_pos (fun x hx => by have := (h1 x (by simp [hx])).2; omega)
      have h4 : 2 * 1 ≤ r * lprod L := Nat.mul_le_mul hr hpos
      simp only [lprod] at hL
      omega
theorem factors_impl (n : Nat) (h1 : 1 ≤ n) (h2 : n ≤ 1000000000) : ∃ L, Fac L n 2 ∧ Ev (fun k => impl_PrimeFactors.f k (n : Int)) (ic L, true) ∧ Ev (fun k => spec_PrimeFactors.f k (n : Int)) (ic L, true) := by
  obtain ⟨L, hL, hev⟩ := dvFactors_ev n h1 h2
  refine ⟨L, hL, ?_, ?_⟩
  · simp only [impl_PrimeFactors.f, impl_isDivided_eq, Option.bind_some, decide_eq_true_eq]
    exact evp (by omega) (evb (factors_ev hev) (Ev.now _))
  · simp only [spec_PrimeFactors.f, spec_dvNumber_eq, Option.bind_some, decide_eq_true_eq]
    exact evp (by omega) (evb hev (Ev.now _))
theorem fac_le {L : List Nat} (hq : ∀ q ∈ L, 2 ≤ q) : ∀ q ∈ L, q ≤ lprod L := by
  induction L with
  | nil => intro q h; simp at h
  | cons x L ih =>
    have hpos : 0 < lprod L := lprod_pos (fun y hy => by have := hq y (by simp [hy]); omega)
    intro q h
    simp only [lprod]
    rcases List.mem_cons.1 h with rfl | h
    · have : q * 1 ≤ q * lprod L := Nat.mul_le_mul_left _ hpos
      omega
    · have h1 := ih (fun y hy => hq y (by simp [hy])) q h
      have h2 : 1 * lprod L ≤ x * lprod L := Nat.mul_le_mul_right _ (by have := hq x (by simp); omega)
      omega
theorem lprod_append (a b : List Nat) : lprod (a ++ b) = lprod a * lprod b := by
  induction a with
  | nil => simp [lprod]
  | cons x a ih => simp only [List.cons_append, lprod, ih, Nat.mul_assoc]
theorem l0_ok (l : List Int) (hl : ∀ x ∈ l, 0 ≤ x ∧ x ≤ 255) (n : Nat) (h1 : 1 ≤ n) (h2 : n ≤ 1000000000) (kind : Int) (hk0 : (kind == 0) = ((sg n : Int) - (n : Int) == (n : Int))) (hk1 : decide (kind < 0) = decide ((sg n : Int) - (n : Int) < (n : Int))) (F : List Nat) (hF : Fac F n 2) (hFl : F.length ≤ 1000000000) (post : List Nat) : ∀ pre : List Nat, F = pre ++ post →
    Ev (fun k => laws_FnDivisorsSum.l0 k l (n : Int) (sg n : Int) true (tau n : Int) ((sg n : Int) - (n : Int)) kind (ic F) (lprod pre : Int) (ic F) ((ic F).length : Int) (pre.length : Int)) true := by
  have hq : ∀ q ∈ F, 2 ≤ q := fun q h => (hF.1 q h).2
  have hlen : (ic F).length = F.length := by simp [ic]
  have hb := sg_bound n h1 h2 hF
  induction post with
  | nil =>
    intro pre hpre
    rw [List.append_nil] at hpre
    subst hpre
    have e1 : ((lprod F : Nat) : Int) = (n : Int) := by rw [hF.2.1]
    have e2 : wrap64 (((sg n : Int) - (n : Int)) + (n : Int)) = (sg n : Int) := by rw [w64 (by omega) (by omega)]; omega
    refine evs (fun k => by rw [laws_FnDivisorsSum.l0]) ?_
    rw [hlen, e1, e2, hk0, hk1]
    refine evn (by omega) (evp rfl (evp rfl (evn (by simp) ?_)))
    have h3 := j2_ok l hl n h1 h2
    simpa using h3
  | cons q post ih =>
    intro pre hpre
    have hqF : q ∈ F := by rw [hpre]; simp
    have hpq := (hF.1 q hqF).1
    have hq2 := hpq.1
    have hqn : q ≤ n := by rw [← hF.2.1]; exact fac_le hq q hqF
    obtain ⟨L, hL, hev, _⟩ := factors_impl q (by omega) (by omega)
    obtain rfl := fac_prime hpq hL
    have hl2 : F.length = pre.length + (post.length + 1) := by rw [hpre]; simp
    have hx : rd (ic F) (pre.length : Int) = (q : Int) := by
      rw [hpre]
      have : (ic (pre ++ q :: post)) = ic pre ++ (q : Int) :: ic post := by simp [ic]
      rw [this, show ((pre.length : Nat) : Int) = (((ic pre).length : Nat) : Int) by simp [ic], rd_mid]
    have hnext := ih (pre ++ [q]) (by rw [hpre]; simp)
    have hpp : lprod (pre ++ [q]) = lprod pre * q := by rw [lprod_append]; simp [lprod]
    have hle : lprod (pre ++ [q]) ≤ n := by
      have hd : lprod (pre ++ [q]) * lprod post = n := by
        rw [← hF.2.1, hpre, ← lprod_append]
        simp
      have hpos : 0 < lprod post := lprod_pos (fun x hx => by have := hq x (by rw [hpre]; simp [hx]); omega)
      have : lprod (pre ++ [q]) * 1 ≤ lprod (pre ++ [q]) * lprod post := Nat.mul_le_mul_left _ hpos
      omega
    have e1 : wrap64 ((lprod pre : Int) * (q : Int)) = ((lprod (pre ++ [q]) : Nat) : Int) := by rw [← Int.natCast_mul, ← hpp, w64n _ (by omega)]
    have e2 : (((pre ++ [q]).length : Nat) : Int) = (pre.length : Int) + 1 := by simp
    rw [e2] at hnext
    refine evs (fun k => by rw [laws_FnDivisorsSum.l0]) ?_
    rw [hx, e1, w64 (x := (pre.length : Int) + 1) (by omega) (by omega), w64 (x := (pre.length : Int) - 1) (by omega) (by omega)]
    rw [hlen] at hnext ⊢
    refine evp (by omega) (evp (by omega) (evp (by omega) (evb hev (evp rfl (evp (by simp [ic]) ?_)))))
    by_cases h0 : (pre.length : Int) > 0
    · have hr : rd (ic F) ((pre.length : Int) - 1) ≤ (q : Int) := by
        have hm : ∃ y ∈ pre, rd (ic F) ((pre.length : Int) - 1) = (y : Int) := by
          have hp0 : pre.length - 1 < pre.length := by omega
          refine ⟨pre[pre.length - 1], List.getElem_mem _, ?_⟩
          rw [show (pre.length : Int) - 1 = ((pre.length - 1 : Nat) : Int) by omega, rd_get _ _ (by omega)]
          simp only [ic, List.getElem_map]
          subst hpre
          rw [List.getElem_append_left hp0]
        obtain ⟨y, hy, e⟩ := hm
        rw [e]
        have hs := hF.2.2
        rw [hpre] at hs
        have := (List.pairwise_append.1 hs).2.2 y hy q (by simp)
        omega
      exact evp h0 (evp (by omega) (evp (by omega) (evn (by omega) hnext)))
    · exact evn h0 hnext
theorem FnDivisorsSum : laws_FnDivisorsSum.Pure := by
  intro l0 l1 _ _ w0 _ _ w1
  have hb : ∀ l : List Int, (∀ x ∈ l, (Lit.int .u8 x).wf = true) → ∀ x ∈ l, 0 ≤ x ∧ x ≤ 255 := by
    intro l h x hx
    have := h x hx
    simpa [Lit.wf, IntKind.min, IntKind.max, IntKind.signed, IntKind.bits] using this
  have hl0 := hb l0 w0
  have hl1 := hb l1 w1
  refine Ev.rounds (g := fun k => laws_FnDivisorsSum.f k l0 l1) ?_
  unfold laws_FnDivisorsSum.f
  obtain ⟨t, ht⟩ : ∃ t, laws_big.f l0 l1 = some t := by
    unfold laws_big.f
    split <;> exact ⟨_, rfl⟩
  rw [ht]
  simp only [Option.bind_some]
  cases t with
  | true => exact evp rfl (Ev.now _)
  | false =>
    refine evn (by simp) ?_
    obtain ⟨n, hn⟩ := drawPrimeFactors_ok l0 hl0
    have hn2 : Ev (fun k => spec_DrawSumOfDivisors.f k l0) n := evb hn (Ev.now _)
    refine evb hn2 ?_
    by_cases h : 1 ≤ n ∧ n ≤ 1000000000
    · obtain ⟨n, rfl⟩ := natOf (a := n) (by omega)
      have h1 : 1 ≤ n := by omega
      have h2 : n ≤ 1000000000 := by omega
      obtain ⟨b1, b2, hs, hi⟩ := dv_info n h1 h2
      obtain ⟨ps, pi⟩ := proper_info n h1 h2
      obtain ⟨F, hF, fi, fs⟩ := factors_impl n h1 h2
      have g1 : Ev (fun k => spec_SumOfDivisors.f k (n : Int)) ((sg n : Int), true) := by
        simp only [spec_SumOfDivisors.f, spec_dvNumber_eq, Option.bind_some, decide_eq_true_eq]
        exact evp h (evb hs (Ev.now _))
      have g2 : Ev (fun k => spec_CountDivisors.f k (n : Int)) ((tau n : Int), true) := by
        simp only [spec_CountDivisors.f, spec_dvNumber_eq, Option.bind_some, decide_eq_true_eq]
        exact evp h (evb hs (Ev.now _))
      have g3 : Ev (fun k => spec_ProperSum.f k (n : Int)) ((sg n : Int) - (n : Int), true) := by
        simp only [spec_ProperSum.f, spec_dvNumber_eq, Option.bind_some, decide_eq_true_eq]
        exact evp h (evb ps (Ev.now _))
      have g4 : Ev (fun k => impl_ProperSum.f k (n : Int)) ((sg n : Int) - (n : Int), true) := by
        simp only [impl_ProperSum.f, impl_isDivided_eq, Option.bind_some, decide_eq_true_eq]
        exact evp h (evb pi (Ev.now _))
      have g5 : ∃ kind : Int, (kind == 0) = ((sg n : Int) - (n : Int) == (n : Int)) ∧ decide (kind < 0) = decide ((sg n : Int) - (n : Int) < (n : Int)) ∧ Ev (fun k => spec_KindOfNumber.f k (n : Int)) (kind, true) ∧ Ev (fun k => impl_KindOfNumber.f k (n : Int)) (kind, true) := by
        simp only [spec_KindOfNumber.f, impl_KindOfNumber.f, spec_dvNumber_eq, impl_isDivided_eq, Option.bind_some, decide_eq_true_eq]
        obtain ⟨s, hs⟩ : ∃ s : Int, (sg n : Int) - (n : Int) = s := ⟨_, rfl⟩
        rw [hs] at ps pi
        simp only [hs]
        by_cases c1 : s < n
        · exact ⟨-1, by symm; rw [beq_eq_false_iff_ne.2 (by omega)]; rfl, by rw [decide_eq_true c1]; rfl, evp h (evb ps (evp c1 (Ev.now _))), evp h (evb pi (evp c1 (Ev.now _)))⟩
        · by_cases c2 : s > n
          · exact ⟨1, by symm; rw [beq_eq_false_iff_ne.2 (by omega)]; rfl, by rw [decide_eq_false c1]; rfl, evp h (evb ps (evn c1 (evp c2 (Ev.now _)))), evp h (evb pi (evn c1 (evp c2 (Ev.now _))))⟩
          · exact ⟨0, by symm; rw [beq_iff_eq.2 (by omega)]; rfl, by rw [decide_eq_false c1]; rfl, evp h (evb ps (evn c1 (evn c2 (Ev.now _)))), evp h (evb pi (evn c1 (evn c2 (Ev.now _))))⟩
      obtain ⟨kind, k0, k1, g6, g7⟩ := g5
      have hFl : F.length ≤ 1000000000 := by
        have h3 := two_pow_le_lprod F (fun q hq => (hF.1 q hq).2)
        rw [hF.2.1] at h3
        omega
      have hl : (ic F).length ≤ 4611686018427387904 := by
        have : (ic F).length = F.length := by simp [ic]
        omega
      refine evb (sum_impl n h1 h2) (evb g1 (evb (count_impl n h1 h2) (evb g2 (evb g4 (evb g3 (evb g7 (evb g6 (evb fi (evb fs ?_)))))))))
      refine evn (by simp) (evp rfl (evn (by simp) (evp rfl (evn (by simp) (evp rfl (evn (by simp) (evp rfl (evn (by simp) (evb (laws_qSame_self _ hl) (evp rfl (evn (by simp) (evn (by simp) (evn (by simp) ?_)))))))))))))
      refine evs (fun k => by rw [laws_FnDivisorsSum.j0]) ?_
      refine evn (by simp) (evp rfl ?_)
      exact l0_ok l1 hl1 n h1 h2 kind k0 k1 F hF hFl F [] rfl
    · have g1 : Ev (fun k => spec_SumOfDivisors.f k n) (0, false) := by
        simp only [spec_SumOfDivisors.f, spec_dvNumber_eq, Option.bind_some, decide_eq_true_eq]
        exact evn h (Ev.now _)
      have g2 : Ev (fun k => impl_SumOfDivisors.f k n) (0, false) := by
        simp only [impl_SumOfDivisors.f, impl_isDivided_eq, Option.bind_some, decide_eq_true_eq]
        exact evn h (Ev.now _)
      have g3 : Ev (fun k => spec_CountDivisors.f k n) (0, false) := by
        simp only [spec_CountDivisors.f, spec_dvNumber_eq, Option.bind_some, decide_eq_true_eq]
        exact evn h (Ev.now _)
      have g4 : Ev (fun k => impl_CountDivisors.f k n) (0, false) := by
        simp only [impl_CountDivisors.f, impl_isDivided_eq, Option.bind_some, decide_eq_true_eq]
        exact evn h (Ev.now _)
      have g5 : Ev (fun k => spec_ProperSum.f k n) (0, false) := by
        simp only [spec_ProperSum.f, spec_dvNumber_eq, Option.bind_some, decide_eq_true_eq]
        exact evn h (Ev.now _)
      have g6 : Ev (fun k => impl_ProperSum.f k n) (0, false) := by
        simp only [impl_ProperSum.f, impl_isDivided_eq, Option.bind_some, decide_eq_true_eq]
        exact evn h (Ev.now _)
      have g7 : Ev (fun k => spec_KindOfNumber.f k n) (0, false) := by
        simp only [spec_KindOfNumber.f, spec_dvNumber_eq, Option.bind_some, decide_eq_true_eq]
        exact evn h (Ev.now _)
      have g8 : Ev (fun k => impl_KindOfNumber.f k n) (0, false) := by
        simp only [impl_KindOfNumber.f, impl_isDivided_eq, Option.bind_some, decide_eq_true_eq]
        exact evn h (Ev.now _)
      have g9 : Ev (fun k => spec_PrimeFactors.f k n) ([], false) := by
        simp only [spec_PrimeFactors.f, spec_dvNumber_eq, Option.bind_some, decide_eq_true_eq]
        exact evn h (Ev.now _)
      have g10 : Ev (fun k => impl_PrimeFactors.f k n) ([], false) := by
        simp only [impl_PrimeFactors.f, impl_isDivided_eq, Option.bind_some, decide_eq_true_eq]
        exact evn h (Ev.now _)
      refine evb g2 (evb g1 (evb g4 (evb g3 (evb g6 (evb g5 (evb g8 (evb g7 (evb g10 (evb g9 ?_)))))))))
      refine evn (by simp) (evp rfl (evn (by simp) (evp rfl (evn (by simp) (evp rfl (evn (by simp) (evp rfl (evn (by simp) (evb (laws_qSame_self _ (by simp)) (evp rfl (evn (by simp) (evn (by simp) (evn (by simp) ?_)))))))))))))
      refine evs (fun k => by rw [laws_FnDivisorsSum.j0]) ?_
      exact evn (by simp) (evn (by simp) (j4_no l1 hl1 _ _ _))

end Go.Proofs.Ytikkpehjleoplaa.Pure
