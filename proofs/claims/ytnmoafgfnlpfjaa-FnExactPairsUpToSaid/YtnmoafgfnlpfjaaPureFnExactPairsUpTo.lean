/- For all numbers, PairsUpTo of the program and of the reference agree, and what the program returns is memory of its own. -/
import Derived.Test.YtnmoafgfnlpfjaaPFnExactPairsUpTox4
import Derived.Test.YtnmoafgfnlpfjaaWMore
set_option linter.unusedVariables false
set_option linter.unusedSimpArgs false
namespace Go.Proofs.Ytnmoafgfnlpfjaa.Pure
open Go.RowKit Go.Proofs.Ytnmoafgfnlpfjaa.PFnExactPairsUpTo Go.Proofs.YtnmoafgfnlpfjaaW.PrintWords Go.Proofs.YtnmoafgfnlpfjaaW.PrintLast

theorem w64 {x : Int} (h1 : -9223372036854775808 ≤ x) (h2 : x ≤ 9223372036854775807) : wrap64 x = x := by unfold wrap64; omega

theorem w64n (n : Nat) (h : n ≤ 9223372036854775807) : wrap64 (n : Int) = (n : Int) := w64 (by omega) (by omega)

theorem evp {α : Type} {c : Prop} [Decidable c] {a b : Nat → Option α} {r : α} (h : c) (k : Ev a r) : Ev (fun n => if c then a n else b n) r := Ev.congr (fun _ => if_pos h) k
theorem evn {α : Type} {c : Prop} [Decidable c] {a b : Nat → Option α} {r : α} (h : ¬ c) (k : Ev b r) : Ev (fun n => if c then a n else b n) r := Ev.congr (fun _ => if_neg h) k
theorem evr {α : Type} {x r : α} (h : x = r) : Ev (fun _ => some x) r := h ▸ Ev.now x
theorem evb {α β : Type} {g : Nat → Option α} {f : Nat → α → Option β} {a : α} {r : β} (h : Ev g a) (k : Ev (fun n => f n a) r) : Ev (fun n => (g n).bind fun x => f n x) r := Ev.bind h k
theorem evs {α : Type} {g f : Nat → Option α} {r : α} (h : ∀ k, g (k + 1) = f k) (k : Ev f r) : Ev g r := Ev.step h k
theorem rd_mid (pre post : List Int) (x : Int) : rd (pre ++ x :: post) (pre.length : Int) = x := by simp [rd]
theorem set_midI {α : Type} (pre post : List α) (x y : α) (i : Int) (h : i = pre.length) : (pre ++ x :: post).set i.toNat y = pre ++ y :: post := by subst h; simp
def iota (m : Int) : Nat → List Int
  | 0 => []
  | n + 1 => m :: iota (m + 1) n
def IsPr (p : Nat) : Prop := 2 ≤ p ∧ ∀ d, 2 ≤ d → d < p → ¬ d ∣ p
def lprod : List Nat → Nat
  | [] => 1
  | x :: l => x * lprod l
theorem lprod_pos {l : List Nat} (h : ∀ q ∈ l, 0 < q) : 0 < lprod l := by
  induction l with
  | nil => decide
  | cons x l ih => exact Nat.mul_pos (h x (by simp)) (ih (fun q hq => h q (by simp [hq])))
def Fac (L : List Nat) (n p : Nat) : Prop := (∀ q ∈ L, IsPr q ∧ p ≤ q) ∧ lprod L = n ∧ L.Pairwise (· ≤ ·)
theorem prime_of_big {n p : Nat} (hn : 1 < n) (hd : ∀ d, 2 ≤ d → d < p → ¬ d ∣ n) (hp : n < p * p) : IsPr n := by
  refine ⟨hn, fun d h2 h3 hdv => ?_⟩
  have h4 : p ≤ d := by
    by_cases h : p ≤ d
    · exact h
    · exact absurd hdv (hd d h2 (by omega))
  obtain ⟨e, he⟩ := hdv
  have h5 : 2 ≤ e := by
    rcases e with _ | _ | e
    · omega
    · omega
    · omega
  have h6 : p ≤ e := by
    by_cases h : p ≤ e
    · exact h
    · exact absurd ⟨d, by rw [he, Nat.mul_comm]⟩ (hd e h5 (by omega))
  have : p * p ≤ d * e := Nat.mul_le_mul h4 h6
  omega

def dvS : List Nat → Nat → Nat → Nat → Nat → Nat → Nat → Nat × Nat
  | [], sum, many, _, _, k, part => (sum * part, many * (k + 1))
  | q :: L, sum, many, p, power, k, part => if q = p then dvS L sum many p (power * p) (k + 1) (part + power * p) else dvS L (sum * part) (many * (k + 1)) q q 1 (1 + q)
def dvL : List Nat → Nat × Nat
  | [] => (1, 1)
  | q :: L => dvS L 1 1 q q 1 (1 + q)
def DvB (D sum many p power k part R : Nat) : Prop := 1 ≤ sum ∧ sum ≤ D * D ∧ 1 ≤ many ∧ many ≤ D ∧ 2 ≤ p ∧ p ≤ power ∧ 1 ≤ k ∧ k + 1 ≤ power ∧ 1 ≤ part ∧ part + 1 ≤ 2 * power ∧ D * power * R ≤ 1000000000 ∧ 1 ≤ R
theorem DvB.D1 {D sum many p power k part R : Nat} (h : DvB D sum many p power k part R) : 1 ≤ D := by
  obtain ⟨_, _, h3, h4, _⟩ := h
  omega
theorem DvB.fits {D sum many p power k part R : Nat} (h : DvB D sum many p power k part R) : D * power ≤ 1000000000 ∧ power ≤ 1000000000 ∧ D ≤ 1000000000 ∧ sum * part ≤ (D * power) * (D * power) ∧ many * (k + 1) ≤ D * power ∧ sum * part ≤ 1000000000000000000 ∧ sum ≤ 1000000000000000000 := by
  have hD := h.D1
  obtain ⟨h1, h2, h3, h4, h5, h6, h7, h8, h9, h10, h11, h12⟩ := h
  have a1 : D * power * 1 ≤ D * power * R := Nat.mul_le_mul_left _ h12
  have a2 : 1 * power ≤ D * power := Nat.mul_le_mul_right _ hD
  have a3 : D * 1 ≤ D * power := Nat.mul_le_mul_left _ (by omega)
  have a4 : 2 * power ≤ power * power := Nat.mul_le_mul_right _ (by omega)
  have a5 : sum * part ≤ (D * D) * (power * power) := Nat.mul_le_mul h2 (by omega)
  have a6 : (D * D) * (power * power) = (D * power) * (D * power) := by
    rw [Nat.mul_mul_mul_comm]
  have a7 : many * (k + 1) ≤ D * power := Nat.mul_le_mul h4 h8
  have a8 : (D * power) * (D * power) ≤ 1000000000 * 1000000000 := Nat.mul_le_mul (by omega) (by omega)
  have a9 : D * D ≤ 1000000000 * 1000000000 := Nat.mul_le_mul (by omega) (by omega)
  omega
theorem DvB.same {D sum many p power k part R : Nat} (h : DvB D sum many p power k part (p * R)) : DvB D sum many p (power * p) (k + 1) (part + power * p) R := by
  obtain ⟨h1, h2, h3, h4, h5, h6, h7, h8, h9, h10, h11, h12⟩ := h
  have a1 : power * 2 ≤ power * p := Nat.mul_le_mul_left _ h5
  have hR : 1 ≤ R := by
    rcases R with _ | R
    · simp at h12
    · omega
  refine ⟨h1, h2, h3, h4, h5, by omega, by omega, by omega, by omega, by omega, ?_, hR⟩
  rw [← Nat.mul_assoc] at h11
  rw [← Nat.mul_assoc]
  exact h11
theorem DvB.next {D sum many p power k part q R : Nat} (h : DvB D sum many p power k part (q * R)) (hq : 2 ≤ q) : DvB (D * power) (sum * part) (many * (k + 1)) q q 1 (1 + q) R := by
  have hf := h.fits
  obtain ⟨h1, h2, h3, h4, h5, h6, h7, h8, h9, h10, h11, h12⟩ := h
  have hR : 1 ≤ R := by
    rcases R with _ | R
    · simp at h12
    · omega
  have b1 : 1 * 1 ≤ sum * part := Nat.mul_le_mul h1 h9
  have b2 : 1 * 1 ≤ many * (k + 1) := Nat.mul_le_mul h3 (by omega)
  refine ⟨by omega, hf.2.2.2.1, by omega, hf.2.2.2.2.1, hq, Nat.le_refl _, by omega, by omega, by omega, by omega, ?_, hR⟩
  rw [← Nat.mul_assoc] at h11
  exact h11
theorem DvB.first {q R : Nat} (hq : 2 ≤ q) (hR : 1 ≤ R) (h : q * R ≤ 1000000000) : DvB 1 1 1 q q 1 (1 + q) R := ⟨by omega, by omega, by omega, by omega, hq, Nat.le_refl _, by omega, by omega, by omega, by omega, by rw [Nat.one_mul]; exact h, hR⟩

def ic (l : List Nat) : List Int := l.map (fun x : Nat => (x : Int))
theorem ic_cons (x : Nat) (l : List Nat) : ic (x :: l) = (x : Int) :: ic l := rfl
theorem impl_in_eq (a b c : Int) : impl_in.f a b c = some (decide (b ≤ a ∧ a ≤ c)) := by
  unfold impl_in.f
  by_cases h : b ≤ a <;> simp [h]
theorem spec_l1In_eq (a b c : Int) : spec_l1In.f a b c = some (decide (b ≤ a ∧ a ≤ c)) := by
  unfold spec_l1In.f
  by_cases h : b ≤ a <;> simp [h]

theorem spec_dvNumber_eq (n : Int) : spec_dvNumber.f n = some (decide (1 ≤ n ∧ n ≤ 1000000000)) := by simp only [spec_dvNumber.f, spec_l1In_eq, Option.bind_some]
theorem impl_isDivided_eq (n : Int) : impl_isDivided.f n = some (decide (1 ≤ n ∧ n ≤ 1000000000)) := by simp only [impl_isDivided.f, impl_in_eq, Option.bind_some]

theorem tmod_cast (a b : Nat) : Int.tmod (a : Int) (b : Int) = ((a % b : Nat) : Int) := (Int.ofNat_tmod a b).symm
theorem tdiv_cast (a b : Nat) : Int.tdiv (a : Int) (b : Int) = ((a / b : Nat) : Int) := (Int.ofNat_tdiv a b).symm
theorem natOf {a : Int} (h : 0 ≤ a) : ∃ n : Nat, a = (n : Int) := ⟨a.toNat, by omega⟩

def dvs (n : Nat) : List Nat := (List.range (n + 1)).filter fun d => decide (1 ≤ d ∧ n % d = 0)
def sg (n : Nat) : Nat := (dvs n).sum
def tau (n : Nat) : Nat := (dvs n).length
theorem mem_dvs {n d : Nat} (hn : 1 ≤ n) : d ∈ dvs n ↔ d ∣ n := by
  simp only [dvs, List.mem_filter, List.mem_range, decide_eq_true_eq]
  constructor
  · intro h
    exact Nat.dvd_of_mod_eq_zero h.2.2
  · intro h
    have h1 := Nat.le_of_dvd (by omega) h
    have h2 := Nat.pos_of_dvd_of_pos h (by omega)
    exact ⟨by omega, h2, Nat.mod_eq_zero_of_dvd h⟩
theorem nodup_dvs (n : Nat) : (dvs n).Nodup := List.Pairwise.filter _ List.nodup_range
theorem pr_coprime {p d : Nat} (hp : IsPr p) (h : ¬ p ∣ d) : Nat.Coprime p d := by
  have h1 := Nat.gcd_dvd_left p d
  have h2 := Nat.gcd_dvd_right p d
  have h3 := Nat.le_of_dvd (by have := hp.1; omega) h1
  have h4 : 0 < Nat.gcd p d := Nat.gcd_pos_of_pos_left _ (by have := hp.1; omega)
  show Nat.gcd p d = 1
  by_cases h5 : Nat.gcd p d = p
  · rw [h5] at h2
    exact absurd h2 h
  · by_cases h6 : Nat.gcd p d = 1
    · exact h6
    · exact absurd h1 (hp.2 _ (by omega) (by omega))
theorem pr_mul {p a b : Nat} (hp : IsPr p) (h : p ∣ a * b) : p ∣ a ∨ p ∣ b := by
  by_cases h1 : p ∣ a
  · exact Or.inl h1
  · exact Or.inr ((pr_coprime hp h1).dvd_of_dvd_mul_left h)
theorem pr_eq {p q : Nat} (hp : IsPr p) (hq : IsPr q) (h : p ∣ q) : p = q := by
  have h1 := Nat.le_of_dvd (by have := hq.1; omega) h
  by_cases h2 : p = q
  · exact h2
  · exact absurd h (hq.2 p hp.1 (by omega))
theorem pr_lprod {p : Nat} (hp : IsPr p) (L : List Nat) (hL : ∀ q ∈ L, IsPr q) (h : p ∣ lprod L) : p ∈ L := by
  induction L with
  | nil =>
    have h1 := Nat.le_of_dvd (by decide) h
    have := hp.1
    simp only [lprod] at h1
    omega
  | cons q L ih =>
    rcases pr_mul hp h with h1 | h1
    · rw [pr_eq hp (hL q (by simp)) h1]
      simp
    · exact List.mem_cons_of_mem _ (ih (fun x hx => hL x (by simp [hx])) h1)
theorem dvd_split {p m : Nat} (hp : IsPr p) (k : Nat) : ∀ d : Nat, d ∣ p ^ (k + 1) * m → d ∣ p ^ k * m ∨ ∃ e, e ∣ m ∧ p ^ (k + 1) * e = d := by
  have hp0 : 0 < p := by have := hp.1; omega
  induction k with
  | zero =>
    intro d h
    rw [Nat.pow_one] at h
    by_cases hd : p ∣ d
    · obtain ⟨e, rfl⟩ := hd
      exact Or.inr ⟨e, Nat.dvd_of_mul_dvd_mul_left hp0 h, by rw [Nat.pow_one]⟩
    · left
      rw [Nat.pow_zero, Nat.one_mul]
      exact (pr_coprime hp hd).symm.dvd_of_dvd_mul_left h
  | succ k ih =>
    intro d h
    have e1 : p ^ (k + 1 + 1) * m = p * (p ^ (k + 1) * m) := by rw [Nat.pow_succ p (k + 1), Nat.mul_comm (p ^ (k + 1)) p, Nat.mul_assoc]
    rw [e1] at h
    by_cases hd : p ∣ d
    · obtain ⟨e, rfl⟩ := hd
      rcases ih e (Nat.dvd_of_mul_dvd_mul_left hp0 h) with h2 | ⟨x, h3, h4⟩
      · left
        rw [Nat.pow_succ, Nat.mul_comm (p ^ k) p, Nat.mul_assoc]
        exact Nat.mul_dvd_mul_left p h2
      · exact Or.inr ⟨x, h3, by rw [← h4, Nat.pow_succ p (k + 1), Nat.mul_comm (p ^ (k + 1)) p, Nat.mul_assoc]⟩
    · left
      exact (pr_coprime hp hd).symm.dvd_of_dvd_mul_left h
theorem dvs_perm {p m : Nat} (hp : IsPr p) (hm : 1 ≤ m) (hpm : ¬ p ∣ m) (k : Nat) : (dvs (p ^ (k + 1) * m)).Perm (dvs (p ^ k * m) ++ (dvs m).map (fun e => p ^ (k + 1) * e)) := by
  have hp0 : 0 < p := by have := hp.1; omega
  have hk : 0 < p ^ k := Nat.pow_pos hp0
  have hk1 : 0 < p ^ (k + 1) := Nat.pow_pos hp0
  have e1 : 1 ≤ p ^ k * m := Nat.mul_pos hk hm
  have e2 : 1 ≤ p ^ (k + 1) * m := Nat.mul_pos hk1 hm
  refine (List.perm_ext_iff_of_nodup (nodup_dvs _) (List.nodup_append.2 ⟨nodup_dvs _, ?_, ?_⟩)).2 fun d => ?_
  · refine List.Pairwise.map _ ?_ (nodup_dvs m)
    intro a b hab he
    exact hab (Nat.eq_of_mul_eq_mul_left hk1 he)
  · intro a ha b hb he
    subst he
    rw [mem_dvs e1] at ha
    obtain ⟨e, _, rfl⟩ := List.mem_map.1 hb
    rw [Nat.pow_succ, Nat.mul_assoc] at ha
    have h3 := Nat.dvd_of_mul_dvd_mul_left hk ha
    exact hpm (Nat.dvd_trans (Nat.dvd_mul_right p e) h3)
  · rw [mem_dvs e2, List.mem_append, mem_dvs e1, List.mem_map]
    constructor
    · intro h
      rcases dvd_split hp k d h with h2 | ⟨e, h3, h4⟩
      · exact Or.inl h2
      · exact Or.inr ⟨e, (mem_dvs hm).2 h3, h4⟩
    · rintro (h | ⟨e, h3, h4⟩)
      · refine Nat.dvd_trans h ?_
        rw [Nat.pow_succ, Nat.mul_assoc]
        exact Nat.mul_dvd_mul_left _ (Nat.dvd_mul_left m p)
      · rw [← h4]
        exact Nat.mul_dvd_mul_left _ ((mem_dvs hm).1 h3)
theorem sum_map_mul (c : Nat) (L : List Nat) : (L.map (fun e => c * e)).sum = c * L.sum := by
  induction L with
  | nil => simp
  | cons x L ih => simp only [List.map_cons, List.sum_cons, ih, Nat.mul_add]
def geo (p : Nat) : Nat → Nat
  | 0 => 1
  | k + 1 => geo p k + p ^ k * p
theorem sg_pow {p m : Nat} (hp : IsPr p) (hm : 1 ≤ m) (hpm : ¬ p ∣ m) (k : Nat) : sg (p ^ k * m) = geo p k * sg m ∧ tau (p ^ k * m) = (k + 1) * tau m := by
  induction k with
  | zero => simp [geo]
  | succ k ih =>
    have h := dvs_perm hp hm hpm k
    have h1 := h.sum_nat
    have h2 := h.length_eq
    rw [List.sum_append, sum_map_mul] at h1
    rw [List.length_append, List.length_map] at h2
    constructor
    · show (dvs (p ^ (k + 1) * m)).sum = _
      rw [h1]
      show sg (p ^ k * m) + p ^ (k + 1) * sg m = _
      rw [ih.1, geo, Nat.add_mul, Nat.pow_succ]
    · show (dvs (p ^ (k + 1) * m)).length = _
      rw [h2]
      show tau (p ^ k * m) + tau m = _
      rw [ih.2, Nat.add_mul (k + 1), Nat.one_mul]
theorem sg_one : sg 1 = 1 ∧ tau 1 = 1 := by decide
theorem dvS_sg (L : List Nat) : ∀ (sum many p k : Nat), IsPr p → 1 ≤ k → (∀ q ∈ L, IsPr q ∧ p ≤ q) → L.Pairwise (· ≤ ·) →
    dvS L sum many p (p ^ k) k (geo p k) = (sum * sg (p ^ k * lprod L), many * tau (p ^ k * lprod L)) := by
  induction L with
  | nil =>
    intro sum many p k hp hk hq hs
    have h := sg_pow (m := 1) hp (Nat.le_refl _) (fun h => by have := Nat.le_of_dvd (by decide) h; have := hp.1; omega) k
    simp only [dvS, lprod]
    rw [h.1, h.2, sg_one.1, sg_one.2, Nat.mul_one, Nat.mul_one]
  | cons q L ih =>
    intro sum many p k hp hk hq hs
    have hq1 := hq q (by simp)
    have hs2 := List.pairwise_cons.1 hs
    simp only [dvS, lprod]
    by_cases hqp : q = p
    · subst hqp
      rw [if_pos rfl]
      have h := ih sum many q (k + 1) hp (by omega) (fun x hx => hq x (by simp [hx])) hs2.2
      rw [Nat.pow_succ, Nat.mul_assoc] at h
      exact h
    · rw [if_neg hqp]
      have h := ih (sum * geo p k) (many * (k + 1)) q 1 hq1.1 (by omega) (fun x hx => ⟨(hq x (by simp [hx])).1, hs2.1 x hx⟩) hs2.2
      have hg : geo q 1 = 1 + q := by simp [geo]
      rw [Nat.pow_one, hg] at h
      rw [h]
      have hm : 1 ≤ q * lprod L := lprod_pos (l := q :: L) (fun x hx => by have := (hq x hx).1.1; omega)
      have hpm : ¬ p ∣ q * lprod L := fun hd => by
        have h3 := pr_lprod hp (q :: L) (fun x hx => (hq x hx).1) hd
        rcases List.mem_cons.1 h3 with h4 | h4
        · exact hqp h4.symm
        · have h5 := hs2.1 p h4
          omega
      have h6 := sg_pow hp hm hpm k
      rw [h6.1, h6.2, Nat.mul_assoc, Nat.mul_assoc]
theorem dvL_sg {L : List Nat} {n : Nat} (h : Fac L n 2) : dvL L = (sg n, tau n) := by
  obtain ⟨h1, h2, h3⟩ := h
  cases L with
  | nil =>
    simp only [lprod] at h2
    subst h2
    rw [sg_one.1, sg_one.2]
    rfl
  | cons q L =>
    have hs := List.pairwise_cons.1 h3
    have h := dvS_sg L 1 1 q 1 (h1 q (by simp)).1 (by omega) (fun x hx => ⟨(h1 x (by simp [hx])).1, hs.1 x hx⟩) hs.2
    have hg : geo q 1 = 1 + q := by simp [geo]
    rw [Nat.pow_one, hg, Nat.one_mul, Nat.one_mul] at h
    simp only [dvL]
    rw [h, ← h2]
    rfl
theorem dvFactors_l1 (M : Nat) : ∀ (n p : Nat) (out : List Int), 1 ≤ n → n ≤ 1000000000 → 2 ≤ p → p ≤ 31623 → out.length + n ≤ 2000000000 → (∀ d, 2 ≤ d → d < p → ¬ d ∣ n) → n + (40000 - p) ≤ M →
    ∃ L, Fac L n p ∧ Ev (fun k => spec_dvFactors.l1 k (n : Int) out (p : Int)) (out ++ ic L) := by
  induction M with
  | zero => intro n p out h1 h2 h3 h4 h5 h6 h7; omega
  | succ M ih =>
    intro n p out h1 h2 h3 h4 h5 h6 h7
    by_cases hd : n % p = 0
    · obtain ⟨m, rfl⟩ := Nat.dvd_of_mod_eq_zero hd
      have hm : 1 ≤ m := by
        rcases m with _ | m
        · omega
        · omega
      have hm2 : 2 * m ≤ p * m := Nat.mul_le_mul_right m h3
      have h9' : m + (40000 - p) ≤ M := by omega
      obtain ⟨L, ⟨hL1, hL2, hL3⟩, hev⟩ := ih m p (out ++ [(p : Int)]) hm (by omega) h3 h4 (by simp; omega) (fun d h8 h9 h10 => h6 d h8 h9 (Nat.dvd_trans h10 (Nat.dvd_mul_left m p))) h9'
      refine ⟨p :: L, ⟨fun q hq => ?_, by simp [lprod, hL2], List.pairwise_cons.2 ⟨fun q hq => (hL1 q hq).2, hL3⟩⟩, ?_⟩
      · rcases List.mem_cons.1 hq with rfl | hq
        · exact ⟨⟨h3, fun d h8 h9 h10 => h6 d h8 h9 (Nat.dvd_trans h10 (Nat.dvd_mul_right _ m))⟩, Nat.le_refl _⟩
        · exact hL1 q hq
      · refine evs (fun k => by rw [spec_dvFactors.l1]) ?_
        rw [tmod_cast, tdiv_cast, hd]
        refine evn (by omega) (evp (by simp) (evp (by omega) ?_))
        rw [Nat.mul_div_cancel_left m (by omega : 0 < p), w64 (by omega) (by omega)]
        simpa [ic_cons] using hev
    · have hdv : ¬ p ∣ n := fun h => hd (Nat.mod_eq_zero_of_dvd h)
      have h6' : ∀ d, 2 ≤ d → d < p + 1 → ¬ d ∣ n := by
        intro d h8 h9 h10
        by_cases he : d = p
        · subst he; exact hdv h10
        · exact h6 d h8 (by omega) h10
      have hsq : ((p + 1 : Nat) : Int) * ((p + 1 : Nat) : Int) = (((p + 1) * (p + 1) : Nat) : Int) := by simp
      have hb : (p + 1) * (p + 1) ≤ 31624 * 31624 := Nat.mul_le_mul (by omega) (by omega)
      have key : ∃ L, Fac L n (p + 1) ∧ Ev (fun k => spec_dvFactors.l0 k (n : Int) out ((p + 1 : Nat) : Int)) (out ++ ic L) := by
        by_cases hc : (p + 1) * (p + 1) ≤ n
        · have hp : p + 1 ≤ 31623 := by
            by_cases h : p + 1 ≤ 31623
            · exact h
            · have : 31624 * 31624 ≤ (p + 1) * (p + 1) := Nat.mul_le_mul (by omega) (by omega)
              omega
          obtain ⟨L, hL, hev⟩ := ih n (p + 1) out h1 h2 (by omega) hp h5 h6' (by omega)
          refine ⟨L, hL, evs (fun k => by rw [spec_dvFactors.l0]) ?_⟩
          rw [hsq, w64 (by omega) (by omega)]
          exact evp (by omega) hev
        · by_cases hn : 1 < n
          · refine ⟨[n], ⟨fun q hq => ?_, by simp [lprod], by simp⟩, evs (fun k => by rw [spec_dvFactors.l0]) ?_⟩
            · rw [List.mem_singleton.1 hq]
              have hpr := prime_of_big hn h6' (by omega)
              refine ⟨hpr, ?_⟩
              by_cases h : p + 1 ≤ n
              · exact h
              · exact absurd (Nat.dvd_refl n) (h6' n (by omega) (by omega))
            · rw [hsq, w64 (by omega) (by omega)]
              exact evn (by omega) (evp (by omega) (evp (by omega) (evr (by simp [ic]))))
          · obtain rfl : n = 1 := by omega
            refine ⟨[], ⟨by simp, by simp [lprod], by simp⟩, evs (fun k => by rw [spec_dvFactors.l0]) ?_⟩
            rw [hsq, w64 (by omega) (by omega)]
            exact evn (by omega) (evn (by omega) (evr (by simp [ic])))
      obtain ⟨L, ⟨hL1, hL2, hL3⟩, hev⟩ := key
      refine ⟨L, ⟨fun q hq => ⟨(hL1 q hq).1, by have := (hL1 q hq).2; omega⟩, hL2, hL3⟩, evs (fun k => by rw [spec_dvFactors.l1]) ?_⟩
      rw [tmod_cast]
      refine evn (by omega) (evn (by omega) ?_)
      rw [w64 (by omega) (by omega)]
      exact hev
theorem dvFactors_ev (n : Nat) (h1 : 1 ≤ n) (h2 : n ≤ 1000000000) : ∃ L, Fac L n 2 ∧ Ev (fun k => spec_dvFactors.f k (n : Int)) (ic L) := by
  unfold spec_dvFactors.f
  by_cases hc : 4 ≤ n
  · obtain ⟨M, hM⟩ : ∃ M, n + (40000 - 2) ≤ M := ⟨_, Nat.le_refl _⟩
    obtain ⟨L, hL, hev⟩ := dvFactors_l1 M n 2 [] h1 h2 (by omega) (by omega) (by simp; omega) (fun d h8 h9 => by omega) hM
    refine ⟨L, hL, evs (fun k => by rw [spec_dvFactors.l0]) ?_⟩
    rw [w64 (by omega) (by omega)]
    exact evp (by omega) (by simpa using hev)
  · by_cases hn : 1 < n
    · refine ⟨[n], ⟨fun q hq => ?_, by simp [lprod], by simp⟩, evs (fun k => by rw [spec_dvFactors.l0]) ?_⟩
      · rw [List.mem_singleton.1 hq]
        exact ⟨prime_of_big (p := 2) hn (fun d h8 h9 => by omega) (by omega), by omega⟩
      · rw [w64 (by omega) (by omega)]
        exact evn (by omega) (evp (by omega) (evp (by simp) (evr (by simp [ic]))))
    · obtain rfl : n = 1 := by omega
      refine ⟨[], ⟨by simp, by simp [lprod], by simp⟩, evs (fun k => by rw [spec_dvFactors.l0]) ?_⟩
      rw [w64 (by omega) (by omega)]
      exact evn (by omega) (evn (by omega) (evr (by simp [ic])))
theorem factors_same_loop : ∀ (k : Nat), (∀ (a : Int) (b : List Int) (c : Int), impl_factors.l0 k a b c = spec_dvFactors.l0 k a b c) ∧ (∀ (a : Int) (b : List Int) (c : Int), impl_factors.l1 k a b c = spec_dvFactors.l1 k a b c)
  | 0 => ⟨fun _ _ _ => rfl, fun _ _ _ => rfl⟩
  | k + 1 => ⟨fun a b c => by simp only [impl_factors.l0, spec_dvFactors.l0, factors_same_loop k], fun a b c => by simp only [impl_factors.l1, spec_dvFactors.l1, factors_same_loop k]⟩
theorem factors_same (k : Nat) (a : Int) : impl_factors.f k a = spec_dvFactors.f k a := by simp only [impl_factors.f, spec_dvFactors.f, factors_same_loop]
theorem factors_ev {n : Nat} {L : List Nat} (h : Ev (fun k => spec_dvFactors.f k (n : Int)) (ic L)) : Ev (fun k => impl_factors.f k (n : Int)) (ic L) := by simpa only [factors_same] using h

theorem dvSums_loop (whole : List Int) (L : List Nat) : ∀ (pre : List Int) (D sum many p power k part : Nat), whole = pre ++ ic L → whole.length ≤ 1000000000000 → (∀ q ∈ L, 2 ≤ q) → DvB D sum many p power k part (lprod L) →
    Ev (fun f => spec_dvSums.l1 f (sum : Int) (many : Int) whole (pre.length : Int) (p : Int) (power : Int) (k : Int) (part : Int)) (((dvS L sum many p power k part).1 : Int), ((dvS L sum many p power k part).2 : Int)) := by
  induction L with
  | nil =>
    intro pre D sum many p power k part hw hlen hq hB
    have hf := hB.fits
    obtain ⟨h1, h2, h3, h4, h5, h6, h7, h8, h9, h10, h11, h12⟩ := hB
    have hl : whole.length = pre.length := by simp [hw, ic]
    have e1 : (sum : Int) * (part : Int) = ((sum * part : Nat) : Int) := by simp
    have e2 : (many : Int) * (((k + 1 : Nat)) : Int) = ((many * (k + 1) : Nat) : Int) := by simp
    have e3 : (k : Int) + 1 = ((k + 1 : Nat) : Int) := by simp
    refine evs (fun k => by rw [spec_dvSums.l1]) ?_
    rw [w64 (x := (k : Int) + 1) (by omega) (by omega), e3, e1, e2, w64n (sum * part) (by omega), w64n (many * (k + 1)) (by omega)]
    refine evn (by omega) (evs (fun k => by rw [spec_dvSums.l0]) ?_)
    exact evn (by omega) (evr rfl)
  | cons q L ih =>
    intro pre D sum many p power k part hw hlen hq hB
    have hf := hB.fits
    have hB0 := hB
    obtain ⟨h1, h2, h3, h4, h5, h6, h7, h8, h9, h10, h11, h12⟩ := hB
    rw [ic_cons] at hw
    have hl : whole.length = pre.length + (L.length + 1) := by simp [hw, ic]
    have hx : rd whole (pre.length : Int) = (q : Int) := by rw [hw, rd_mid]
    have hw2 : whole = (pre ++ [(q : Int)]) ++ ic L := by simp [hw]
    have hq2 := hq q (by simp)
    have hqL : ∀ x ∈ L, 2 ≤ x := fun x hx => hq x (by simp [hx])
    refine evs (fun k => by rw [spec_dvSums.l1]) ?_
    rw [hx]
    refine evp (by omega) (evp (by omega) ?_)
    by_cases hqp : q = p
    · subst hqp
      have hB2 := DvB.same hB0
      have hf2 := hB2.fits
      have e1 : (power : Int) * (q : Int) = ((power * q : Nat) : Int) := by simp
      have e2 : (part : Int) + ((power * q : Nat) : Int) = ((part + power * q : Nat) : Int) := by simp
      have e3 : (k : Int) + 1 = ((k + 1 : Nat) : Int) := by simp
      refine evp rfl ?_
      rw [e1, w64 (x := ((power * q : Nat) : Int)) (by omega) (by omega), e2, w64 (x := ((part + power * q : Nat) : Int)) (by omega) (by omega), w64 (x := (k : Int) + 1) (by omega) (by omega), w64 (x := (pre.length : Int) + 1) (by omega) (by omega), e3]
      have h := ih (pre ++ [(q : Int)]) D sum many q (power * q) (k + 1) (part + power * q) hw2 hlen hqL hB2
      simpa [dvS] using h
    · have hB2 := DvB.next hB0 hq2
      have hf2 := hB2.fits
      have e1 : (sum : Int) * (part : Int) = ((sum * part : Nat) : Int) := by simp
      have e2 : (many : Int) * (((k + 1 : Nat)) : Int) = ((many * (k + 1) : Nat) : Int) := by simp
      have e3 : (k : Int) + 1 = ((k + 1 : Nat) : Int) := by simp
      refine evn (by omega) ?_
      rw [w64 (x := (k : Int) + 1) (by omega) (by omega), e3, e1, e2, w64n (sum * part) (by omega), w64n (many * (k + 1)) (by omega)]
      refine evs (fun k => by rw [spec_dvSums.l0]) ?_
      refine evp (by omega) (evp (by omega) ?_)
      rw [hx]
      refine evs (fun k => by rw [spec_dvSums.l1]) ?_
      rw [hx]
      refine evp (by omega) (evp (by omega) (evp rfl ?_))
      rw [Int.one_mul, w64 (x := (q : Int)) (by omega) (by omega), w64 (x := (pre.length : Int) + 1) (by omega) (by omega), w64 (x := (0 : Int) + 1) (by omega) (by omega), w64 (x := (1 : Int) + (q : Int)) (by omega) (by omega)]
      have h := ih (pre ++ [(q : Int)]) (D * power) (sum * part) (many * (k + 1)) q q 1 (1 + q) hw2 hlen hqL hB2
      simpa [dvS, hqp] using h
theorem dvSums_run (L : List Nat) (hlen : L.length ≤ 1000000000000) (hq : ∀ q ∈ L, 2 ≤ q) (hn : lprod L ≤ 1000000000) :
    Ev (fun f => spec_dvSums.l0 f 1 1 (ic L) 0) (((dvL L).1 : Int), ((dvL L).2 : Int)) := by
  cases L with
  | nil =>
    refine evs (fun k => by rw [spec_dvSums.l0]) ?_
    exact evn (by simp [ic]) (evr rfl)
  | cons q L =>
    have hq2 := hq q (by simp)
    have hqL : ∀ x ∈ L, 2 ≤ x := fun x hx => hq x (by simp [hx])
    have hR := lprod_pos (l := L) (fun x hx => by have := hqL x hx; omega)
    have hB := DvB.first hq2 hR hn
    have hf := hB.fits
    have hx : rd (ic (q :: L)) 0 = (q : Int) := by simp [ic, rd]
    have hl : (ic (q :: L)).length = L.length + 1 := by simp [ic]
    refine evs (fun k => by rw [spec_dvSums.l0]) ?_
    refine evp (by omega) (evp (by omega) (evs (fun k => by rw [spec_dvSums.l1]) ?_))
    rw [hx]
    refine evp (by omega) (evp (by omega) (evp rfl ?_))
    rw [Int.one_mul, w64 (x := (q : Int)) (by omega) (by omega), w64 (x := (0 : Int) + 1) (by omega) (by omega), w64 (x := (1 : Int) + (q : Int)) (by omega) (by omega)]
    have h := dvSums_loop (ic (q :: L)) L [(q : Int)] 1 1 1 q q 1 (1 + q) rfl (by simp only [List.length_cons] at hlen; omega) hqL hB
    simpa [dvL] using h
theorem divisors_loop (L : List Nat) : ∀ (D sum many p power k part : Nat), L.length ≤ 1000000000000 → (∀ q ∈ L, 2 ≤ q) → part * p + 1 = part + power * p → DvB D sum many p power k part (lprod L) →
    Ev (fun f => impl_divisors.l1 f (sum : Int) (many : Int) (ic L) (part : Int) (k : Int) (p : Int)) (((dvS L sum many p power k part).1 : Int), ((dvS L sum many p power k part).2 : Int)) := by
  induction L with
  | nil =>
    intro D sum many p power k part hlen hq hP hB
    have hf := hB.fits
    obtain ⟨h1, h2, h3, h4, h5, h6, h7, h8, h9, h10, h11, h12⟩ := hB
    have e1 : (sum : Int) * (part : Int) = ((sum * part : Nat) : Int) := by simp
    have e2 : (many : Int) * (((k + 1 : Nat)) : Int) = ((many * (k + 1) : Nat) : Int) := by simp
    have e3 : (k : Int) + 1 = ((k + 1 : Nat) : Int) := by simp
    refine evs (fun k => by rw [impl_divisors.l1]) ?_
    rw [w64 (x := (k : Int) + 1) (by omega) (by omega), e3, e1, e2, w64n (sum * part) (by omega), w64n (many * (k + 1)) (by omega)]
    refine evn (by simp [ic]) (evs (fun k => by rw [impl_divisors.l0]) ?_)
    exact evn (by simp [ic]) (evr rfl)
  | cons q L ih =>
    intro D sum many p power k part hlen hq hP hB
    have hf := hB.fits
    have hB0 := hB
    obtain ⟨h1, h2, h3, h4, h5, h6, h7, h8, h9, h10, h11, h12⟩ := hB
    have hx : rd (ic (q :: L)) 0 = (q : Int) := by simp [ic, rd]
    have hl : (ic (q :: L)).length = L.length + 1 := by simp [ic]
    have hdr : (ic (q :: L)).drop (1 : Int).toNat = ic L := by simp [ic]
    have hq2 := hq q (by simp)
    have hqL : ∀ x ∈ L, 2 ≤ x := fun x hx => hq x (by simp [hx])
    simp only [List.length_cons] at hlen
    refine evs (fun k => by rw [impl_divisors.l1]) ?_
    rw [hx, hdr]
    refine evp (by omega) (evp (by omega) ?_)
    by_cases hqp : q = p
    · subst hqp
      have hB2 := DvB.same hB0
      have hf2 := hB2.fits
      have e1 : (part : Int) * (q : Int) = ((part * q : Nat) : Int) := by simp
      have e2 : ((part * q : Nat) : Int) + 1 = ((part + power * q : Nat) : Int) := by rw [← hP]; simp
      have e3 : (k : Int) + 1 = ((k + 1 : Nat) : Int) := by simp
      refine evp rfl (evp (by omega) ?_)
      obtain ⟨g1, g2, g3, g4, g5, g6, g7, g8, g9, g10, g11, g12⟩ := hB2
      rw [e1, w64 (x := ((part * q : Nat) : Int)) (by omega) (by omega), e2, w64 (x := ((part + power * q : Nat) : Int)) (by omega) (by omega), w64 (x := (k : Int) + 1) (by omega) (by omega), e3]
      have hP2 : (part + power * q) * q + 1 = (part + power * q) + power * q * q := by
        rw [Nat.add_mul]
        omega
      have h := ih D sum many q (power * q) (k + 1) (part + power * q) (by omega) hqL hP2 (DvB.same hB0)
      simpa [dvS] using h
    · have hB2 := DvB.next hB0 hq2
      have hf2 := hB2.fits
      have e1 : (sum : Int) * (part : Int) = ((sum * part : Nat) : Int) := by simp
      have e2 : (many : Int) * (((k + 1 : Nat)) : Int) = ((many * (k + 1) : Nat) : Int) := by simp
      have e3 : (k : Int) + 1 = ((k + 1 : Nat) : Int) := by simp
      refine evn (by omega) ?_
      rw [w64 (x := (k : Int) + 1) (by omega) (by omega), e3, e1, e2, w64n (sum * part) (by omega), w64n (many * (k + 1)) (by omega)]
      refine evs (fun k => by rw [impl_divisors.l0]) ?_
      refine evp (by omega) (evp (by omega) ?_)
      rw [hx]
      refine evs (fun k => by rw [impl_divisors.l1]) ?_
      rw [hx, hdr]
      refine evp (by omega) (evp (by omega) (evp rfl (evp (by omega) ?_)))
      rw [Int.one_mul, w64 (x := (q : Int)) (by omega) (by omega), w64 (x := (0 : Int) + 1) (by omega) (by omega), w64 (x := (q : Int) + 1) (by omega) (by omega)]
      have h := ih (D * power) (sum * part) (many * (k + 1)) q q 1 (1 + q) (by omega) hqL (by rw [Nat.add_mul]; omega) hB2
      have e4 : (((1 + q : Nat)) : Int) = (q : Int) + 1 := by omega
      rw [e4] at h
      simpa [dvS, hqp] using h
theorem divisors_run (L : List Nat) (hlen : L.length ≤ 1000000000000) (hq : ∀ q ∈ L, 2 ≤ q) (hn : lprod L ≤ 1000000000) :
    Ev (fun f => impl_divisors.l0 f 1 1 (ic L)) (((dvL L).1 : Int), ((dvL L).2 : Int)) := by
  cases L with
  | nil =>
    refine evs (fun k => by rw [impl_divisors.l0]) ?_
    exact evn (by simp [ic]) (evr rfl)
  | cons q L =>
    have hq2 := hq q (by simp)
    have hqL : ∀ x ∈ L, 2 ≤ x := fun x hx => hq x (by simp [hx])
    have hR := lprod_pos (l := L) (fun x hx => by have := hqL x hx; omega)
    have hB := DvB.first hq2 hR hn
    have hf := hB.fits
    have hx : rd (ic (q :: L)) 0 = (q : Int) := by simp [ic, rd]
    have hl : (ic (q :: L)).length = L.length + 1 := by simp [ic]
    have hdr : (ic (q :: L)).drop (1 : Int).toNat = ic L := by simp [ic]
    simp only [List.length_cons] at hlen
    refine evs (fun k => by rw [impl_divisors.l0]) ?_
    refine evp (by omega) (evp (by omega) (evs (fun k => by rw [impl_divisors.l1]) ?_))
    rw [hx, hdr]
    refine evp (by omega) (evp (by omega) (evp rfl (evp (by omega) ?_)))
    rw [Int.one_mul, w64 (x := (q : Int)) (by omega) (by omega), w64 (x := (0 : Int) + 1) (by omega) (by omega), w64 (x := (q : Int) + 1) (by omega) (by omega)]
    have h := divisors_loop L 1 1 1 q q 1 (1 + q) (by omega) hqL (by rw [Nat.add_mul]; omega) hB
    have e4 : (((1 + q : Nat)) : Int) = (q : Int) + 1 := by omega
    rw [e4] at h
    simpa [dvL] using h
theorem two_pow_le_lprod (L : List Nat) (hq : ∀ q ∈ L, 2 ≤ q) : L.length + 1 ≤ lprod L := by
  induction L with
  | nil => decide
  | cons q L ih =>
    have h1 := hq q (by simp)
    have h2 := ih (fun x hx => hq x (by simp [hx]))
    have h3 : 2 * lprod L ≤ q * lprod L := Nat.mul_le_mul_right _ h1
    simp only [List.length_cons, lprod]
    omega
theorem dv_ev (n : Nat) (h1 : 1 ≤ n) (h2 : n ≤ 1000000000) : ∃ L, Fac L n 2 ∧ Ev (fun k => spec_dvFactors.f k (n : Int)) (ic L) ∧
    Ev (fun k => spec_dvSums.f k (n : Int)) (((dvL L).1 : Int), ((dvL L).2 : Int)) ∧ Ev (fun k => impl_divisors.f k (n : Int)) (((dvL L).1 : Int), ((dvL L).2 : Int)) := by
  obtain ⟨L, hL, hev⟩ := dvFactors_ev n h1 h2
  have hq : ∀ q ∈ L, 2 ≤ q := fun q hq => (hL.1 q hq).2
  have hlen := two_pow_le_lprod L hq
  rw [hL.2.1] at hlen
  exact ⟨L, hL, hev, evb hev (dvSums_run L (by omega) hq (by rw [hL.2.1]; exact h2)), evb (factors_ev hev) (divisors_run L (by omega) hq (by rw [hL.2.1]; exact h2))⟩

theorem dvS_bound (L : List Nat) : ∀ (D sum many p power k part : Nat), (∀ q ∈ L, 2 ≤ q) → DvB D sum many p power k part (lprod L) → 1 ≤ (dvS L sum many p power k part).1 ∧ (dvS L sum many p power k part).1 ≤ 1000000000000000000 := by
  induction L with
  | nil =>
    intro D sum many p power k part hq hB
    have hf := hB.fits
    obtain ⟨h1, h2, h3, h4, h5, h6, h7, h8, h9, h10, h11, h12⟩ := hB
    have b1 : 1 * 1 ≤ sum * part := Nat.mul_le_mul h1 h9
    simp only [dvS]
    omega
  | cons q L ih =>
    intro D sum many p power k part hq hB
    have hqL : ∀ x ∈ L, 2 ≤ x := fun x hx => hq x (by simp [hx])
    by_cases hqp : q = p
    · subst hqp
      simp only [dvS, if_true]
      exact ih _ _ _ _ _ _ _ hqL (DvB.same hB)
    · simp only [dvS, if_neg hqp]
      exact ih _ _ _ _ _ _ _ hqL (DvB.next hB (hq q (by simp)))
theorem dvL_bound (L : List Nat) (hq : ∀ q ∈ L, 2 ≤ q) (hn : lprod L ≤ 1000000000) : 1 ≤ (dvL L).1 ∧ (dvL L).1 ≤ 1000000000000000000 := by
  cases L with
  | nil => simp [dvL]
  | cons q L =>
    have hqL : ∀ x ∈ L, 2 ≤ x := fun x hx => hq x (by simp [hx])
    exact dvS_bound L _ _ _ _ _ _ _ hqL (DvB.first (hq q (by simp)) (lprod_pos (fun x hx => by have := hqL x hx; omega)) hn)
theorem sg_bound (n : Nat) (h1 : 1 ≤ n) (h2 : n ≤ 1000000000) {L : List Nat} (hL : Fac L n 2) : 1 ≤ sg n ∧ sg n ≤ 1000000000000000000 := by
  have h := dvL_bound L (fun q hq => (hL.1 q hq).2) (by rw [hL.2.1]; exact h2)
  rw [dvL_sg hL] at h
  exact h
theorem dv_info (n : Nat) (h1 : 1 ≤ n) (h2 : n ≤ 1000000000) : 1 ≤ sg n ∧ sg n ≤ 1000000000000000000 ∧
    Ev (fun k => spec_dvSums.f k (n : Int)) ((sg n : Int), (tau n : Int)) ∧ Ev (fun k => impl_divisors.f k (n : Int)) ((sg n : Int), (tau n : Int)) := by
  obtain ⟨L, hL, _, hs, hi⟩ := dv_ev n h1 h2
  have hb := sg_bound n h1 h2 hL
  rw [dvL_sg hL] at hs hi
  exact ⟨hb.1, hb.2, hs, hi⟩
theorem proper_info (n : Nat) (h1 : 1 ≤ n) (h2 : n ≤ 1000000000) : Ev (fun k => spec_dvProper.f k (n : Int)) ((sg n : Int) - (n : Int)) ∧ Ev (fun k => impl_proper.f k (n : Int)) ((sg n : Int) - (n : Int)) := by
  obtain ⟨a, b, hs, hi⟩ := dv_info n h1 h2
  exact ⟨evb hs (evr (w64 (by omega) (by omega))), evb hi (evr (w64 (by omega) (by omega)))⟩

theorem mem_le_sum (l : List Nat) (x : Nat) (h : x ∈ l) : x ≤ l.sum := by
  induction l with
  | nil => simp at h
  | cons y l ih =>
    rw [List.sum_cons]
    rcases List.mem_cons.1 h with rfl | h
    · omega
    · have := ih h
      omega
theorem sg_ge (n : Nat) (hn : 1 ≤ n) : n ≤ sg n := mem_le_sum _ _ ((mem_dvs hn).2 (Nat.dvd_refl n))
def pt (n : Nat) : Nat := if sg n - n ≠ n ∧ 1 ≤ sg n - n ∧ sg n - n ≤ 1000000000 ∧ sg (sg n - n) - (sg n - n) = n then sg n - n else 0
theorem partner_full (n : Nat) (h1 : 1 ≤ n) (h2 : n ≤ 1000000000) : Ev (fun k => spec_dvPartner.f k (n : Int)) (pt n : Int) ∧ Ev (fun k => impl_partner.f k (n : Int)) (pt n : Int) := by
  obtain ⟨hs, hi⟩ := proper_info n h1 h2
  have hg := sg_ge n h1
  obtain ⟨s, hsd⟩ : ∃ s, sg n - n = s := ⟨_, rfl⟩
  have e1 : (sg n : Int) - (n : Int) = (s : Int) := by omega
  rw [e1] at hs hi
  simp only [spec_dvPartner.f, impl_partner.f, spec_dvNumber_eq, impl_isDivided_eq, Option.bind_some, decide_eq_true_eq]
  unfold pt
  rw [hsd]
  by_cases c1 : s = n
  · rw [if_neg (fun h => h.1 c1)]
    exact ⟨evb hs (evp (by omega) (Ev.now _)), evb hi (evp (by omega) (Ev.now _))⟩
  · by_cases c2 : 1 ≤ s ∧ s ≤ 1000000000
    · obtain ⟨gs, gi⟩ := proper_info s c2.1 c2.2
      have hg2 := sg_ge s c2.1
      obtain ⟨t, ht⟩ : ∃ t, sg s - s = t := ⟨_, rfl⟩
      have e2 : (sg s : Int) - (s : Int) = (t : Int) := by omega
      rw [e2] at gs gi
      rw [ht]
      by_cases c3 : t = n
      · rw [if_pos ⟨c1, c2.1, c2.2, c3⟩]
        exact ⟨evb hs (evn (by omega) (evp (by omega) (evb gs (evp (by omega) (Ev.now _))))), evb hi (evn (by omega) (evp (by omega) (evb gi (evp (by omega) (Ev.now _)))))⟩
      · rw [if_neg (fun h => c3 h.2.2.2)]
        exact ⟨evb hs (evn (by omega) (evp (by omega) (evb gs (evn (by omega) (Ev.now _))))), evb hi (evn (by omega) (evp (by omega) (evb gi (evn (by omega) (Ev.now _)))))⟩
    · rw [if_neg (fun h => c2 ⟨h.2.1, h.2.2.1⟩)]
      exact ⟨evb hs (evn (by omega) (evn (by omega) (Ev.now _))), evb hi (evn (by omega) (evn (by omega) (Ev.now _)))⟩
theorem laws_eqIntS_loop (post : List Int) : ∀ (pre post' : List Int), post'.length = post.length → (pre ++ post).length ≤ 4611686018427387904 →
    Ev (fun k => laws_eqIntS.l0 k (pre ++ post) (pre ++ post') (pre.length : Int)) (decide (post = post')) := by
  induction post with
  | nil =>
    intro pre post' hl h
    obtain rfl : post' = [] := List.eq_nil_of_length_eq_zero hl
    refine evs (fun k => by rw [laws_eqIntS.l0]) ?_
    exact evn (by simp) (evr (by simp))
  | cons x post ih =>
    intro pre post' hl h
    obtain ⟨y, post', rfl⟩ : ∃ y z, post' = y :: z := by cases post' with
      | nil => simp at hl
      | cons y z => exact ⟨y, z, rfl⟩
    refine evs (fun k => by rw [laws_eqIntS.l0]) ?_
    refine evp (by simp; omega) (evp (by omega) (evp (by simp; omega) ?_))
    rw [rd_mid, rd_mid]
    by_cases he : x = y
    · subst he
      refine evp rfl ?_
      have h2 := ih (pre ++ [x]) post' (by simpa using hl) (by simpa using h)
      simp only [List.append_assoc, List.singleton_append, List.length_append, List.length_singleton] at h2 h
      rw [w64 (by omega) (by simp at h; omega)]
      simpa using h2
    · exact evn he (evr (by simp [he]))
theorem laws_eqIntS_ev (l l' : List Int) (h : l.length ≤ 4611686018427387904) : Ev (fun k => laws_eqIntS.f k l l') (decide (l = l')) := by
  unfold laws_eqIntS.f
  by_cases hl : l.length = l'.length
  · exact evp (by omega) (by simpa using laws_eqIntS_loop l [] l' hl.symm (by simpa using h))
  · exact evn (by omega) (evr (by symm; rw [decide_eq_false_iff_not]; exact fun e => hl (by rw [e])))
theorem laws_eqIntS_self (l : List Int) (h : l.length ≤ 4611686018427387904) : Ev (fun k => laws_eqIntS.f k l l) true := by simpa using laws_eqIntS_ev l l h

theorem markIntS_loop (post : List Int) : ∀ (pre : List Int) (m : Int), 0 ≤ m → m + post.length ≤ 4611686018427387904 → (pre ++ post).length ≤ 4611686018427387904 →
    Ev (fun k => laws_markIntS.l0 k (pre ++ post) m (pre.length : Int)) (m + post.length, pre ++ iota m post.length) := by
  induction post with
  | nil =>
    intro pre m _ _ _
    refine evs (fun k => by rw [laws_markIntS.l0]) ?_
    exact evn (by simp) (evr (by simp [iota]))
  | cons x post ih =>
    intro pre m h0 h1 h
    refine evs (fun k => by rw [laws_markIntS.l0]) ?_
    have hl : (pre.length : Int) < ((pre ++ x :: post).length : Int) := by simp; omega
    simp only [List.length_cons] at h1
    refine evp hl (evp (by omega) ?_)
    have h2 := ih (pre ++ [m]) (m + 1) (by omega) (by omega) (by simpa using h)
    simp only [List.append_assoc, List.singleton_append, List.length_append, List.length_singleton] at h2 h
    rw [w64 (x := (pre.length : Int) + 1) (by omega) (by simp at h; omega), w64 (x := m + 1) (by omega) (by omega), set_midI _ _ _ _ _ rfl]
    simp only [List.length_cons, iota]
    have e : m + ((post.length + 1 : Nat) : Int) = m + 1 + post.length := by omega
    rw [e]
    simpa using h2
theorem markIntS_ev (l : List Int) (m : Int) (h0 : 0 ≤ m) (h1 : m + l.length ≤ 4611686018427387904) : Ev (fun k => laws_markIntS.f k l m) (m + l.length, iota m l.length) := by
  unfold laws_markIntS.f
  simpa using markIntS_loop l [] m h0 h1 (by simp; omega)
theorem heldIntS_loop (n : Nat) : ∀ (pre : List Int) (m : Int), 0 ≤ m → m + n ≤ 4611686018427387904 → pre.length + n ≤ 4611686018427387904 →
    Ev (fun k => laws_heldIntS.l0 k (pre ++ iota m n) m (pre.length : Int)) (m + n) := by
  induction n with
  | zero =>
    intro pre m _ _ _
    refine evs (fun k => by rw [laws_heldIntS.l0]) ?_
    exact evn (by simp [iota]) (evr (by simp))
  | succ n ih =>
    intro pre m h0 h1 h
    refine evs (fun k => by rw [laws_heldIntS.l0]) ?_
    simp only [iota]
    refine evp (by simp; omega) (evp (by omega) (evp (rd_mid _ _ _) ?_))
    have h2 := ih (pre ++ [m]) (m + 1) (by omega) (by omega) (by simp; omega)
    simp only [List.append_assoc, List.singleton_append, List.length_append, List.length_singleton] at h2
    rw [w64 (x := (pre.length : Int) + 1) (by omega) (by omega), w64 (x := m + 1) (by omega) (by omega)]
    have e : m + ((n + 1 : Nat) : Int) = m + 1 + n := by omega
    rw [e]
    simpa using h2
theorem heldIntS_ev (n : Nat) (m : Int) (h0 : 0 ≤ m) (h1 : m + n ≤ 4611686018427387904) : Ev (fun k => laws_heldIntS.f k (iota m n) m) (m + n) := by
  unfold laws_heldIntS.f
  simpa using heldIntS_loop n [] m h0 h1 (by simp; omega)

/-! Rows of numbers: compared with themselves, marked and found again. -/
theorem rdL1_mid (pre post : List (List Int)) (x : List Int) : rd_L1 (pre ++ x :: post) (pre.length : Int) = x := by simp [rd_L1]
theorem eqSS_loop (post : List (List Int)) : ∀ pre : List (List Int), (∀ x ∈ post, x.length ≤ 1000) → (pre ++ post).length ≤ 1000000 → Ev (fun k => laws_eqIntSS.l0 k (pre ++ post) (pre ++ post) (pre.length : Int)) true := by
  induction post with
  | nil =>
    intro pre _ _
    refine evs (fun k => by rw [laws_eqIntSS.l0]) ?_
    exact evn (by simp) (Ev.now _)
  | cons x post ih =>
    intro pre hx hl
    have hlen : (pre ++ x :: post).length = pre.length + (post.length + 1) := by simp
    rw [hlen] at hl
    have h2 := ih (pre ++ [x]) (fun y hy => hx y (by simp [hy])) (by simp; omega)
    rw [List.append_assoc, List.singleton_append, show ((pre ++ [x]).length : Int) = (pre.length : Int) + 1 by simp] at h2
    have h3 := laws_eqIntS_self x (by have := hx x (by simp); omega)
    refine evs (fun k => by rw [laws_eqIntSS.l0]) ?_
    rw [rdL1_mid, hlen, w64 (x := (pre.length : Int) + 1) (by omega) (by omega)]
    exact evp (by omega) (evp (by omega) (evp (by omega) (evb h3 (evp rfl h2))))
def marks : Int → List (List Int) → List (List Int)
  | _, [] => []
  | m, r :: rows => iota m r.length :: marks (m + r.length) rows
def total : List (List Int) → Nat
  | [] => 0
  | r :: rows => r.length + total rows
theorem markSS_ev (post : List (List Int)) : ∀ (pre : List (List Int)) (m : Int), 0 ≤ m → m ≤ 1000000000000 - total post → pre.length + post.length ≤ 1000000 → Ev (fun k => laws_markIntSS.g k pre post m) (m + total post, pre ++ marks m post) := by
  induction post with
  | nil => intro pre m _ _ _; exact evr (by simp [marks, total])
  | cons r post ih =>
    intro pre m h0 h1 hl
    simp only [total, List.length_cons] at h1 hl
    have h2 := markIntS_ev r m h0 (by omega)
    have h3 := ih (pre ++ [iota m r.length]) (m + r.length) (by omega) (by omega) (by simp; omega)
    rw [show m + (r.length : Int) + (total post : Int) = m + ((total (r :: post) : Nat) : Int) by simp only [total]; omega, List.append_assoc, List.singleton_append] at h3
    exact evp (by omega) (evb h2 h3)
theorem heldSS_loop (post : List (List Int)) : ∀ (pre : List (List Int)) (m : Int), 0 ≤ m → m ≤ 1000000000000 - total post → pre.length + post.length ≤ 1000000 → Ev (fun k => laws_heldIntSS.l0 k (pre ++ marks m post) m (pre.length : Int)) (m + total post) := by
  induction post with
  | nil =>
    intro pre m _ _ _
    refine evs (fun k => by rw [laws_heldIntSS.l0]) ?_
    exact evn (by simp [marks]) (evr (by simp [total]))
  | cons r post ih =>
    intro pre m h0 h1 hl
    simp only [total, List.length_cons] at h1 hl
    have h2 := heldIntS_ev r.length m h0 (by omega)
    have h3 := ih (pre ++ [iota m r.length]) (m + r.length) (by omega) (by omega) (by simp; omega)
    rw [show m + (r.length : Int) + (total post : Int) = m + ((total (r :: post) : Nat) : Int) by simp only [total]; omega, List.append_assoc, List.singleton_append, show ((pre ++ [iota m r.length]).length : Int) = (pre.length : Int) + 1 by simp] at h3
    simp only [marks]
    refine evs (fun k => by rw [laws_heldIntSS.l0]) ?_
    rw [rdL1_mid, w64 (x := (pre.length : Int) + 1) (by omega) (by omega)]
    exact evp (by simp; omega) (evp (by omega) (evb h2 (evn (by omega) h3)))
theorem total_le (l : List (List Int)) (h : ∀ x ∈ l, x.length ≤ 1000) : total l ≤ l.length * 1000 := by
  induction l with
  | nil => simp [total]
  | cons r l ih =>
    have := ih (fun x hx => h x (by simp [hx]))
    have := h r (by simp)
    simp only [total, List.length_cons]
    omega
theorem rows_exact (l : List (List Int)) (h : ∀ x ∈ l, x.length ≤ 1000) (hl : l.length ≤ 20000) : Ev (fun k => laws_eqIntSS.f k l l) true ∧ ∃ (m : Int) (l' : List (List Int)), Ev (fun k => laws_markIntSS.f k l 1) (m, l') ∧ Ev (fun k => laws_heldIntSS.f k l' 1) m ∧ 0 ≤ m := by
  have ht := total_le l h
  refine ⟨?_, 1 + total l, marks 1 l, ?_, ?_, by omega⟩
  · unfold laws_eqIntSS.f
    have := eqSS_loop l [] h (by simp; omega)
    exact evp rfl (by simpa using this)
  · have := markSS_ev l [] 1 (by omega) (by omega) (by simp; omega)
    unfold laws_markIntSS.f
    simpa using this
  · have := heldSS_loop l [] 1 (by omega) (by omega) (by simp; omega)
    unfold laws_heldIntSS.f
    simpa using this

def prow (x : Nat) : List Int := [(x : Int), (pt x : Int)]
def prows (xs : List Nat) : List (List Int) := xs.map prow
theorem pairs_loop (most : Nat) (hm : most ≤ 10000) (d : Nat) : ∀ (x : Nat) (xs : List Nat), 1 ≤ x → x + d = most + 1 → xs.length < x → (∀ y ∈ xs, 1 ≤ y ∧ y < x ∧ y < pt y) → xs.Pairwise (· < ·) →
    ∃ R : List Nat, R.length ≤ 10001 ∧ (∀ y ∈ R, 1 ≤ y ∧ y ≤ 10000 ∧ y < pt y) ∧ R.Pairwise (· < ·) ∧ Ev (fun k => impl_PairsUpTo.l0 k (most : Int) (prows xs) (x : Int)) (prows R, true) ∧ Ev (fun k => spec_PairsUpTo.l0 k (most : Int) (prows xs) (x : Int)) (prows R, true) := by
  induction d with
  | zero =>
    intro x xs h1 h2 h3 h4 h5
    refine ⟨xs, by omega, fun y hy => by have := h4 y hy; omega, h5, evs (fun k => by rw [impl_PairsUpTo.l0]) ?_, evs (fun k => by rw [spec_PairsUpTo.l0]) ?_⟩
    · exact evn (by omega) (Ev.now _)
    · exact evn (by omega) (Ev.now _)
  | succ d ih =>
    intro x xs h1 h2 h3 h4 h5
    obtain ⟨hs, hi⟩ := partner_full x h1 (by omega)
    have hl : (prows xs).length = xs.length := by simp [prows]
    by_cases h : x < pt x
    · obtain ⟨R, g1, g2, g3, g4, g5⟩ := ih (x + 1) (xs ++ [x]) (by omega) (by omega) (by simp; omega) (fun y hy => by
          rcases List.mem_append.1 hy with hy | hy
          · have := h4 y hy; omega
          · obtain rfl := List.mem_singleton.1 hy
            omega) (List.pairwise_append.2 ⟨h5, by simp, fun y hy z hz => by
          obtain rfl := List.mem_singleton.1 hz
          exact (h4 y hy).2.1⟩)
      have e : prows (xs ++ [x]) = prows xs ++ [[(x : Int), (pt x : Int)]] := by simp [prows, prow]
      rw [e] at g4 g5
      refine ⟨R, g1, g2, g3, evs (fun k => by rw [impl_PairsUpTo.l0]) ?_, evs (fun k => by rw [spec_PairsUpTo.l0]) ?_⟩
      · rw [w64 (x := (x : Int) + 1) (by omega) (by omega)]
        exact evp (by omega) (evb hi (evp (by omega) (evp (by omega) g4)))
      · rw [w64 (x := (x : Int) + 1) (by omega) (by omega)]
        exact evp (by omega) (evb hs (evp (by omega) (evp (by omega) g5)))
    · obtain ⟨R, g1, g2, g3, g4, g5⟩ := ih (x + 1) xs (by omega) (by omega) (by omega) (fun y hy => by have := h4 y hy; omega) h5
      refine ⟨R, g1, g2, g3, evs (fun k => by rw [impl_PairsUpTo.l0]) ?_, evs (fun k => by rw [spec_PairsUpTo.l0]) ?_⟩
      · rw [w64 (x := (x : Int) + 1) (by omega) (by omega)]
        exact evp (by omega) (evb hi (evn (by omega) g4))
      · rw [w64 (x := (x : Int) + 1) (by omega) (by omega)]
        exact evp (by omega) (evb hs (evn (by omega) g5))
theorem pairs_both (m : Int) : ∃ (R : List Nat) (t : Bool), R.length ≤ 10001 ∧ (∀ y ∈ R, 1 ≤ y ∧ y ≤ 10000 ∧ y < pt y) ∧ R.Pairwise (· < ·) ∧ Ev (fun k => impl_PairsUpTo.f k m) (prows R, t) ∧ Ev (fun k => spec_PairsUpTo.f k m) (prows R, t) := by
  simp only [impl_PairsUpTo.f, spec_PairsUpTo.f, impl_in_eq, spec_l1In_eq, Option.bind_some, decide_eq_true_eq]
  by_cases h : 0 ≤ m ∧ m ≤ 10000
  · obtain ⟨m, rfl⟩ := natOf (a := m) (by omega)
    obtain ⟨R, g1, g2, g3, g4, g5⟩ := pairs_loop m (by omega) m 1 [] (by omega) (by omega) (by simp) (by simp) (by simp)
    exact ⟨R, true, g1, g2, g3, evp h g4, evp h g5⟩
  · exact ⟨[], false, by simp, by simp, by simp, evn h (evr rfl), evn h (evr rfl)⟩
theorem FnExactPairsUpTo : laws_FnExactPairsUpTo.Pure := by
  intro a0 _
  obtain ⟨R, t, r1, _, _, r4, r5⟩ := pairs_both a0
  have hlen : ∀ x ∈ prows R, x.length ≤ 1000 := by
    intro x hx
    obtain ⟨y, _, rfl⟩ := List.mem_map.1 hx
    simp [prow]
  have hl : (prows R).length ≤ 10001 := by simp [prows, r1]
  obtain ⟨e1, m, rows', e2, e3, e4⟩ := rows_exact (prows R) hlen (by omega)
  obtain ⟨k1, q1⟩ := r5
  obtain ⟨k2, q2⟩ := r4
  obtain ⟨k3, q3⟩ := e1
  obtain ⟨k4, q4⟩ := e2
  obtain ⟨k5, q5⟩ := e3
  refine ⟨k1 + k2 + k3 + k4 + k5, prows R, t, m, rows', q1 _ (by omega), q2 _ (by omega), q3 _ (by omega), q4 _ (by omega), q5 _ (by omega), e4⟩

end Go.Proofs.Ytnmoafgfnlpfjaa.Pure
