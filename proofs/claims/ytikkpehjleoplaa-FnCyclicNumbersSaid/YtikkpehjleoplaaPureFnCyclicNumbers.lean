/- For all codes: halves of even periods make the greatest digits together, and cyclic numbers are turned by multiples. -/
import Derived.Test.YtikkpehjleoplaaPFnCyclicNumbersx7
import Derived.Test.YtikkpehjleoplaaWMore
set_option linter.unusedVariables false
set_option linter.unusedSimpArgs false
namespace Go.Proofs.Ytikkpehjleoplaa.Pure
open Go.RowKit Go.Proofs.Ytikkpehjleoplaa.PFnCyclicNumbers Go.Proofs.YtikkpehjleoplaaW.PrintWords Go.Proofs.YtikkpehjleoplaaW.PrintLast

theorem w64 {x : Int} (h1 : -9223372036854775808 ≤ x) (h2 : x ≤ 9223372036854775807) : wrap64 x = x := by unfold wrap64; omega

theorem w64n (n : Nat) (h : n ≤ 9223372036854775807) : wrap64 (n : Int) = (n : Int) := w64 (by omega) (by omega)

theorem evp {α : Type} {c : Prop} [Decidable c] {a b : Nat → Option α} {r : α} (h : c) (k : Ev a r) : Ev (fun n => if c then a n else b n) r := Ev.congr (fun _ => if_pos h) k
theorem evn {α : Type} {c : Prop} [Decidable c] {a b : Nat → Option α} {r : α} (h : ¬ c) (k : Ev b r) : Ev (fun n => if c then a n else b n) r := Ev.congr (fun _ => if_neg h) k
theorem evr {α : Type} {x r : α} (h : x = r) : Ev (fun _ => some x) r := h ▸ Ev.now x
theorem evb {α β : Type} {g : Nat → Option α} {f : Nat → α → Option β} {a : α} {r : β} (h : Ev g a) (k : Ev (fun n => f n a) r) : Ev (fun n => (g n).bind fun x => f n x) r := Ev.bind h k
theorem evs {α : Type} {g f : Nat → Option α} {r : α} (h : ∀ k, g (k + 1) = f k) (k : Ev f r) : Ev g r := Ev.step h k
theorem evu {α : Type} {g : Nat → Option α} {r s : α} (h : Ev g r) (k : Ev g s) : r = s := by
  obtain ⟨K, h⟩ := h
  obtain ⟨L, k⟩ := k
  have := (h (K + L) (by omega)).symm.trans (k (K + L) (by omega))
  injection this

theorem rd_mid (pre post : List Int) (x : Int) : rd (pre ++ x :: post) (pre.length : Int) = x := by simp [rd]
theorem rd_mid' (pre post : List Int) (x i : Int) (h : i = pre.length) : rd (pre ++ x :: post) i = x := by subst h; exact rd_mid pre post x
theorem set_mid {α : Type} (pre post : List α) (x y : α) : (pre ++ x :: post).set pre.length y = pre ++ y :: post := by simp
theorem set_midI {α : Type} (pre post : List α) (x y : α) (i : Int) (h : i = pre.length) : (pre ++ x :: post).set i.toNat y = pre ++ y :: post := by subst h; simp
theorem rd_nat (xs : List Int) (i : Nat) : rd xs (i : Int) = xs.getD i 0 := by simp [rd]
theorem rd_get (xs : List Int) (i : Nat) (h : i < xs.length) : rd xs (i : Int) = xs[i] := by simp [rd, h]
theorem rd_mem (xs : List Int) (i : Int) (h0 : 0 ≤ i) (h : i < xs.length) : rd xs i ∈ xs := by
  have hi : i.toNat < xs.length := by omega
  simp only [rd, List.getD_eq_getElem?_getD, List.getElem?_eq_getElem hi, Option.getD_some]
  exact List.getElem_mem hi
/-- m, m + 1, .. -/
def iota (m : Int) : Nat → List Int
  | 0 => []
  | n + 1 => m :: iota (m + 1) n
theorem iota_length (m : Int) (n : Nat) : (iota m n).length = n := by induction n generalizing m with
  | zero => rfl
  | succ n ih => simp [iota, ih]
/-- A list is cut in two. -/
theorem cut_at {α : Type} (xs : List α) (i : Nat) (h : i < xs.length) : ∃ pre x post, xs = pre ++ x :: post ∧ pre.length = i := by
  refine ⟨xs.take i, xs[i], xs.drop (i + 1), ?_, by simp; omega⟩
  simp
theorem wf64 {x : Int} (h : (Lit.int .i64 x).wf = true) : -9223372036854775808 ≤ x ∧ x ≤ 9223372036854775807 := by
  have h2 : (decide (IntKind.i64.min ≤ x) && decide (x ≤ IntKind.i64.max)) = true := h
  rw [show IntKind.i64.min = -9223372036854775808 from rfl, show IntKind.i64.max = 9223372036854775807 from rfl] at h2
  simpa using h2

def ic (l : List Nat) : List Int := l.map (fun x : Nat => (x : Int))
theorem ic_nil : ic [] = [] := rfl
theorem ic_cons (x : Nat) (l : List Nat) : ic (x :: l) = (x : Int) :: ic l := rfl
theorem ic_append (l m : List Nat) : ic (l ++ m) = ic l ++ ic m := by simp [ic]
theorem ic_length (l : List Nat) : (ic l).length = l.length := by simp [ic]
theorem ic_drop (l : List Nat) (k : Nat) : (ic l).drop k = ic (l.drop k) := by simp [ic, List.map_drop]
def digs (n b : Nat) : Nat → Nat → List Nat
  | 0, _ => []
  | k + 1, a => a * b / n :: digs n b k (a * b % n)
theorem digs_length (n b k : Nat) : ∀ a, (digs n b k a).length = k := by
  induction k with
  | zero => intro a; rfl
  | succ k ih => intro a; simp [digs, ih]

def IsPr (p : Nat) : Prop := 2 ≤ p ∧ ∀ d, 2 ≤ d → d < p → ¬ d ∣ p
def lprod : List Nat → Nat
  | [] => 1
  | x :: l => x * lprod l
theorem lprod_pos {l : List Nat} (h : ∀ q ∈ l, 0 < q) : 0 < lprod l := by
  induction l with
  | nil => decide
  | cons x l ih => exact Nat.mul_pos (h x (by simp)) (ih (fun q hq => h q (by simp [hq])))
/-- L: the prime factors of n, not falling, none less than p. -/
def Fac (L : List Nat) (n p : Nat) : Prop := (∀ q ∈ L, IsPr q ∧ p ≤ q) ∧ lprod L = n ∧ L.Pairwise (· ≤ ·)
theorem sq_lt {a b : Nat} (h : a * a ≤ b * b) : a ≤ b := by
  by_cases hc : a ≤ b
  · exact hc
  · have : b * b < a * a := Nat.mul_lt_mul_of_lt_of_le (by omega) (by omega) (by omega)
    omega
theorem prime_of_big {n p : Nat} (hn : 1 < n) (hd : ∀ d, 2 ≤ d → d < p → ¬ d ∣ n) (hp : n < p * p) : IsPr n := by
  refine ⟨hn, fun d h2 h3 hdv => ?_⟩
  have h4 : p ≤ d := by
    by_cases h : p ≤ d
    · exact h
    · exact absurd hdv (hd d h2 (by omega))
  obtain ⟨e, he⟩ := hdv
  have h5 : 2 ≤ e := by
    rcases e with _ | _ | e
    · omega
    · omega
    · omega
  have h6 : p ≤ e := by
    by_cases h : p ≤ e
    · exact h
    · exact absurd ⟨d, by rw [he, Nat.mul_comm]⟩ (hd e h5 (by omega))
  have : p * p ≤ d * e := Nat.mul_le_mul h4 h6
  omega

theorem impl_in_eq (a b c : Int) : impl_in.f a b c = some (decide (b ≤ a ∧ a ≤ c)) := by
  unfold impl_in.f
  by_cases h : b ≤ a <;> simp [h]
theorem spec_l1In_eq (a b c : Int) : spec_l1In.f a b c = some (decide (b ≤ a ∧ a ≤ c)) := by
  unfold spec_l1In.f
  by_cases h : b ≤ a <;> simp [h]

theorem impl_isBase_eq (b : Int) : impl_isBase.f b = some (decide (2 ≤ b ∧ b ≤ 16)) := by simp only [impl_isBase.f, impl_in_eq, Option.bind_some]
theorem spec_dgBase_eq (b : Int) : spec_dgBase.f b = some (decide (2 ≤ b ∧ b ≤ 16)) := by simp only [spec_dgBase.f, spec_l1In_eq, Option.bind_some]

theorem pigeon (n : Nat) : ∀ f : Nat → Nat, (∀ i, i ≤ n → f i < n) → ∃ i j, i < j ∧ j ≤ n ∧ f i = f j := by
  induction n with
  | zero => intro f h; exact absurd (h 0 (Nat.le_refl _)) (by omega)
  | succ n ih =>
    intro f h
    by_cases hc : ∃ i, i ≤ n ∧ f i = f (n + 1)
    · obtain ⟨i, hi, he⟩ := hc
      exact ⟨i, n + 1, by omega, Nat.le_refl _, he⟩
    · have hv := h (n + 1) (Nat.le_refl _)
      have hne : ∀ i, i ≤ n → f i ≠ f (n + 1) := fun i hi he => hc ⟨i, hi, he⟩
      obtain ⟨i, j, hij, hj, he⟩ := ih (fun i => if f i = n then f (n + 1) else f i) (fun i hi => by
        have h1 := h i (by omega)
        have h2 := hne i hi
        show (if f i = n then f (n + 1) else f i) < n
        split <;> omega)
      refine ⟨i, j, hij, by omega, ?_⟩
      have h1 := hne i (by omega)
      have h2 := hne j hj
      (try simp only at he)
      split at he <;> split at he <;> omega
theorem least_of {P : Nat → Prop} (h : ∃ k, P k) : ∃ k, P k ∧ ∀ j, j < k → ¬ P j := by
  obtain ⟨k, hk⟩ := h
  induction k using Nat.strongRecOn with
  | _ k ih =>
    by_cases hc : ∃ j, j < k ∧ P j
    · obtain ⟨j, hj, hp⟩ := hc
      exact ih j hj hp
    · exact ⟨k, hk, fun j hj hp => hc ⟨j, hj, hp⟩⟩
theorem mod_of_dvd_sub {a n : Nat} (h1 : 1 ≤ a) (h : n ∣ a - 1) : a % n = 1 % n := by
  obtain ⟨q, hq⟩ := h
  have : a = n * q + 1 := by omega
  rw [this, Nat.mul_add_mod]
theorem pow_back (b n : Nat) (hb : 0 < b) (hn : 0 < n) (hc : Nat.Coprime n b) : ∃ k, 1 ≤ k ∧ k ≤ n ∧ b ^ k % n = 1 % n := by
  obtain ⟨i, j, hij, hj, he⟩ := pigeon n (fun i => b ^ i % n) (fun i _ => Nat.mod_lt _ hn)
  refine ⟨j - i, by omega, by omega, mod_of_dvd_sub (Nat.pow_pos hb) ?_⟩
  have h1 := Nat.sub_mod_eq_zero_of_mod_eq he.symm
  have h2 := Nat.dvd_of_mod_eq_zero h1
  have h3 : b ^ j - b ^ i = b ^ i * (b ^ (j - i) - 1) := by
    rw [Nat.mul_sub, ← Nat.pow_add, Nat.mul_one]
    congr 2
    omega
  rw [h3] at h2
  exact Nat.Coprime.dvd_of_dvd_mul_left (Nat.Coprime.pow_right _ hc) h2
theorem tmod_cast (a b : Nat) : Int.tmod (a : Int) (b : Int) = ((a % b : Nat) : Int) := (Int.ofNat_tmod a b).symm
theorem tdiv_cast (a b : Nat) : Int.tdiv (a : Int) (b : Int) = ((a / b : Nat) : Int) := (Int.ofNat_tdiv a b).symm
theorem natOf {a : Int} (h : 0 ≤ a) : ∃ n : Nat, a = (n : Int) := ⟨a.toNat, by omega⟩

theorem impl_gcd_loop (b : Nat) : ∀ a : Nat, Ev (fun k => impl_gcd.l0 k (a : Int) (b : Int)) ((Nat.gcd a b : Nat) : Int) := by
  induction b using Nat.strongRecOn with
  | _ b ih =>
    intro a
    refine evs (fun k => by rw [impl_gcd.l0]) ?_
    by_cases hb : b = 0
    · subst hb
      exact evp (by simp) (evr (by simp))
    · refine evn (by omega) ?_
      rw [tmod_cast, Nat.gcd_comm a b, Nat.gcd_rec, Nat.gcd_comm]
      exact ih (a % b) (Nat.mod_lt _ (by omega)) b
theorem impl_gcd_ev (a b : Nat) : Ev (fun k => impl_gcd.f k (a : Int) (b : Int)) ((Nat.gcd a b : Nat) : Int) := impl_gcd_loop b a

theorem order_loop (n b : Nat) (hn : 0 < n) (hn2 : n ≤ 2000) (hb2 : b ≤ 16) (d : Nat) : ∀ k : Nat, 1 ≤ k → k + d ≤ n → b ^ (k + d) % n = 1 % n → (∀ j, k ≤ j → j < k + d → b ^ j % n ≠ 1 % n) →
    Ev (fun f => spec_teOrder.l0 f (n : Int) (b : Int) (k : Int) ((b ^ k % n : Nat) : Int)) ((k + d : Nat) : Int) := by
  induction d with
  | zero =>
    intro k h1 h2 h3 h4
    refine evs (fun k => by rw [spec_teOrder.l0]) ?_
    refine evn (by omega) (evp ?_ (Ev.now _))
    rw [Nat.add_zero] at h3
    rw [h3]
    rfl
  | succ d ih =>
    intro k h1 h2 h3 h4
    refine evs (fun k => by rw [spec_teOrder.l0]) ?_
    have hne := h4 k (Nat.le_refl _) (by omega)
    have hlt : b ^ k % n < n := Nat.mod_lt _ hn
    refine evn (by omega) (evn (fun e => hne ?_) ?_)
    · exact Int.ofNat.inj e
    · have hm : b ^ k % n * b ≤ 2000 * 16 := Nat.mul_le_mul (by omega) hb2
      have e1 : ((b ^ k % n : Nat) : Int) * (b : Int) = ((b ^ k % n * b : Nat) : Int) := by simp
      rw [e1, w64n _ (by omega), tmod_cast, w64 (x := (k : Int) + 1) (by omega) (by omega), Nat.mod_mul_mod, ← Nat.pow_succ]
      have h5 := ih (k + 1) (by omega) (by omega) (by rw [show k + 1 + d = k + (d + 1) by omega]; exact h3) (fun j hj hj2 => h4 j (by omega) (by omega))
      rw [show k + 1 + d = k + (d + 1) by omega] at h5
      exact h5
theorem order_ev (n b : Nat) (hn : 0 < n) (hn2 : n ≤ 2000) (hb : 0 < b) (hb2 : b ≤ 16) (hc : Nat.Coprime n b) :
    ∃ k : Nat, 1 ≤ k ∧ k ≤ n ∧ b ^ k % n = 1 % n ∧ (∀ j, 1 ≤ j → j < k → b ^ j % n ≠ 1 % n) ∧ Ev (fun f => spec_teOrder.f f (n : Int) (b : Int)) (k : Int) := by
  obtain ⟨k0, h1, h2, h3⟩ := pow_back b n hb hn hc
  obtain ⟨k, ⟨hk1, hk2⟩, hk3⟩ := least_of (P := fun k => 1 ≤ k ∧ b ^ k % n = 1 % n) ⟨k0, h1, h3⟩
  have hkn : k ≤ n := by
    by_cases h : k ≤ n
    · exact h
    · exact absurd ⟨h1, h3⟩ (hk3 k0 (by omega))
  have hmin : ∀ j, 1 ≤ j → j < k → b ^ j % n ≠ 1 % n := fun j hj hj2 he => hk3 j hj2 ⟨hj, he⟩
  refine ⟨k, hk1, hkn, hk2, hmin, ?_⟩
  unfold spec_teOrder.f
  refine evn (by omega) ?_
  have h := order_loop n b hn hn2 hb2 (k - 1) 1 (by omega) (by omega) (by rw [show 1 + (k - 1) = k by omega]; exact hk2) (fun j hj hj2 => hmin j hj (by omega))
  rw [Nat.pow_one, show 1 + (k - 1) = k by omega] at h
  rw [tmod_cast]
  exact h
theorem order_same_loop : ∀ (k : Nat) (a b c d : Int), impl_order.l0 k a b c d = spec_teOrder.l0 k a b c d
  | 0, _, _, _, _ => rfl
  | k + 1, a, b, c, d => by simp only [impl_order.l0, spec_teOrder.l0, order_same_loop k]
theorem order_same (k : Nat) (a b : Int) : impl_order.f k a b = spec_teOrder.f k a b := by simp only [impl_order.f, spec_teOrder.f, order_same_loop]

theorem spec_teFraction_eq (a n b : Int) : spec_teFraction.f a n b = some (decide ((2 ≤ b ∧ b ≤ 16) ∧ (1 ≤ n ∧ n ≤ 2000) ∧ 0 ≤ a ∧ a ≤ n - 1)) := by
  simp only [spec_teFraction.f, spec_dgBase_eq, spec_l1In_eq, Option.bind_some, decide_eq_true_eq]
  by_cases h2 : 1 ≤ n ∧ n ≤ 2000
  · rw [w64 (x := n - 1) (by omega) (by omega)]
    by_cases h1 : 2 ≤ b ∧ b ≤ 16 <;> simp [h1, h2]
  · by_cases h1 : 2 ≤ b ∧ b ≤ 16 <;> simp [h1, h2]
theorem impl_isFraction_eq (a n b : Int) : impl_isFraction.f a n b = some (decide ((2 ≤ b ∧ b ≤ 16) ∧ (1 ≤ n ∧ n ≤ 2000) ∧ 0 ≤ a ∧ a ≤ n - 1)) := by
  simp only [impl_isFraction.f, impl_isBase_eq, impl_in_eq, Option.bind_some, decide_eq_true_eq]
  by_cases h2 : 1 ≤ n ∧ n ≤ 2000
  · rw [w64 (x := n - 1) (by omega) (by omega)]
    by_cases h1 : 2 ≤ b ∧ b ≤ 16 <;> by_cases h3 : 0 ≤ a ∧ a ≤ n - 1 <;> simp [h1, h2, h3]
  · by_cases h1 : 2 ≤ b ∧ b ≤ 16 <;> simp [h1, h2]

theorem dvFactors_l1 (M : Nat) : ∀ (n p : Nat) (out : List Int), 1 ≤ n → n ≤ 1000000000 → 2 ≤ p → p ≤ 31623 → out.length + n ≤ 2000000000 → (∀ d, 2 ≤ d → d < p → ¬ d ∣ n) → n + (40000 - p) ≤ M →
    ∃ L, Fac L n p ∧ Ev (fun k => spec_dvFactors.l1 k (n : Int) out (p : Int)) (out ++ ic L) := by
  induction M with
  | zero => intro n p out h1 h2 h3 h4 h5 h6 h7; omega
  | succ M ih =>
    intro n p out h1 h2 h3 h4 h5 h6 h7
    by_cases hd : n % p = 0
    · obtain ⟨m, rfl⟩ := Nat.dvd_of_mod_eq_zero hd
      have hm : 1 ≤ m := by
        rcases m with _ | m
        · omega
        · omega
      have hm2 : 2 * m ≤ p * m := Nat.mul_le_mul_right m h3
      have h9' : m + (40000 - p) ≤ M := by omega
      obtain ⟨L, ⟨hL1, hL2, hL3⟩, hev⟩ := ih m p (out ++ [(p : Int)]) hm (by omega) h3 h4 (by simp; omega) (fun d h8 h9 h10 => h6 d h8 h9 (Nat.dvd_trans h10 (Nat.dvd_mul_left m p))) h9'
      refine ⟨p :: L, ⟨fun q hq => ?_, by simp [lprod, hL2], List.pairwise_cons.2 ⟨fun q hq => (hL1 q hq).2, hL3⟩⟩, ?_⟩
      · rcases List.mem_cons.1 hq with rfl | hq
        · exact ⟨⟨h3, fun d h8 h9 h10 => h6 d h8 h9 (Nat.dvd_trans h10 (Nat.dvd_mul_right _ m))⟩, Nat.le_refl _⟩
        · exact hL1 q hq
      · refine evs (fun k => by rw [spec_dvFactors.l1]) ?_
        rw [tmod_cast, tdiv_cast, hd]
        refine evn (by omega) (evp (by simp) (evp (by omega) ?_))
        rw [Nat.mul_div_cancel_left m (by omega : 0 < p), w64 (by omega) (by omega)]
        simpa [ic_cons] using hev
    · have hdv : ¬ p ∣ n := fun h => hd (Nat.mod_eq_zero_of_dvd h)
      have h6' : ∀ d, 2 ≤ d → d < p + 1 → ¬ d ∣ n := by
        intro d h8 h9 h10
        by_cases he : d = p
        · subst he; exact hdv h10
        · exact h6 d h8 (by omega) h10
      have hsq : ((p + 1 : Nat) : Int) * ((p + 1 : Nat) : Int) = (((p + 1) * (p + 1) : Nat) : Int) := by simp
      have hb : (p + 1) * (p + 1) ≤ 31624 * 31624 := Nat.mul_le_mul (by omega) (by omega)
      have key : ∃ L, Fac L n (p + 1) ∧ Ev (fun k => spec_dvFactors.l0 k (n : Int) out ((p + 1 : Nat) : Int)) (out ++ ic L) := by
        by_cases hc : (p + 1) * (p + 1) ≤ n
        · have hp : p + 1 ≤ 31623 := by
            by_cases h : p + 1 ≤ 31623
            · exact h
            · have : 31624 * 31624 ≤ (p + 1) * (p + 1) := Nat.mul_le_mul (by omega) (by omega)
              omega
          obtain ⟨L, hL, hev⟩ := ih n (p + 1) out h1 h2 (by omega) hp h5 h6' (by omega)
          refine ⟨L, hL, evs (fun k => by rw [spec_dvFactors.l0]) ?_⟩
          rw [hsq, w64 (by omega) (by omega)]
          exact evp (by omega) hev
        · by_cases hn : 1 < n
          · refine ⟨[n], ⟨fun q hq => ?_, by simp [lprod], by simp⟩, evs (fun k => by rw [spec_dvFactors.l0]) ?_⟩
            · rw [List.mem_singleton.1 hq]
              have hpr := prime_of_big hn h6' (by omega)
              refine ⟨hpr, ?_⟩
              by_cases h : p + 1 ≤ n
              · exact h
              · exact absurd (Nat.dvd_refl n) (h6' n (by omega) (by omega))
            · rw [hsq, w64 (by omega) (by omega)]
              exact evn (by omega) (evp (by omega) (evp (by omega) (evr (by simp [ic]))))
          · obtain rfl : n = 1 := by omega
            refine ⟨[], ⟨by simp, by simp [lprod], by simp⟩, evs (fun k => by rw [spec_dvFactors.l0]) ?_⟩
            rw [hsq, w64 (by omega) (by omega)]
            exact evn (by omega) (evn (by omega) (evr (by simp [ic])))
      obtain ⟨L, ⟨hL1, hL2, hL3⟩, hev⟩ := key
      refine ⟨L, ⟨fun q hq => ⟨(hL1 q hq).1, by have := (hL1 q hq).2; omega⟩, hL2, hL3⟩, evs (fun k => by rw [spec_dvFactors.l1]) ?_⟩
      rw [tmod_cast]
      refine evn (by omega) (evn (by omega) ?_)
      rw [w64 (by omega) (by omega)]
      exact hev
theorem dvFactors_ev (n : Nat) (h1 : 1 ≤ n) (h2 : n ≤ 1000000000) : ∃ L, Fac L n 2 ∧ Ev (fun k => spec_dvFactors.f k (n : Int)) (ic L) := by
  unfold spec_dvFactors.f
  by_cases hc : 4 ≤ n
  · obtain ⟨M, hM⟩ : ∃ M, n + (40000 - 2) ≤ M := ⟨_, Nat.le_refl _⟩
    obtain ⟨L, hL, hev⟩ := dvFactors_l1 M n 2 [] h1 h2 (by omega) (by omega) (by simp; omega) (fun d h8 h9 => by omega) hM
    refine ⟨L, hL, evs (fun k => by rw [spec_dvFactors.l0]) ?_⟩
    rw [w64 (by omega) (by omega)]
    exact evp (by omega) (by simpa using hev)
  · by_cases hn : 1 < n
    · refine ⟨[n], ⟨fun q hq => ?_, by simp [lprod], by simp⟩, evs (fun k => by rw [spec_dvFactors.l0]) ?_⟩
      · rw [List.mem_singleton.1 hq]
        exact ⟨prime_of_big (p := 2) hn (fun d h8 h9 => by omega) (by omega), by omega⟩
      · rw [w64 (by omega) (by omega)]
        exact evn (by omega) (evp (by omega) (evp (by simp) (evr (by simp [ic]))))
    · obtain rfl : n = 1 := by omega
      refine ⟨[], ⟨by simp, by simp [lprod], by simp⟩, evs (fun k => by rw [spec_dvFactors.l0]) ?_⟩
      rw [w64 (by omega) (by omega)]
      exact evn (by omega) (evn (by omega) (evr (by simp [ic])))
theorem factors_same_loop : ∀ (k : Nat), (∀ (a : Int) (b : List Int) (c : Int), impl_factors.l0 k a b c = spec_dvFactors.l0 k a b c) ∧ (∀ (a : Int) (b : List Int) (c : Int), impl_factors.l1 k a b c = spec_dvFactors.l1 k a b c)
  | 0 => ⟨fun _ _ _ => rfl, fun _ _ _ => rfl⟩
  | k + 1 => ⟨fun a b c => by simp only [impl_factors.l0, spec_dvFactors.l0, factors_same_loop k], fun a b c => by simp only [impl_factors.l1, spec_dvFactors.l1, factors_same_loop k]⟩
theorem factors_same (k : Nat) (a : Int) : impl_factors.f k a = spec_dvFactors.f k a := by simp only [impl_factors.f, spec_dvFactors.f, factors_same_loop]
theorem factors_ev {n : Nat} {L : List Nat} (h : Ev (fun k => spec_dvFactors.f k (n : Int)) (ic L)) : Ev (fun k => impl_factors.f k (n : Int)) (ic L) := by simpa only [factors_same] using h

theorem dvPrime_ev (n : Int) (h2 : n ≤ 1000000000) : ∃ t : Bool, Ev (fun k => spec_dvPrime.f k n) t ∧ Ev (fun k => impl_isPrime.f k n) t ∧ (t = true → 2 ≤ n ∧ IsPr n.toNat) := by
  by_cases h : n > 1
  · obtain ⟨n, rfl⟩ := natOf (a := n) (by omega)
    obtain ⟨L, hL, hev⟩ := dvFactors_ev n (by omega) (by omega)
    refine ⟨(((ic L).length : Int) == 1), evp h (evb hev (Ev.now _)), evp h (evb (factors_ev hev) (Ev.now _)), fun ht => ?_⟩
    have hl : L.length = 1 := by
      simp only [ic_length, beq_iff_eq] at ht
      omega
    obtain ⟨q, rfl⟩ := List.length_eq_one_iff.1 hl
    have hq := hL.2.1
    simp only [lprod, Nat.mul_one] at hq
    subst hq
    exact ⟨by omega, by simpa using (hL.1 q (by simp)).1⟩
  · exact ⟨false, evn h (Ev.now _), evn h (Ev.now _), fun h => by simp at h⟩

theorem teDigits_loop (n b : Nat) (hn : 0 < n) (hn2 : n ≤ 2000) (hb2 : b ≤ 16) (d : Nat) : ∀ (a : Nat) (out : List Int), a < n → out.length + d ≤ 100000 →
    Ev (fun k => spec_teDigits.l0 k (a : Int) (n : Int) (b : Int) (d : Int) out) (out ++ ic (digs n b d a)) := by
  induction d with
  | zero =>
    intro a out ha ho
    refine evs (fun k => by rw [spec_teDigits.l0]) ?_
    exact evn (by omega) (evr (by simp [digs, ic]))
  | succ d ih =>
    intro a out ha ho
    refine evs (fun k => by rw [spec_teDigits.l0]) ?_
    refine evp (by omega) (evn (by omega) (evp (by omega) ?_))
    have hm : a * b ≤ 2000 * 16 := Nat.mul_le_mul (by omega) hb2
    have hd : a * b / n ≤ a * b := Nat.div_le_self _ _
    have e1 : ((a : Int)) * (b : Int) = ((a * b : Nat) : Int) := by simp
    rw [e1, w64n _ (by omega), tmod_cast, tdiv_cast, w64n (a * b / n) (by omega), w64 (x := ((d + 1 : Nat) : Int) - 1) (by omega) (by omega)]
    have h2 := ih (a * b % n) (out ++ [((a * b / n : Nat) : Int)]) (Nat.mod_lt _ hn) (by simp; omega)
    have e2 : (((d + 1 : Nat) : Int) - 1) = (d : Int) := by omega
    rw [e2]
    simpa [digs, ic_cons] using h2
theorem teDigits_ev (n b a d : Nat) (hn : 0 < n) (hn2 : n ≤ 2000) (hb2 : b ≤ 16) (ha : a < n) (hd : d ≤ 100000) : Ev (fun k => spec_teDigits.f k (a : Int) (n : Int) (b : Int) (d : Int)) (ic (digs n b d a)) := by
  unfold spec_teDigits.f
  simpa using teDigits_loop n b hn hn2 hb2 d a [] ha (by simpa using hd)
theorem shown_loop (n b fr t : Nat) (hn : 0 < n) (hn2 : n ≤ 2000) (hb2 : b ≤ 16) (ht : t ≤ 100000) (d : Nat) : ∀ (a i : Nat) (out : List Int), a < n → i + d = t → out.length ≤ i →
    Ev (fun k => impl_shown.l0 k (a : Int) (n : Int) (b : Int) (fr : Int) out (t : Int) (i : Int)) (out ++ ic ((digs n b d a).drop (fr - i))) := by
  induction d with
  | zero =>
    intro a i out ha hi ho
    refine evs (fun k => by rw [impl_shown.l0]) ?_
    exact evn (by omega) (evr (by simp [digs, ic]))
  | succ d ih =>
    intro a i out ha hi ho
    refine evs (fun k => by rw [impl_shown.l0]) ?_
    have hm : a * b ≤ 2000 * 16 := Nat.mul_le_mul (by omega) hb2
    have hd : a * b / n ≤ a * b := Nat.div_le_self _ _
    have e1 : ((a : Int)) * (b : Int) = ((a * b : Nat) : Int) := by simp
    rw [e1, w64n _ (by omega), tmod_cast, tdiv_cast, w64n (a * b / n) (by omega), w64 (x := (i : Int) + 1) (by omega) (by omega)]
    refine evp (by omega) ?_
    by_cases hf : fr ≤ i
    · refine evp (by omega) (evn (by omega) (evp (by omega) ?_))
      have h2 := ih (a * b % n) (i + 1) (out ++ [((a * b / n : Nat) : Int)]) (Nat.mod_lt _ hn) (by omega) (by simp; omega)
      rw [show fr - (i + 1) = 0 by omega] at h2
      rw [show fr - i = 0 by omega]
      simpa [digs, ic_cons] using h2
    · refine evn (by omega) (evn (by omega) ?_)
      have h2 := ih (a * b % n) (i + 1) out (Nat.mod_lt _ hn) (by omega) (by omega)
      rw [show fr - i = (fr - (i + 1)) + 1 by omega]
      simpa [digs] using h2
theorem shown_ev (n b a fr d : Nat) (hn : 0 < n) (hn2 : n ≤ 2000) (hb2 : b ≤ 16) (ha : a < n) (hd : fr + d ≤ 100000) : Ev (fun k => impl_shown.f k (a : Int) (n : Int) (b : Int) (fr : Int) (d : Int)) (ic ((digs n b (fr + d) a).drop fr)) := by
  unfold impl_shown.f
  rw [w64 (by omega) (by omega)]
  simpa using shown_loop n b fr (fr + d) hn hn2 hb2 hd (fr + d) a 0 [] ha (by omega) (by simp)

def seen (n : Nat) (xs : List Int) : List Int := (List.range n).map (fun i : Nat => if (i : Int) ∈ xs then (xs.idxOf (i : Int) : Int) else -1)
theorem seen_length (n : Nat) (xs : List Int) : (seen n xs).length = n := by simp [seen]
theorem seen_nil (n : Nat) : seen n [] = List.replicate n (-1) := List.ext_getElem (by simp [seen]) (fun i h1 h2 => by simp [seen])
theorem seen_at (n : Nat) (xs : List Int) (x : Int) (h0 : 0 ≤ x) (h1 : x < n) : rd (seen n xs) x = if x ∈ xs then (xs.idxOf x : Int) else -1 := by
  obtain ⟨x, rfl⟩ := natOf h0
  rw [rd_get _ _ (by rw [seen_length]; omega)]
  simp [seen]
theorem seen_set (n : Nat) (xs : List Int) (x : Int) (h0 : 0 ≤ x) (hx : x ∉ xs) : (seen n xs).set x.toNat (xs.length : Int) = seen n (xs ++ [x]) := by
  refine List.ext_getElem (by simp [seen]) (fun i h2 h3 => ?_)
  rw [List.getElem_set]
  simp only [seen, List.getElem_map, List.getElem_range]
  by_cases e : x.toNat = i
  · have e2 : (i : Int) = x := by omega
    rw [if_pos e, e2]
    simp [List.idxOf_append, hx]
  · have e2 : (i : Int) ≠ x := by omega
    rw [if_neg e]
    by_cases hm : (i : Int) ∈ xs <;> simp [List.idxOf_append, e2, hm]
theorem nodup_le (n : Nat) (xs : List Int) (h : xs.Nodup) (hb : ∀ x ∈ xs, 0 ≤ x ∧ x < n) : xs.length ≤ n := by
  by_cases hl : xs.length ≤ n
  · exact hl
  · obtain ⟨i, j, hij, hj, he⟩ := pigeon n (fun i => (xs.getD i 0).toNat) (fun i hi => by
      have hi' : i < xs.length := by omega
      have := hb _ (List.getElem_mem hi')
      simp only [List.getD_eq_getElem?_getD, List.getElem?_eq_getElem hi', Option.getD_some]
      omega)
    have hi' : i < xs.length := by omega
    have hj' : j < xs.length := by omega
    simp only [List.getD_eq_getElem?_getD, List.getElem?_eq_getElem hi', List.getElem?_eq_getElem hj', Option.getD_some] at he
    have h1 := hb _ (List.getElem_mem hi')
    have h2 := hb _ (List.getElem_mem hj')
    exact absurd (by omega) (List.pairwise_iff_getElem.1 h i j hi' hj' hij)
theorem period_loop (n b : Nat) (hn : 0 < n) (hn2 : n ≤ 2000) (hb2 : b ≤ 16) (d : Nat) : ∀ (xs : List Int) (x : Nat), xs.Nodup → (∀ y ∈ xs, 0 ≤ y ∧ y < n) → x < n → n - xs.length = d →
    ∃ (p L : Nat) (ys : List Int), p + L ≤ n ∧ 1 ≤ L ∧ ys.length = p + L ∧ Ev (fun k => spec_tePeriod.l1 k (n : Int) (b : Int) (seen n xs) (xs.length : Int) (x : Int)) ((p : Int), (L : Int)) ∧
      Ev (fun k => impl_period.run (impl_period.step (n : Int) (b : Int)) k xs (x : Int)) (ys, (p : Int)) := by
  induction d with
  | zero =>
    intro xs x hnd hb hx hd
    have hle := nodup_le n xs hnd hb
    by_cases hm : (x : Int) ∈ xs
    · have hi := List.idxOf_lt_length_of_mem hm
      refine ⟨xs.idxOf (x : Int), xs.length - xs.idxOf (x : Int), xs, by omega, by omega, by omega, ?_, ?_⟩
      · refine evs (fun k => by rw [spec_tePeriod.l1]) ?_
        rw [seen_at n xs x (by omega) (by omega), if_pos hm, seen_length]
        refine evp (by omega) (evp (by omega) (evn (by omega) (evr ?_)))
        rw [w64 (by omega) (by omega)]
        congr 1
        omega
      · refine evs (fun k => by rw [impl_period.run]) ?_
        exact evp hm (Ev.now _)
    · have := nodup_le n ((x : Int) :: xs) (List.nodup_cons.2 ⟨hm, hnd⟩) (by
        intro y hy
        rcases List.mem_cons.1 hy with rfl | hy
        · omega
        · exact hb y hy)
      simp at this
      omega
  | succ d ih =>
    intro xs x hnd hb hx hd
    have hle := nodup_le n xs hnd hb
    by_cases hm : (x : Int) ∈ xs
    · have hi := List.idxOf_lt_length_of_mem hm
      refine ⟨xs.idxOf (x : Int), xs.length - xs.idxOf (x : Int), xs, by omega, by omega, by omega, ?_, ?_⟩
      · refine evs (fun k => by rw [spec_tePeriod.l1]) ?_
        rw [seen_at n xs x (by omega) (by omega), if_pos hm, seen_length]
        refine evp (by omega) (evp (by omega) (evn (by omega) (evr ?_)))
        rw [w64 (by omega) (by omega)]
        congr 1
        omega
      · refine evs (fun k => by rw [impl_period.run]) ?_
        exact evp hm (Ev.now _)
    · have hm2 : x * b ≤ 2000 * 16 := Nat.mul_le_mul (by omega) hb2
      have e1 : ((x : Int)) * (b : Int) = ((x * b : Nat) : Int) := by simp
      obtain ⟨p, L, ys, h1, h2, h3, h4, h5⟩ := ih (xs ++ [(x : Int)]) (x * b % n) (by
          rw [List.nodup_append]
          refine ⟨hnd, by simp, ?_⟩
          intro a ha c hc
          simp at hc
          subst hc
          intro e
          subst e
          exact hm ha) (by
          intro y hy
          rcases List.mem_append.1 hy with hy | hy
          · exact hb y hy
          · simp at hy
            omega) (Nat.mod_lt _ hn) (by simp; omega)
      refine ⟨p, L, ys, h1, h2, h3, ?_, ?_⟩
      · refine evs (fun k => by rw [spec_tePeriod.l1]) ?_
        rw [seen_at n xs x (by omega) (by omega), if_neg hm, seen_length]
        refine evp (by omega) (evp (by omega) (evp (by omega) (evn (by omega) ?_)))
        rw [e1, w64n _ (by omega), tmod_cast, w64 (x := (xs.length : Int) + 1) (by omega) (by omega), seen_set n xs x (by omega) hm]
        simpa using h4
      · refine evs (fun k => by rw [impl_period.run]) ?_
        refine evn hm (evp (by omega) ?_)
        have hst : impl_period.step (n : Int) (b : Int) (x : Int) = some ((x * b % n : Nat) : Int) := by
          unfold impl_period.step
          rw [if_neg (by omega : ¬ (n : Int) = 0), e1, w64n _ (by omega), tmod_cast]
        rw [hst]
        simpa using h5
theorem period_fill (a n b : Int) (N : Nat) (hN : N ≤ 100000) (r : Int × Int) (d : Nat) : ∀ i : Nat, i + d = N → Ev (fun k => spec_tePeriod.l1 k n b (List.replicate N (-1)) 0 a) r →
    Ev (fun k => spec_tePeriod.l0 k a n b (List.replicate i (-1) ++ List.replicate d 0) (N : Int) (i : Int)) r := by
  induction d with
  | zero =>
    intro i hi h
    refine evs (fun k => by rw [spec_tePeriod.l0]) ?_
    refine evn (by omega) ?_
    have : i = N := by omega
    subst this
    simpa using h
  | succ d ih =>
    intro i hi h
    refine evs (fun k => by rw [spec_tePeriod.l0]) ?_
    refine evp (by omega) (evp (by omega) (evp (by simp; omega) ?_))
    rw [List.replicate_succ, set_midI _ _ _ _ _ (by simp), w64 (by omega) (by omega)]
    have h2 := ih (i + 1) (by omega) h
    rw [List.replicate_succ', List.append_assoc] at h2
    simpa using h2
theorem period_ev (a n b : Nat) (hn : 0 < n) (hn2 : n ≤ 2000) (hb2 : b ≤ 16) (ha : a < n) :
    ∃ p L : Nat, p + L ≤ n ∧ 1 ≤ L ∧ Ev (fun k => spec_tePeriod.f k (a : Int) (n : Int) (b : Int)) ((p : Int), (L : Int)) ∧ Ev (fun k => impl_period.f k (a : Int) (n : Int) (b : Int)) ((p : Int), (L : Int)) := by
  obtain ⟨p, L, ys, h1, h2, h3, h4, h5⟩ := period_loop n b hn hn2 hb2 n [] a List.nodup_nil (by simp) ha (by simp)
  refine ⟨p, L, h1, h2, ?_, ?_⟩
  · unfold spec_tePeriod.f
    refine evp (by omega) (evp (by omega) ?_)
    simp only [Option.bind_some, List.length_replicate, Int.toNat_natCast]
    rw [seen_nil] at h4
    simpa using period_fill a n b n (by omega) _ n 0 (by omega) h4
  · unfold impl_period.f
    refine evp (by omega) (evb h5 (evr ?_))
    rw [w64 (by simp only; omega) (by simp only; omega)]
    simp only [h3]
    congr 1
    omega

def rems (n b a t : Nat) : List Int := (List.range t).map (fun i : Nat => ((a * b ^ i % n : Nat) : Int))
theorem rems_length (n b a t : Nat) : (rems n b a t).length = t := by simp [rems]
theorem rems_succ (n b a t : Nat) : rems n b a (t + 1) = rems n b a t ++ [((a * b ^ t % n : Nat) : Int)] := by simp [rems, List.range_succ]
theorem rems_mem (n b a t : Nat) (x : Nat) : ((x : Int) ∈ rems n b a t) ↔ ∃ i, i < t ∧ a * b ^ i % n = x := by
  simp only [rems, List.mem_map, List.mem_range]
  constructor
  · rintro ⟨i, hi, he⟩
    exact ⟨i, hi, by omega⟩
  · rintro ⟨i, hi, he⟩
    exact ⟨i, hi, by omega⟩
theorem rems_idx (n b a : Nat) (p : Nat) : ∀ t, p < t → (∀ i, i < p → a * b ^ i % n ≠ a * b ^ p % n) → (rems n b a t).idxOf ((a * b ^ p % n : Nat) : Int) = p := by
  intro t
  induction t with
  | zero => intro h; omega
  | succ t ih =>
    intro hp hd
    rw [rems_succ, List.idxOf_append]
    by_cases h : p < t
    · rw [if_pos ((rems_mem n b a t _).2 ⟨p, h, rfl⟩)]
      exact ih h hd
    · have e : p = t := by omega
      subst e
      have hn : ((a * b ^ p % n : Nat) : Int) ∉ rems n b a p := by
        rw [rems_mem]
        rintro ⟨i, hi, he⟩
        exact hd i hi he
      rw [if_neg hn, rems_length]
      simp
theorem run_rems (n b a p L : Nat) (hn : 0 < n) (hn2 : n ≤ 2000) (hb2 : b ≤ 16) (hL : 1 ≤ L) (hpL : p + L ≤ 100000) (hd : ∀ i j, i < j → j < p + L → a * b ^ i % n ≠ a * b ^ j % n) (hr : a * b ^ (p + L) % n = a * b ^ p % n) (d : Nat) :
    ∀ t, t + d = p + L → Ev (fun k => impl_period.run (impl_period.step (n : Int) (b : Int)) k (rems n b a t) ((a * b ^ t % n : Nat) : Int)) (rems n b a (p + L), (p : Int)) := by
  induction d with
  | zero =>
    intro t ht
    have e : t = p + L := by omega
    subst e
    refine evs (fun k => by rw [impl_period.run]) ?_
    rw [hr]
    refine evp ((rems_mem n b a (p + L) _).2 ⟨p, by omega, rfl⟩) (evr ?_)
    rw [rems_idx n b a p (p + L) (by omega) (fun i hi => hd i p hi (by omega))]
  | succ d ih =>
    intro t ht
    refine evs (fun k => by rw [impl_period.run]) ?_
    refine evn ?_ (evp (by rw [rems_length]; omega) ?_)
    · rw [rems_mem]
      rintro ⟨i, hi, he⟩
      exact hd i t hi (by omega) he
    · have hlt : a * b ^ t % n < n := Nat.mod_lt _ hn
      have hm : a * b ^ t % n * b ≤ 2000 * 16 := Nat.mul_le_mul (by omega) hb2
      have e1 : ((a * b ^ t % n : Nat) : Int) * (b : Int) = ((a * b ^ t % n * b : Nat) : Int) := (Int.natCast_mul _ _).symm
      have hst : impl_period.step (n : Int) (b : Int) ((a * b ^ t % n : Nat) : Int) = some ((a * b ^ (t + 1) % n : Nat) : Int) := by
        unfold impl_period.step
        rw [if_neg (by omega : ¬ (n : Int) = 0), e1, w64n _ (by omega), tmod_cast, Nat.mod_mul_mod, Nat.pow_succ, Nat.mul_assoc]
      rw [hst]
      rw [← rems_succ]
      exact ih (t + 1) (by omega)
theorem first_back (n b a : Nat) (hn : 0 < n) : ∃ p L : Nat, 1 ≤ L ∧ p + L ≤ n ∧ (∀ i j, i < j → j < p + L → a * b ^ i % n ≠ a * b ^ j % n) ∧ a * b ^ (p + L) % n = a * b ^ p % n := by
  obtain ⟨j, ⟨i, hij, he⟩, hmin⟩ := least_of (P := fun j => ∃ i, i < j ∧ a * b ^ i % n = a * b ^ j % n) (by
    obtain ⟨i, j, h1, h2, h3⟩ := pigeon n (fun i => a * b ^ i % n) (fun i _ => Nat.mod_lt _ hn)
    exact ⟨j, i, h1, h3⟩)
  refine ⟨i, j - i, by omega, ?_, ?_, ?_⟩
  · obtain ⟨i2, j2, h1, h2, h3⟩ := pigeon n (fun i => a * b ^ i % n) (fun i _ => Nat.mod_lt _ hn)
    by_cases h : j ≤ n
    · omega
    · exact absurd ⟨i2, h1, h3⟩ (hmin j2 (by omega))
  · intro i2 j2 h1 h2 h3
    exact hmin j2 (by omega) ⟨i2, h1, h3⟩
  · rw [show i + (j - i) = j by omega]
    exact he.symm

theorem period_full (a n b : Nat) (hn : 0 < n) (hn2 : n ≤ 2000) (hb2 : b ≤ 16) (ha : a < n) :
    ∃ p L : Nat, 1 ≤ L ∧ p + L ≤ n ∧ (∀ i j, i < j → j < p + L → a * b ^ i % n ≠ a * b ^ j % n) ∧ a * b ^ (p + L) % n = a * b ^ p % n ∧
      Ev (fun k => spec_tePeriod.f k (a : Int) (n : Int) (b : Int)) ((p : Int), (L : Int)) ∧ Ev (fun k => impl_period.f k (a : Int) (n : Int) (b : Int)) ((p : Int), (L : Int)) := by
  obtain ⟨p, L, h1, h2, h3, h4⟩ := first_back n b a hn
  obtain ⟨p', L', g1, g2, g3, g4⟩ := period_ev a n b hn hn2 hb2 ha
  have hrun := run_rems n b a p L hn hn2 hb2 h1 (by omega) h3 h4 (p + L) 0 (by omega)
  have hi : Ev (fun k => impl_period.f k (a : Int) (n : Int) (b : Int)) ((p : Int), (L : Int)) := by
    unfold impl_period.f
    refine evp (by omega) (evb (a := (rems n b a (p + L), (p : Int))) ?_ (evr ?_))
    · have e0 : a * b ^ 0 % n = a := by rw [Nat.pow_zero, Nat.mul_one, Nat.mod_eq_of_lt ha]
      rw [e0] at hrun
      exact hrun
    · simp only [rems_length]
      rw [w64 (by omega) (by omega)]
      congr 1
      omega
  have e := evu g4 hi
  rw [e] at g3
  exact ⟨p, L, h1, h2, h3, h4, g3, hi⟩
theorem mod_cancel {n a b j d : Nat} (hc : Nat.Coprime n b) (hca : Nat.Coprime n a) (hb : 0 < b) (h : a * b ^ (j + d) % n = a * b ^ j % n) : b ^ d % n = 1 % n := by
  refine mod_of_dvd_sub (Nat.pow_pos hb) ?_
  have h1 := Nat.sub_mod_eq_zero_of_mod_eq h
  have h2 := Nat.dvd_of_mod_eq_zero h1
  have h3 : a * b ^ (j + d) - a * b ^ j = a * (b ^ j * (b ^ d - 1)) := by
    rw [← Nat.mul_sub, Nat.mul_sub (b ^ j), ← Nat.pow_add, Nat.mul_one]
  rw [h3] at h2
  exact Nat.Coprime.dvd_of_dvd_mul_left (Nat.Coprime.pow_right _ hc) (Nat.Coprime.dvd_of_dvd_mul_left hca h2)
theorem period_order (a n b p L k : Nat) (hn : 0 < n) (hb : 0 < b) (ha : a < n) (hc : Nat.Coprime n b) (hca : Nat.Coprime n a) (hL : 1 ≤ L) (hd : ∀ i j, i < j → j < p + L → a * b ^ i % n ≠ a * b ^ j % n) (hr : a * b ^ (p + L) % n = a * b ^ p % n)
    (hk : 1 ≤ k) (hk2 : b ^ k % n = 1 % n) (hk3 : ∀ j, 1 ≤ j → j < k → b ^ j % n ≠ 1 % n) : p = 0 ∧ L = k := by
  have h1 : b ^ L % n = 1 % n := mod_cancel hc hca hb hr
  have back : ∀ j, b ^ j % n = 1 % n → a * b ^ j % n = a * b ^ 0 % n := by
    intro j hj
    rw [Nat.mul_mod, hj, Nat.pow_zero, Nat.mul_mod a 1 n]
  have hp : p = 0 := by
    by_cases h : p = 0
    · exact h
    · exact absurd (back L h1).symm (hd 0 L (by omega) (by omega))
  subst hp
  refine ⟨rfl, ?_⟩
  by_cases hlt : L < k
  · exact absurd h1 (hk3 L hL hlt)
  · by_cases hgt : k < L
    · exact absurd (back k hk2).symm (hd 0 k (by omega) (by omega))
    · omega

theorem repetend_full (a n b : Nat) (hn : 0 < n) (hn2 : n ≤ 2000) (hb2 : b ≤ 16) (ha : a < n) (p L : Nat) (h1 : p + L ≤ n)
    (h3 : Ev (fun k => spec_tePeriod.f k (a : Int) (n : Int) (b : Int)) ((p : Int), (L : Int))) (h4 : Ev (fun k => impl_period.f k (a : Int) (n : Int) (b : Int)) ((p : Int), (L : Int))) :
    Ev (fun k => spec_teRepetend.f k (a : Int) (n : Int) (b : Int)) (ic ((digs n b (p + L) a).drop p)) ∧ Ev (fun k => impl_repetend.f k (a : Int) (n : Int) (b : Int)) (ic ((digs n b (p + L) a).drop p)) := by
  constructor
  · unfold spec_teRepetend.f
    refine evb h3 ?_
    have e : wrap64 ((p : Int) + (L : Int)) = ((p + L : Nat) : Int) := by rw [w64 (by omega) (by omega)]; omega
    simp only [e]
    refine evb (teDigits_ev n b a (p + L) hn hn2 hb2 ha (by omega)) (evp (by omega) (evp (by rw [ic_length, digs_length]; omega) (evr ?_)))
    rw [Int.toNat_natCast, ic_drop]
  · unfold impl_repetend.f
    refine evb h4 ?_
    exact evb (shown_ev n b a p L hn hn2 hb2 ha (by omega)) (Ev.now _)
theorem repetend_len (a n b p L : Nat) : (ic ((digs n b (p + L) a).drop p)).length = L := by simp [ic_length, digs_length]

theorem digs_at (n b : Nat) (m : Nat) : ∀ (a i : Nat), i < m → (digs n b m a).getD i 0 = (if i = 0 then a else a * b ^ i % n) * b / n := by
  induction m with
  | zero => intro a i h; omega
  | succ m ih =>
    intro a i h
    cases i with
    | zero => simp [digs]
    | succ i =>
      have h2 := ih (a * b % n) i (by omega)
      simp only [digs, List.getD_cons_succ, h2]
      rw [if_neg (by omega : ¬ i + 1 = 0)]
      by_cases h0 : i = 0
      · subst h0
        rw [if_pos rfl, Nat.zero_add, Nat.pow_one]
      · rw [if_neg h0, Nat.mod_mul_mod, Nat.mul_assoc, ← Nat.pow_succ']
theorem digs_rd (n b m a i : Nat) (ha : a < n) (hi : i < m) : rd (ic (digs n b m a)) (i : Int) = ((a * b ^ i % n * b / n : Nat) : Int) := by
  have h := digs_at n b m a i hi
  have hl : i < (digs n b m a).length := by rw [digs_length]; exact hi
  rw [rd_get _ _ (by rw [ic_length]; exact hl)]
  have e : (ic (digs n b m a))[i]'(by rw [ic_length]; exact hl) = (((digs n b m a).getD i 0 : Nat) : Int) := by
    simp [ic, List.getD_eq_getElem?_getD, hl]
  rw [e, h]
  by_cases h0 : i = 0
  · subst h0
    rw [if_pos rfl, Nat.pow_zero, Nat.mul_one, Nat.mod_eq_of_lt ha]
  · rw [if_neg h0]

theorem l1Own_ev (l : List Int) (h : l.length ≤ 1000000) : spec_l1Own.f l = some l := by
  unfold spec_l1Own.f
  simp only [Option.bind_some, List.nil_append, List.length_nil]
  rw [if_pos (by omega)]
theorem clone_ev (l : List Int) (h : l.length ≤ 1000000) : slices_Clone_int_int.f l = some l := by
  unfold slices_Clone_int_int.f
  rw [if_pos (by omega)]

theorem coprime_of_prime {p b : Nat} (hp : IsPr p) (h : b % p ≠ 0) : Nat.Coprime p b := by
  have h1 : Nat.gcd p b ∣ p := Nat.gcd_dvd_left _ _
  have h2 : Nat.gcd p b ∣ b := Nat.gcd_dvd_right _ _
  have h3 : Nat.gcd p b ≤ p := Nat.le_of_dvd (by have := hp.1; omega) h1
  have h4 : 0 < Nat.gcd p b := Nat.gcd_pos_of_pos_left _ (by have := hp.1; omega)
  by_cases he : Nat.gcd p b = p
  · exact absurd (Nat.mod_eq_zero_of_dvd (he ▸ h2)) h
  · by_cases h5 : 2 ≤ Nat.gcd p b
    · exact absurd h1 (hp.2 _ h5 (by omega))
    · show Nat.gcd p b = 1
      omega
theorem full_ev (p b : Int) (h2 : p ≤ 2000) (hb : 0 < b) (hb2 : b ≤ 16) : ∃ t : Bool, Ev (fun k => spec_teFull.f k p b) t ∧ Ev (fun k => impl_isFull.f k p b) t ∧ (t = true → 2 ≤ p ∧ IsPr p.toNat ∧ Nat.Coprime p.toNat b.toNat ∧ Ev (fun k => spec_teOrder.f k p b) (p - 1)) := by
  obtain ⟨t, hs, hi, ht⟩ := dvPrime_ev p (by omega)
  cases t with
  | false => exact ⟨false, evb hs (evn (by simp) (Ev.now _)), evb hi (evn (by simp) (Ev.now _)), fun h => by simp at h⟩
  | true =>
    obtain ⟨hp2, hpr⟩ := ht rfl
    obtain ⟨p, rfl⟩ := natOf (a := p) (by omega)
    obtain ⟨b, rfl⟩ := natOf (a := b) (by omega)
    rw [Int.toNat_natCast] at hpr
    by_cases h0 : b % p = 0
    · refine ⟨false, evb hs (evp rfl (evn (by omega) (evn ?_ (Ev.now _)))), evb hi (evp rfl (evn (by omega) (evp ?_ (Ev.now _)))), fun h => by simp at h⟩
      · rw [tmod_cast]; omega
      · rw [tmod_cast]; omega
    · have hc := coprime_of_prime hpr h0
      obtain ⟨k, h1, h2, h3, h4, h5⟩ := order_ev p b (by omega) (by omega) (by omega) (by omega) hc
      have h6 : Ev (fun f => impl_order.f f (p : Int) (b : Int)) (k : Int) := by simpa only [order_same] using h5
      refine ⟨((k : Int) == (p : Int) - 1), evb hs (evp rfl (evn (by omega) (evp ?_ (evb h5 (evr ?_))))), evb hi (evp rfl (evn (by omega) (evn ?_ (evb h6 (evr ?_))))), fun ht => ⟨hp2, by simpa using hpr, by simpa using hc, ?_⟩⟩
      · rw [tmod_cast]; omega
      · rw [w64 (by omega) (by omega)]
      · rw [tmod_cast]; omega
      · rw [w64 (by omega) (by omega)]
      · rw [beq_iff_eq] at ht
        rw [← ht]
        exact h5

def turnsL (p b : Nat) : Nat → Nat → Nat → List Int → List Int
  | 0, _, _, out => out
  | d + 1, a, i, out => turnsL p b d (a * b % p) (i + 1) (out.set (a - 1) (i : Int))
theorem turnsL_length (p b d : Nat) : ∀ (a i : Nat) (out : List Int), (turnsL p b d a i out).length = out.length := by
  induction d with
  | zero => intro a i out; rfl
  | succ d ih => intro a i out; simp [turnsL, ih]
theorem coprime_mod {p x : Nat} (h : Nat.Coprime p x) : Nat.Coprime p (x % p) := by
  have h1 : Nat.gcd p x = 1 := h
  rw [Nat.gcd_rec] at h1
  rw [Nat.Coprime, Nat.gcd_comm]
  exact h1
theorem coprime_ne {p x : Nat} (hp : 2 ≤ p) (h : Nat.Coprime p x) : x ≠ 0 := by
  rintro rfl
  rw [Nat.Coprime, Nat.gcd_zero_right] at h
  omega
theorem spec_turns_loop (p b : Nat) (hp : 2 ≤ p) (hp2 : p ≤ 300) (hb2 : b ≤ 16) (hc : Nat.Coprime p b) (d : Nat) : ∀ (a i : Nat) (out : List Int), Nat.Coprime p a → a < p → i + d + 1 = p → out.length + 1 = p →
    Ev (fun k => spec_TurnsOf.l0 k (p : Int) (b : Int) out (a : Int) (i : Int)) (turnsL p b d a i out, true) := by
  induction d with
  | zero =>
    intro a i out hca ha hi ho
    refine evs (fun k => by rw [spec_TurnsOf.l0]) ?_
    rw [w64 (x := (p : Int) - 1) (by omega) (by omega)]
    exact evn (by omega) (Ev.now _)
  | succ d ih =>
    intro a i out hca ha hi ho
    have ha0 := coprime_ne hp hca
    have hm : a * b ≤ 300 * 16 := Nat.mul_le_mul (by omega) hb2
    have e1 : ((a : Int)) * (b : Int) = ((a * b : Nat) : Int) := by simp
    have e2 : ((a : Int) - 1).toNat = a - 1 := by omega
    refine evs (fun k => by rw [spec_TurnsOf.l0]) ?_
    rw [w64 (x := (p : Int) - 1) (by omega) (by omega), w64 (x := (a : Int) - 1) (by omega) (by omega), e1, w64 (x := ((a * b : Nat) : Int)) (by omega) (by omega), tmod_cast, w64 (x := (i : Int) + 1) (by omega) (by omega), e2]
    refine evp (by omega) (evp (by omega) (evp (by omega) (evn (by omega) ?_)))
    exact ih (a * b % p) (i + 1) (out.set (a - 1) (i : Int)) (coprime_mod (Nat.Coprime.mul_right hca hc)) (Nat.mod_lt _ (by omega)) (by omega) (by simpa using ho)
theorem impl_turns_loop (p b : Nat) (hp : 2 ≤ p) (hp2 : p ≤ 300) (hb2 : b ≤ 16) (hc : Nat.Coprime p b) (d : Nat) : ∀ (a i : Nat) (out : List Int), Nat.Coprime p a → a < p → i + d + 1 = p → out.length + 1 = p →
    Ev (fun k => impl_TurnsOf.l0 k (p : Int) (b : Int) out (a : Int) ((p : Int) - 1) (i : Int)) (turnsL p b d a i out, true) := by
  induction d with
  | zero =>
    intro a i out hca ha hi ho
    refine evs (fun k => by rw [impl_TurnsOf.l0]) ?_
    exact evn (by omega) (Ev.now _)
  | succ d ih =>
    intro a i out hca ha hi ho
    have ha0 := coprime_ne hp hca
    have hm : a * b ≤ 300 * 16 := Nat.mul_le_mul (by omega) hb2
    have e1 : ((a : Int)) * (b : Int) = ((a * b : Nat) : Int) := by simp
    have e2 : ((a : Int) - 1).toNat = a - 1 := by omega
    refine evs (fun k => by rw [impl_TurnsOf.l0]) ?_
    rw [w64 (x := (a : Int) - 1) (by omega) (by omega), e1, w64 (x := ((a * b : Nat) : Int)) (by omega) (by omega), tmod_cast, w64 (x := (i : Int) + 1) (by omega) (by omega), e2]
    refine evp (by omega) (evn (by omega) (evp (by omega) (evp (by omega) ?_)))
    exact ih (a * b % p) (i + 1) (out.set (a - 1) (i : Int)) (coprime_mod (Nat.Coprime.mul_right hca hc)) (Nat.mod_lt _ (by omega)) (by omega) (by simpa using ho)
theorem turns_ev (p b : Int) : ∃ r : List Int × Bool, r.1.length ≤ 300 ∧ Ev (fun k => spec_TurnsOf.f k p b) r ∧ Ev (fun k => impl_TurnsOf.f k p b) r := by
  simp only [spec_TurnsOf.f, impl_TurnsOf.f, spec_teCyclic.f, spec_dgBase_eq, spec_l1In_eq, impl_in_eq, impl_isBase_eq, Option.bind_some, decide_eq_true_eq]
  have no : Ev (fun k => impl_TurnsOf.j0 k p b true) (([] : List Int), false) := evs (fun k => by rw [impl_TurnsOf.j0]) (evp rfl (Ev.now _))
  by_cases hb : 2 ≤ b ∧ b ≤ 16
  · by_cases hp : 2 ≤ p ∧ p ≤ 300
    · obtain ⟨t, hs, hi, ht⟩ := full_ev p b (by omega) (by omega) hb.2
      cases t with
      | false =>
        refine ⟨([], false), by simp, ?_, evp hb (evp hp (evb hi (by simpa using no)))⟩
        exact evb (evp hb (evp hp (evb hs (Ev.now _)))) (evn (by simp) (Ev.now _))
      | true =>
        obtain ⟨_, _, hc, _⟩ := ht rfl
        obtain ⟨p, rfl⟩ := natOf (a := p) (by omega)
        obtain ⟨b, rfl⟩ := natOf (a := b) (by omega)
        simp only [Int.toNat_natCast] at hc
        have e2 : ((p : Int) - 1).toNat = p - 1 := by omega
        refine ⟨(turnsL p b (p - 1) 1 0 (List.replicate (p - 1) 0), true), by simp [turnsL_length]; omega, ?_, evp hb (evp hp (evb hi ?_))⟩
        · refine evb (evp hb (evp hp (evb hs (Ev.now _)))) (evp rfl ?_)
          rw [w64 (by omega) (by omega), e2]
          exact evp (by omega) (evp (by omega) (spec_turns_loop p b (by omega) (by omega) (by omega) hc (p - 1) 1 0 _ (Nat.gcd_one_right p) (by omega) (by omega) (by simp; omega)))
        · refine evs (fun k => by rw [impl_TurnsOf.j0]) ?_
          rw [w64 (by omega) (by omega), e2]
          exact evn (by simp) (evp (by omega) (evp (by omega) (impl_turns_loop p b (by omega) (by omega) (by omega) hc (p - 1) 1 0 _ (Nat.gcd_one_right p) (by omega) (by omega) (by simp; omega))))
    · exact ⟨([], false), by simp, evb (evp hb (evn hp (Ev.now _))) (evn (by simp) (Ev.now _)), evp hb (evn hp no)⟩
  · exact ⟨([], false), by simp, evb (evn hb (Ev.now _)) (evn (by simp) (Ev.now _)), evn hb no⟩

theorem fullPrimes_loop (b most : Int) (hb : 0 < b) (hb2 : b ≤ 16) (hm : most ≤ 300) (d : Nat) : ∀ (p : Int) (out : List Int), 2 ≤ p → (most + 1 - p).toNat = d → out.length + d ≤ 1000 →
    ∃ r : List Int, r.length ≤ 1000 ∧ Ev (fun k => spec_FullPrimes.l0 k b most out p) (r, true) ∧ Ev (fun k => impl_FullPrimes.l0 k b most out p) (r, true) := by
  induction d with
  | zero =>
    intro p out hp hd ho
    refine ⟨out, by omega, evs (fun k => by rw [spec_FullPrimes.l0]) ?_, evs (fun k => by rw [impl_FullPrimes.l0]) ?_⟩
    · exact evn (by omega) (Ev.now _)
    · exact evn (by omega) (Ev.now _)
  | succ d ih =>
    intro p out hp hd ho
    obtain ⟨t, hs, hi, _⟩ := full_ev p b (by omega) hb hb2
    have e1 := w64 (x := p + 1) (by omega) (by omega)
    cases t with
    | false =>
      obtain ⟨r, hr, h1, h2⟩ := ih (p + 1) out (by omega) (by omega) (by omega)
      refine ⟨r, hr, evs (fun k => by rw [spec_FullPrimes.l0, e1]) ?_, evs (fun k => by rw [impl_FullPrimes.l0, e1]) ?_⟩
      · exact evp (by omega) (evb hs (evn (by simp) h1))
      · exact evp (by omega) (evb hi (evn (by simp) h2))
    | true =>
      obtain ⟨r, hr, h1, h2⟩ := ih (p + 1) (out ++ [p]) (by omega) (by omega) (by simp; omega)
      refine ⟨r, hr, evs (fun k => by rw [spec_FullPrimes.l0, e1]) ?_, evs (fun k => by rw [impl_FullPrimes.l0, e1]) ?_⟩
      · exact evp (by omega) (evb hs (evp rfl (evp (by omega) h1)))
      · exact evp (by omega) (evb hi (evp rfl (evp (by omega) h2)))
theorem fullPrimes_both (b most : Int) : ∃ r : List Int × Bool, r.1.length ≤ 100000 ∧ Ev (fun k => spec_FullPrimes.f k b most) r ∧ Ev (fun k => impl_FullPrimes.f k b most) r := by
  simp only [spec_FullPrimes.f, impl_FullPrimes.f, spec_dgBase_eq, spec_l1In_eq, impl_in_eq, impl_isBase_eq, Option.bind_some, decide_eq_true_eq]
  have n1 : Ev (fun k => spec_FullPrimes.j0 k b most true) (([] : List Int), false) := evs (fun k => by rw [spec_FullPrimes.j0]) (evp rfl (Ev.now _))
  have n2 : Ev (fun k => impl_FullPrimes.j0 k b most true) (([] : List Int), false) := evs (fun k => by rw [impl_FullPrimes.j0]) (evp rfl (Ev.now _))
  by_cases hb : 2 ≤ b ∧ b ≤ 16
  · by_cases hm : 0 ≤ most ∧ most ≤ 300
    · obtain ⟨r, hr, h1, h2⟩ := fullPrimes_loop b most (by omega) hb.2 hm.2 (most + 1 - 2).toNat 2 [] (by omega) rfl (by simp; omega)
      refine ⟨(r, true), by simp only; omega, evp hb ?_, evp hb ?_⟩
      · exact evs (fun k => by rw [spec_FullPrimes.j0]) (evn (by simp [hm]) h1)
      · exact evs (fun k => by rw [impl_FullPrimes.j0]) (evn (by simp [hm]) h2)
    · refine ⟨([], false), by simp, evp hb ?_, evp hb ?_⟩
      · simpa [hm] using n1
      · simpa [hm] using n2
  · exact ⟨([], false), by simp, evn hb n1, evn hb n2⟩

theorem pow_mod_per {b n L : Nat} (h : b ^ L % n = 1 % n) (m : Nat) : b ^ m % n = b ^ (m % L) % n := by
  have e : b ^ m = (b ^ L) ^ (m / L) * b ^ (m % L) := by rw [← Nat.pow_mul, ← Nat.pow_add, Nat.div_add_mod]
  rw [e, Nat.mul_mod, Nat.pow_mod, h, ← Nat.pow_mod, Nat.one_pow, ← Nat.mul_mod, Nat.one_mul]
theorem pow_inj {b n : Nat} (hb : 0 < b) (hc : Nat.Coprime n b) {K : Nat} (hk3 : ∀ j, 1 ≤ j → j < K → b ^ j % n ≠ 1 % n) {i j : Nat} (hij : i < j) (hj : j < K) : b ^ i % n ≠ b ^ j % n := by
  intro he
  have h1 : 1 * b ^ (i + (j - i)) % n = 1 * b ^ i % n := by
    rw [show i + (j - i) = j by omega, Nat.one_mul, Nat.one_mul]
    exact he.symm
  exact hk3 (j - i) (by omega) (by omega) (mod_cancel hc (Nat.gcd_one_right n) hb h1)
theorem pow_pos_mod {b p : Nat} (hp : 2 ≤ p) (hc : Nat.Coprime p b) (i : Nat) : 1 ≤ b ^ i % p := by
  have h := coprime_ne hp (coprime_mod (Nat.Coprime.pow_right i hc))
  omega
theorem pow_onto {b p : Nat} (hp : 2 ≤ p) (hb : 0 < b) (hc : Nat.Coprime p b) (hk3 : ∀ j, 1 ≤ j → j < p - 1 → b ^ j % p ≠ 1 % p) (x : Nat) (hx : 1 ≤ x) (hx2 : x < p) : ∃ j, j < p - 1 ∧ b ^ j % p = x := by
  obtain ⟨i, j, hij, hj, he⟩ := pigeon (p - 1) (fun i => if i < p - 1 then b ^ i % p - 1 else x - 1) (fun i hi => by
    have h1 := Nat.mod_lt (b ^ i) (show 0 < p by omega)
    show (if i < p - 1 then b ^ i % p - 1 else x - 1) < p - 1
    split <;> omega)
  have hi1 := pow_pos_mod hp hc i
  (try simp only at he)
  rw [if_pos (by omega : i < p - 1)] at he
  by_cases h : j < p - 1
  · rw [if_pos h] at he
    have hj1 := pow_pos_mod hp hc j
    exact absurd (by omega) (pow_inj hb hc hk3 hij h)
  · rw [if_neg h] at he
    exact ⟨i, by omega, by omega⟩
theorem turnsL_keep (p b d : Nat) : ∀ (i : Nat) (out : List Int) (x : Nat), (∀ j, i ≤ j → j < i + d → b ^ j % p ≠ x + 1) → (∀ j, 1 ≤ b ^ j % p) → rd (turnsL p b d (b ^ i % p) i out) (x : Int) = rd out (x : Int) := by
  induction d with
  | zero => intro i out x _ _; rfl
  | succ d ih =>
    intro i out x h h1
    simp only [turnsL]
    rw [Nat.mod_mul_mod, ← Nat.pow_succ, ih (i + 1) _ x (fun j h2 h3 => h j (by omega) (by omega)) h1]
    have h4 := h i (Nat.le_refl _) (by omega)
    have h5 := h1 i
    simp only [rd, Int.toNat_natCast, List.getD_eq_getElem?_getD]
    rw [List.getElem?_set_ne (by omega)]
theorem turnsL_at (p b d : Nat) : ∀ (i : Nat) (out : List Int) (j : Nat), i ≤ j → j < i + d → (∀ u v, i ≤ u → u < v → v < i + d → b ^ u % p ≠ b ^ v % p) → (∀ j, 1 ≤ b ^ j % p ∧ b ^ j % p ≤ out.length) →
    rd (turnsL p b d (b ^ i % p) i out) ((b ^ j % p - 1 : Nat) : Int) = (j : Int) := by
  induction d with
  | zero => intro i out j h1 h2; omega
  | succ d ih =>
    intro i out j h1 h2 hinj hb
    simp only [turnsL]
    rw [Nat.mod_mul_mod, ← Nat.pow_succ]
    by_cases hj : j = i
    · subst hj
      have h3 := hb j
      rw [turnsL_keep p b d (j + 1) _ (b ^ j % p - 1) (fun v h4 h5 => by have := hinj j v (Nat.le_refl _) (by omega) (by omega); omega) (fun v => (hb v).1)]
      simp only [rd, Int.toNat_natCast, List.getD_eq_getElem?_getD]
      rw [List.getElem?_set_self (by omega)]
      rfl
    · exact ih (i + 1) _ j (by omega) (by omega) (fun u v h3 h4 h5 => hinj u v (by omega) h4 (by omega)) (fun v => by simpa using hb v)
/-- Remainders of both halves make the number together, and so do digits the greatest one. -/
theorem halves_sum (p b a h i : Nat) (hp : IsPr p) (hb : 2 ≤ b) (hc : Nat.Coprime p b) (ha : 1 ≤ a) (hap : a < p) (h2 : b ^ (h + h) % p = 1 % p) (h1 : b ^ h % p ≠ 1 % p) :
    a * b ^ i % p * b / p + a * b ^ (h + i) % p * b / p = b - 1 := by
  have hp2 := hp.1
  have hca : Nat.Coprime p a := coprime_of_prime hp (by rw [Nat.mod_eq_of_lt hap]; omega)
  have hbh : 0 < b ^ h := Nat.pow_pos (by omega)
  have hd : p ∣ b ^ (h + h) - 1 := by
    have := Nat.sub_mod_eq_zero_of_mod_eq h2
    exact Nat.dvd_of_mod_eq_zero this
  have hn : (b ^ h - 1) % p ≠ 0 := fun h0 => h1 (mod_of_dvd_sub hbh (Nat.dvd_of_mod_eq_zero h0))
  have hf : b ^ (h + h) - 1 = (b ^ h - 1) * (b ^ h + 1) := by
    rw [Nat.pow_add, Nat.sub_mul, Nat.mul_add, Nat.mul_one, Nat.one_mul]
    omega
  rw [hf] at hd
  have hd2 : p ∣ b ^ h + 1 := Nat.Coprime.dvd_of_dvd_mul_left (coprime_of_prime hp hn) hd
  obtain ⟨r, hr⟩ : ∃ r, a * b ^ i % p = r := ⟨_, rfl⟩
  obtain ⟨s, hs⟩ : ∃ s, a * b ^ (h + i) % p = s := ⟨_, rfl⟩
  have hr0 : 1 ≤ r := by
    have := coprime_ne hp2 (coprime_mod (Nat.Coprime.mul_right hca (Nat.Coprime.pow_right i hc)))
    omega
  have hs0 : 1 ≤ s := by
    have := coprime_ne hp2 (coprime_mod (Nat.Coprime.mul_right hca (Nat.Coprime.pow_right (h + i) hc)))
    omega
  have hrp : r < p := by rw [← hr]; exact Nat.mod_lt _ (by omega)
  have hsp : s < p := by rw [← hs]; exact Nat.mod_lt _ (by omega)
  have hrs : (r + s) % p = 0 := by
    have e : (a * b ^ i + a * b ^ (h + i)) % p = 0 := by
      have : a * b ^ i + a * b ^ (h + i) = a * b ^ i * (b ^ h + 1) := by
        rw [Nat.mul_add, Nat.mul_one, Nat.mul_assoc, ← Nat.pow_add, Nat.add_comm i h, Nat.add_comm]
      rw [this]
      exact Nat.mod_eq_zero_of_dvd (Nat.dvd_trans hd2 (Nat.dvd_mul_left _ _))
    rw [Nat.add_mod, hr, hs] at e
    exact e
  have hrs2 : r + s = p := by
    have h3 := Nat.le_of_dvd (by omega) (Nat.dvd_of_mod_eq_zero hrs)
    by_cases h4 : r + s = p
    · exact h4
    · have h5 : (r + s) % p = r + s - p := by
        rw [Nat.mod_eq_sub_mod h3, Nat.mod_eq_of_lt (by omega)]
      omega
  rw [hr, hs]
  have m1 : r * b % p ≠ 0 := coprime_ne hp2 (coprime_mod (Nat.Coprime.mul_right (coprime_of_prime hp (by rw [Nat.mod_eq_of_lt hrp]; omega)) hc))
  have d1 := Nat.div_add_mod (r * b) p
  have d2 := Nat.div_add_mod (s * b) p
  have l1 : r * b % p < p := Nat.mod_lt _ (by omega)
  have l2 : s * b % p < p := Nat.mod_lt _ (by omega)
  have hsum : p * (r * b / p) + p * (s * b / p) + (r * b % p + s * b % p) = p * b := by
    have : r * b + s * b = p * b := by rw [← Nat.add_mul, hrs2]
    omega
  obtain ⟨x, hx⟩ : ∃ x, r * b / p = x := ⟨_, rfl⟩
  obtain ⟨y, hy⟩ : ∃ y, s * b / p = y := ⟨_, rfl⟩
  obtain ⟨u, hu⟩ : ∃ u, r * b % p = u := ⟨_, rfl⟩
  obtain ⟨v, hv⟩ : ∃ v, s * b % p = v := ⟨_, rfl⟩
  rw [hx, hy, hu, hv] at hsum
  rw [hu] at m1 l1
  rw [hv] at l2
  rw [hx, hy]
  rw [← Nat.mul_add] at hsum
  have hle : x + y < b := by
    by_cases h6 : x + y < b
    · exact h6
    · have : p * b ≤ p * (x + y) := Nat.mul_le_mul_left _ (by omega)
      omega
  have hge : b ≤ x + y + 1 := by
    by_cases h6 : b ≤ x + y + 1
    · exact h6
    · have h7 : p * (x + y + 2) ≤ p * b := Nat.mul_le_mul_left _ (by omega)
      rw [Nat.mul_add p (x + y) 2] at h7
      omega
  omega

theorem low_byte (x : Int) : 0 ≤ Go.bits .and .u64 ((IntKind.u64.wrap x) / 1099511627776) 255 ∧ Go.bits .and .u64 ((IntKind.u64.wrap x) / 1099511627776) 255 ≤ 255 := by
  have h0 : 0 ≤ IntKind.u64.wrap x ∧ IntKind.u64.wrap x < 18446744073709551616 := by rw [IntKind.wrap_u64]; omega
  obtain ⟨y, hy⟩ := Int.eq_ofNat_of_zero_le (show 0 ≤ IntKind.u64.wrap x / 1099511627776 by omega)
  rw [hy]
  have h1 := bits_and_u64_nat y 255 (by omega) (by omega)
  have e : y &&& 255 = y % 256 := Nat.and_two_pow_sub_one_eq_mod y 8
  rw [e] at h1
  rw [show ((255 : Int)) = ((255 : Nat) : Int) from rfl, h1]
  omega
theorem next_ok (l : List Int) (hl : ∀ x ∈ l, 0 ≤ x ∧ x ≤ 255) (p s : Int) (h0 : 0 ≤ p) (h1 : p ≤ 1000000000000) :
    ∃ v s' : Int, spec_l1Cur_next.f l p s = some (v, p + 1, s') ∧ 0 ≤ v ∧ v ≤ 255 := by
  unfold spec_l1Cur_next.f
  rw [w64 (x := p + 1) (by omega) (by omega)]
  by_cases hp : p < (l.length : Int)
  · have hm := hl _ (rd_mem l p h0 hp)
    rw [if_pos hp, if_pos h0]
    by_cases hq : p + 1 ≤ (l.length : Int)
    · rw [if_pos hq]
      refine ⟨_, _, rfl, ?_⟩
      rw [w64 (by omega) (by omega)]
      exact hm
    · omega
  · rw [if_neg hp]
    by_cases hq : p + 1 ≤ (l.length : Int)
    · omega
    · rw [if_neg hq]
      refine ⟨_, _, rfl, ?_⟩
      have h := low_byte (IntKind.u64.wrap (IntKind.u64.wrap (s * 6364136223846793005)) + 1442695040888963407)
      rw [w64 (by omega) (by omega)]
      exact h
theorem pick_ok (l : List Int) (hl : ∀ x ∈ l, 0 ≤ x ∧ x ≤ 255) (p s n : Int) (h0 : 0 ≤ p) (h1 : p ≤ 999999999990) (hn : n ≤ 1000000) :
    ∃ v p' s' : Int, spec_l1Cur_pick.f l p s n = some (v, p', s') ∧ 0 ≤ v ∧ v ≤ 1000000 ∧ (v = 0 ∨ v < n) ∧ p ≤ p' ∧ p' ≤ p + 2 := by
  unfold spec_l1Cur_pick.f
  by_cases h : n ≤ 1
  · rw [if_pos h]
    exact ⟨0, p, s, rfl, by omega, by omega, by omega, by omega, by omega⟩
  · rw [if_neg h]
    obtain ⟨v, s1, e1, h2, h3⟩ := next_ok l hl p s h0 (by omega)
    rw [e1]
    simp only [Option.bind_some]
    by_cases h4 : n > 200
    · rw [if_pos h4]
      obtain ⟨v2, s2, e2, h5, h6⟩ := next_ok l hl (p + 1) s1 (by omega) (by omega)
      rw [e2]
      simp only [Option.bind_some]
      rw [if_neg (by omega), w64 (x := v * 256) (by omega) (by omega), w64 (by omega) (by omega)]
      have h7 := Int.tmod_nonneg n (show 0 ≤ v * 256 + v2 by omega)
      have h8 := Int.tmod_lt_of_pos (v * 256 + v2) (show 0 < n by omega)
      exact ⟨_, _, _, rfl, h7, by omega, Or.inr h8, by omega, by omega⟩
    · rw [if_neg h4, if_neg (by omega)]
      have h7 := Int.tmod_nonneg n (show 0 ≤ v by omega)
      have h8 := Int.tmod_lt_of_pos v (show 0 < n by omega)
      exact ⟨_, _, _, rfl, h7, by omega, Or.inr h8, by omega, by omega⟩
theorem among_ok (l : List Int) (hl : ∀ x ∈ l, 0 ≤ x ∧ x ≤ 255) (p s : Int) (m : List Int) (hm : m ≠ []) (hm2 : m.length ≤ 1000000) (h0 : 0 ≤ p) (h1 : p ≤ 999999999990) :
    ∃ v p' s' : Int, spec_l1Cur_among.f l p s m = some (v, p', s') ∧ v ∈ m ∧ p ≤ p' ∧ p' ≤ p + 2 := by
  unfold spec_l1Cur_among.f
  have hpos := List.length_pos_iff.2 hm
  obtain ⟨v, p', s', e1, h2, h3, h4, h5, h6⟩ := pick_ok l hl p s m.length h0 h1 (by omega)
  rw [e1]
  simp only [Option.bind_some]
  rw [if_pos h2, if_pos (by omega)]
  exact ⟨_, _, _, rfl, rd_mem m v h2 (by omega), h5, h6⟩

theorem base_ok (l : List Int) (hl : ∀ x ∈ l, 0 ≤ x ∧ x ≤ 255) (p s : Int) (h0 : 0 ≤ p) (h1 : p ≤ 999999999990) : ∃ v p' s' : Int, spec_l1Cur_base.f l p s = some (v, p', s') ∧ p ≤ p' ∧ p' ≤ p + 2 := by
  unfold spec_l1Cur_base.f
  obtain ⟨v, p', s', e, _, h2, h3⟩ := among_ok l hl p s [10, 10, 10, 2, 3, 5, 7, 16, 12, 10, 10, 16, 1, 17, 0] (by simp) (by simp) h0 h1
  rw [e]
  exact ⟨_, _, _, rfl, h2, h3⟩

theorem laws_qSame_loop (post : List Int) : ∀ (pre post' : List Int), post'.length = post.length → (pre ++ post).length ≤ 4611686018427387904 →
    Ev (fun k => laws_qSame.l0 k (pre ++ post) (pre ++ post') ((pre ++ post).length : Int) (pre.length : Int)) (decide (post = post')) := by
  induction post with
  | nil =>
    intro pre post' hl h
    obtain rfl : post' = [] := List.eq_nil_of_length_eq_zero hl
    refine evs (fun k => by rw [laws_qSame.l0]) ?_
    exact evn (by simp) (evr (by simp))
  | cons x post ih =>
    intro pre post' hl h
    obtain ⟨y, post', rfl⟩ : ∃ y z, post' = y :: z := by cases post' with
      | nil => simp at hl
      | cons y z => exact ⟨y, z, rfl⟩
    refine evs (fun k => by rw [laws_qSame.l0]) ?_
    refine evp (by simp; omega) (evp (by omega) (evp (by simp; omega) (evp (by simp; omega) ?_)))
    rw [rd_mid, rd_mid]
    by_cases he : x = y
    · subst he
      refine evp rfl ?_
      have h2 := ih (pre ++ [x]) post' (by simpa using hl) (by simpa using h)
      simp only [List.append_assoc, List.singleton_append] at h2
      rw [w64 (by omega) (by simp at h; omega)]
      simpa using h2
    · exact evn he (evr (by simp [he]))
theorem laws_qSame_ev (l l' : List Int) (h : l.length ≤ 4611686018427387904) : Ev (fun k => laws_qSame.f k l l') (decide (l = l')) := by
  unfold laws_qSame.f
  by_cases hl : l.length = l'.length
  · exact evp (by omega) (by simpa using laws_qSame_loop l [] l' hl.symm (by simpa using h))
  · exact evn (by omega) (evr (by symm; rw [decide_eq_false_iff_not]; exact fun e => hl (by rw [e])))
theorem laws_qSame_self (l : List Int) (h : l.length ≤ 4611686018427387904) : Ev (fun k => laws_qSame.f k l l) true := by simpa using laws_qSame_ev l l h

/-- A prime number by which the base has the greatest order. -/
def FullP (p b : Nat) : Prop := IsPr p ∧ Nat.Coprime p b ∧ b ^ (p - 1) % p = 1 % p ∧ (∀ j, 1 ≤ j → j < p - 1 → b ^ j % p ≠ 1 % p) ∧ Ev (fun k => impl_order.f k (p : Int) (b : Int)) ((p : Int) - 1)
theorem fullP_ev (p b : Nat) (h1 : 2 ≤ p) (h2 : p ≤ 2000) (hb : 2 ≤ b) (hb2 : b ≤ 16) : ∃ t : Bool, Ev (fun k => spec_teFull.f k (p : Int) (b : Int)) t ∧ Ev (fun k => impl_isFull.f k (p : Int) (b : Int)) t ∧ (t = true → FullP p b) := by
  obtain ⟨t, hs, hi, ht⟩ := full_ev p b (by omega) (by omega) (by omega)
  refine ⟨t, hs, hi, fun h => ?_⟩
  obtain ⟨_, g2, g3, g4⟩ := ht h
  rw [Int.toNat_natCast] at g2 g3
  rw [Int.toNat_natCast] at g3
  obtain ⟨k, k1, k2, k3, k4, k5⟩ := order_ev p b (by omega) h2 (by omega) hb2 g3
  have e := evu k5 g4
  have e2 : k = p - 1 := by omega
  subst e2
  refine ⟨g2, g3, k3, k4, ?_⟩
  simpa only [order_same] using g4
theorem rep_full (p b a : Nat) (hf : FullP p b) (h2 : p ≤ 300) (hb : 2 ≤ b) (hb2 : b ≤ 16) (ha : 1 ≤ a) (hap : a < p) :
    Ev (fun k => spec_teRepetend.f k (a : Int) (p : Int) (b : Int)) (ic (digs p b (p - 1) a)) ∧ Ev (fun k => impl_repetend.f k (a : Int) (p : Int) (b : Int)) (ic (digs p b (p - 1) a)) := by
  obtain ⟨hp, hc, f1, f2, _⟩ := hf
  have hp2 := hp.1
  have hca : Nat.Coprime p a := coprime_of_prime hp (by rw [Nat.mod_eq_of_lt hap]; omega)
  obtain ⟨q, L, g1, g2, g3, g4, g5, g6⟩ := period_full a p b (by omega) (by omega) hb2 hap
  obtain ⟨rfl, rfl⟩ := period_order a p b q L (p - 1) (by omega) (by omega) hap hc hca g1 g3 g4 (by omega) f1 f2
  have h := repetend_full a p b (by omega) (by omega) hb2 hap 0 (p - 1) (by omega) g5 g6
  simpa using h
theorem cyclic_impl (p b : Nat) (h1 : 2 ≤ p) (h2 : p ≤ 300) (hb : 2 ≤ b) (hb2 : b ≤ 16) (hf : FullP p b) (hi : Ev (fun k => impl_isFull.f k (p : Int) (b : Int)) true) : Ev (fun k => impl_CyclicOf.f k (p : Int) (b : Int)) (ic (digs p b (p - 1) 1), true) := by
  have hr := rep_full p b 1 hf h2 hb hb2 (by omega) (by omega)
  simp only [impl_CyclicOf.f, impl_in_eq, impl_isBase_eq, Option.bind_some, decide_eq_true_eq]
  exact evp (by omega) (evp (by omega) (evb hi (evp rfl (evb hr.2 (Ev.now _)))))
theorem order_impl (p b : Nat) (h1 : 2 ≤ p) (h2 : p ≤ 300) (hb : 2 ≤ b) (hb2 : b ≤ 16) (hf : FullP p b) : Ev (fun k => impl_OrderOf.f k (p : Int) (b : Int)) ((p : Int) - 1, true) := by
  simp only [impl_OrderOf.f, impl_in_eq, impl_isBase_eq, Option.bind_some, decide_eq_true_eq]
  have hg : Nat.gcd p b = 1 := hf.2.1
  exact evp (by omega) (evp (by omega) (evb (impl_gcd_ev p b) (evp (by rw [hg]; rfl) (evb hf.2.2.2.2 (Ev.now _)))))
/-- All of these are prime numbers with the greatest order. -/
def Fulls (b : Nat) (L : List Nat) : Prop := ∀ p ∈ L, 2 ≤ p ∧ p ≤ 300 ∧ FullP p b ∧ Ev (fun k => impl_isFull.f k (p : Int) (b : Int)) true
theorem fulls_loop (b : Nat) (most : Int) (hb : 2 ≤ b) (hb2 : b ≤ 16) (hm : most ≤ 300) (d : Nat) : ∀ (p : Nat) (L : List Nat), 2 ≤ p → (most + 1 - (p : Int)).toNat = d → L.length + d ≤ 1000 → Fulls b L →
    ∃ R : List Nat, R.length ≤ 1000 ∧ Fulls b R ∧ Ev (fun k => spec_FullPrimes.l0 k (b : Int) most (ic L) (p : Int)) (ic R, true) ∧ Ev (fun k => impl_FullPrimes.l0 k (b : Int) most (ic L) (p : Int)) (ic R, true) := by
  induction d with
  | zero =>
    intro p L hp hd ho hL
    refine ⟨L, by omega, hL, evs (fun k => by rw [spec_FullPrimes.l0]) ?_, evs (fun k => by rw [impl_FullPrimes.l0]) ?_⟩
    · exact evn (by omega) (Ev.now _)
    · exact evn (by omega) (Ev.now _)
  | succ d ih =>
    intro p L hp hd ho hL
    obtain ⟨t, hs, hi, ht⟩ := fullP_ev p b hp (by omega) hb hb2
    have e1 := w64 (x := (p : Int) + 1) (by omega) (by omega)
    have hlen := ic_length L
    cases t with
    | false =>
      obtain ⟨R, hr, hF, h1, h2⟩ := ih (p + 1) L (by omega) (by omega) (by omega) hL
      refine ⟨R, hr, hF, evs (fun k => by rw [spec_FullPrimes.l0, e1]) ?_, evs (fun k => by rw [impl_FullPrimes.l0, e1]) ?_⟩
      · exact evp (by omega) (evb hs (evn (by simp) h1))
      · exact evp (by omega) (evb hi (evn (by simp) h2))
    | true =>
      obtain ⟨R, hr, hF, h1, h2⟩ := ih (p + 1) (L ++ [p]) (by omega) (by omega) (by simp; omega) (fun q hq => by
        rcases List.mem_append.1 hq with hq | hq
        · exact hL q hq
        · obtain rfl := List.mem_singleton.1 hq
          exact ⟨hp, by omega, ht rfl, hi⟩)
      rw [ic_append, ic_cons, ic_nil] at h1 h2
      refine ⟨R, hr, hF, evs (fun k => by rw [spec_FullPrimes.l0, e1]) ?_, evs (fun k => by rw [impl_FullPrimes.l0, e1]) ?_⟩
      · exact evp (by omega) (evb hs (evp rfl (evp (by omega) h1)))
      · exact evp (by omega) (evb hi (evp rfl (evp (by omega) h2)))
theorem fulls_both (b most : Int) : ∃ (R : List Nat) (t : Bool), R.length ≤ 1000 ∧ (R = [] ∨ (2 ≤ b ∧ b ≤ 16 ∧ Fulls b.toNat R)) ∧ Ev (fun k => spec_FullPrimes.f k b most) (ic R, t) ∧ Ev (fun k => impl_FullPrimes.f k b most) (ic R, t) := by
  simp only [spec_FullPrimes.f, impl_FullPrimes.f, spec_dgBase_eq, spec_l1In_eq, impl_in_eq, impl_isBase_eq, Option.bind_some, decide_eq_true_eq]
  have n1 : Ev (fun k => spec_FullPrimes.j0 k b most true) (ic [], false) := by
    refine evs (fun k => by rw [spec_FullPrimes.j0]) ?_
    exact evp rfl (evr rfl)
  have n2 : Ev (fun k => impl_FullPrimes.j0 k b most true) (ic [], false) := by
    refine evs (fun k => by rw [impl_FullPrimes.j0]) ?_
    exact evp rfl (evr rfl)
  by_cases hb : 2 ≤ b ∧ b ≤ 16
  · by_cases hm : 0 ≤ most ∧ most ≤ 300
    · obtain ⟨b, rfl⟩ := natOf (a := b) (by omega)
      obtain ⟨R, hr, hF, h1, h2⟩ := fulls_loop b most (by omega) (by omega) hm.2 (most + 1 - 2).toNat 2 [] (by omega) rfl (by simp; omega) (fun q hq => by simp at hq)
      rw [ic_nil] at h1 h2
      refine ⟨R, true, hr, Or.inr ⟨hb.1, hb.2, by simpa using hF⟩, evp hb ?_, evp hb ?_⟩
      · refine evs (fun k => by rw [spec_FullPrimes.j0]) ?_
        exact evn (by simp [hm]) h1
      · refine evs (fun k => by rw [impl_FullPrimes.j0]) ?_
        exact evn (by simp [hm]) h2
    · refine ⟨[], false, by simp, Or.inl rfl, evp hb ?_, evp hb ?_⟩
      · simpa [hm] using n1
      · simpa [hm] using n2
  · exact ⟨[], false, by simp, Or.inl rfl, evn hb n1, evn hb n2⟩
theorem l3_ok (b : Nat) (hb : 2 ≤ b) (hb2 : b ≤ 16) (R : List Nat) (hR : Fulls b R) (hl : R.length ≤ 1000) (post : List Nat) : ∀ pre : List Nat, R = pre ++ post → Ev (fun k => laws_FnCyclicNumbers.l3 k (b : Int) (ic R) ((ic R).length : Int) (pre.length : Int)) true := by
  have hlen := ic_length R
  induction post with
  | nil =>
    intro pre hp
    rw [List.append_nil] at hp
    subst hp
    refine evs (fun k => by rw [laws_FnCyclicNumbers.l3]) ?_
    exact evn (by omega) (Ev.now _)
  | cons x post ih =>
    intro pre hp
    obtain ⟨x1, x2, x3, x4⟩ := hR x (by rw [hp]; simp)
    have hl2 : R.length = pre.length + (post.length + 1) := by rw [hp]; simp
    have hrd : rd (ic R) (pre.length : Int) = (x : Int) := by
      rw [hp, ic_append, ic_cons, show ((pre.length : Nat) : Int) = (((ic pre).length : Nat) : Int) by simp [ic], rd_mid]
    have hnext := ih (pre ++ [x]) (by rw [hp]; simp)
    have e2 : (((pre ++ [x]).length : Nat) : Int) = (pre.length : Int) + 1 := by simp
    rw [e2] at hnext
    refine evs (fun k => by rw [laws_FnCyclicNumbers.l3]) ?_
    rw [hrd, w64 (x := (pre.length : Int) + 1) (by omega) (by omega), w64 (x := (x : Int) - 1) (by omega) (by omega)]
    rw [hlen] at hnext ⊢
    exact evp (by omega) (evp (by omega) (evp (by omega) (evb (order_impl x b x1 x2 hb hb2 x3) (evb (cyclic_impl x b x1 x2 hb hb2 x3 x4) (evp rfl (evp rfl (evp rfl hnext)))))))
theorem drawFull_ok (l : List Int) (hl : ∀ x ∈ l, 0 ≤ x ∧ x ≤ 255) : ∃ b m : Int, spec_DrawFullPrimes.f l = some (b, m) := by
  unfold spec_DrawFullPrimes.f spec_l1Cur_one.f
  obtain ⟨v1, p1, s1, e1, a1, b1, c1, d1, f1⟩ := pick_ok l hl 0 0 10 (by omega) (by omega) (by omega)
  simp only [e1, Option.bind_some]
  obtain ⟨v2, p2, s2, e2, d2, f2⟩ := base_ok l hl p1 s1 (by omega) (by omega)
  simp only [e2, Option.bind_some]
  by_cases h : (v1 == 0) = true
  · rw [if_pos h]
    obtain ⟨v4, p4, s4, e4, _, d4, f4⟩ := among_ok l hl p2 s2 [(-1), 300, 301] (by simp) (by simp) (by omega) (by omega)
    simp only [e4, Option.bind_some]
    exact ⟨_, _, rfl⟩
  · rw [if_neg h]
    obtain ⟨v4, p4, s4, e4, _⟩ := pick_ok l hl p2 s2 120 (by omega) (by omega) (by omega)
    simp only [e4, Option.bind_some]
    exact ⟨_, _, rfl⟩
theorem j8_ok (l : List Int) (hl : ∀ x ∈ l, 0 ≤ x ∧ x ≤ 255) : Ev (fun k => laws_FnCyclicNumbers.j8 k l) true := by
  obtain ⟨b, m, e⟩ := drawFull_ok l hl
  refine evs (fun k => by rw [laws_FnCyclicNumbers.j8]) ?_
  simp only [e, Option.bind_some]
  obtain ⟨R, t, h1, h2, h3, h4⟩ := fulls_both b m
  refine evb h4 (evb h3 (evn (by simp) (evb (laws_qSame_self _ (by simp only [ic_length]; omega)) ?_)))
  refine evs (fun k => by rw [laws_FnCyclicNumbers.j9]) ?_
  refine evn (by simp) ?_
  rcases h2 with rfl | ⟨h5, h6, h7⟩
  · refine evs (fun k => by rw [laws_FnCyclicNumbers.l3]) ?_
    exact evn (by simp [ic]) (Ev.now _)
  · obtain ⟨b, rfl⟩ := natOf (a := b) (by omega)
    rw [Int.toNat_natCast] at h7
    exact l3_ok b (by omega) (by omega) R h7 h1 R [] rfl
theorem l2_ok (l : List Int) (p b : Nat) (h1 : 2 ≤ p) (h2 : p ≤ 300) (hb : 2 ≤ b) (hb2 : b ≤ 16) (hf : FullP p b) (T : List Int) (a : Nat) (ha : a < p - 1) (by_ : Nat) (hby : b ^ by_ % p = a + 1) (hby2 : by_ < p - 1)
    (hnext : Ev (fun k => laws_FnCyclicNumbers.l1 k l (p : Int) (b : Int) (ic (digs p b (p - 1) 1)) T ((T.length : Nat) : Int) ((a : Int) + 1)) true) (d : Nat) : ∀ i : Nat, i + d = p - 1 →
    Ev (fun k => laws_FnCyclicNumbers.l2 k l (p : Int) (b : Int) (ic (digs p b (p - 1) 1)) (by_ : Int) (ic (digs p b (p - 1) (a + 1))) T ((T.length : Nat) : Int) (a : Int) (((ic (digs p b (p - 1) (a + 1))).length : Nat) : Int) (i : Int)) true := by
  have hl1 : (ic (digs p b (p - 1) (a + 1))).length = p - 1 := by rw [ic_length, digs_length]
  have hl2 : (ic (digs p b (p - 1) 1)).length = p - 1 := by rw [ic_length, digs_length]
  induction d with
  | zero =>
    intro i hi
    refine evs (fun k => by rw [laws_FnCyclicNumbers.l2]) ?_
    rw [hl1, w64 (x := (a : Int) + 1) (by omega) (by omega)]
    exact evn (by omega) hnext
  | succ d ih =>
    intro i hi
    have h3 := ih (i + 1) (by omega)
    rw [hl1] at h3
    have e1 : (i : Int) + (by_ : Int) = ((i + by_ : Nat) : Int) := by omega
    have hlt : (i + by_) % (p - 1) < p - 1 := Nat.mod_lt _ (by omega)
    obtain ⟨_, _, f1, _⟩ := hf
    have e2 : 1 * b ^ ((i + by_) % (p - 1)) % p = (a + 1) * b ^ i % p := by
      rw [Nat.one_mul, ← pow_mod_per f1, Nat.pow_add, Nat.mul_comm, ← hby, Nat.mod_mul_mod]
    refine evs (fun k => by rw [laws_FnCyclicNumbers.l2]) ?_
    rw [hl1, hl2, e1, w64n _ (by omega), tmod_cast, digs_rd p b (p - 1) (a + 1) i (by omega) (by omega), digs_rd p b (p - 1) 1 _ (by omega) hlt, e2, w64 (x := (i : Int) + 1) (by omega) (by omega)]
    exact evp (by omega) (evp (by omega) (evp (by omega) (evn (by omega) (evp (by omega) (evp (by omega) (evp rfl h3))))))
theorem l1_ok (l : List Int) (hl : ∀ x ∈ l, 0 ≤ x ∧ x ≤ 255) (p b : Nat) (h1 : 2 ≤ p) (h2 : p ≤ 300) (hb : 2 ≤ b) (hb2 : b ≤ 16) (hf : FullP p b) (T : List Int) (hT : T.length = p - 1) (hat : ∀ j, j < p - 1 → rd T ((b ^ j % p - 1 : Nat) : Int) = (j : Int)) (d : Nat) : ∀ a : Nat, a + d = p - 1 →
    Ev (fun k => laws_FnCyclicNumbers.l1 k l (p : Int) (b : Int) (ic (digs p b (p - 1) 1)) T ((T.length : Nat) : Int) (a : Int)) true := by
  induction d with
  | zero =>
    intro a ha
    refine evs (fun k => by rw [laws_FnCyclicNumbers.l1]) ?_
    exact evn (by omega) (j8_ok l hl)
  | succ d ih =>
    intro a ha
    have h3 := ih (a + 1) (by omega)
    have e1 : (((a + 1 : Nat)) : Int) = (a : Int) + 1 := by omega
    rw [e1] at h3
    obtain ⟨j, hj, hj2⟩ := pow_onto h1 (by omega) hf.2.1 hf.2.2.2.1 (a + 1) (by omega) (by omega)
    have hrd := hat j hj
    rw [hj2, Nat.add_sub_cancel] at hrd
    have hr := rep_full p b (a + 1) hf h2 hb hb2 (by omega) (by omega)
    have hlen : (ic (digs p b (p - 1) (a + 1))).length = p - 1 := by rw [ic_length, digs_length]
    have hrep : Ev (fun k => impl_RepetendOf.f k ((a : Int) + 1) (p : Int) (b : Int)) (ic (digs p b (p - 1) (a + 1)), true) := by
      simp only [impl_RepetendOf.f, impl_isFraction_eq, Option.bind_some, decide_eq_true_eq]
      refine evp (by omega) (evb hr.2 (evn (by omega) (Ev.now _)))
    refine evs (fun k => by rw [laws_FnCyclicNumbers.l1]) ?_
    rw [hrd, w64 (x := (a : Int) + 1) (by omega) (by omega), w64 (x := (p : Int) - 1) (by omega) (by omega)]
    refine evp (by omega) (evp (by omega) (evp (by omega) (evb hrep (evp rfl ?_))))
    have e2 : (((((ic (digs p b (p - 1) (a + 1))), true) : List Int × Bool).1.length : Int) != (p : Int) - 1) = false := by
      simp only [hlen, bne_eq_false_iff_eq]
      omega
    rw [e2]
    refine evs (fun k => by rw [laws_FnCyclicNumbers.j6]) ?_
    exact evn (by simp) (l2_ok l p b h1 h2 hb hb2 hf T a (by omega) j hj2 hj h3 (p - 1) 0 (by omega))
theorem drawCyclic_ok (l : List Int) (hl : ∀ x ∈ l, 0 ≤ x ∧ x ≤ 255) : ∃ p b : Int, spec_DrawTurnsOf.f l = some (p, b) := by
  unfold spec_DrawTurnsOf.f spec_DrawCyclicOf.f
  obtain ⟨v1, p1, s1, e1, _, d1, f1⟩ := among_ok l hl 0 0 [2, 3, 5, 7, 17, 19, 23, 29, 13, 293, 307] (by simp) (by simp) (by omega) (by omega)
  simp only [e1, Option.bind_some]
  obtain ⟨v2, p2, s2, e2, d2, f2⟩ := base_ok l hl p1 s1 (by omega) (by omega)
  simp only [e2, Option.bind_some]
  exact ⟨_, _, rfl⟩
theorem j4_no (l : List Int) (hl : ∀ x ∈ l, 0 ≤ x ∧ x ≤ 255) (p b : Int) (T C : List Int) : Ev (fun k => laws_FnCyclicNumbers.j4 k l p b T false C false) true := by
  refine evs (fun k => by rw [laws_FnCyclicNumbers.j4]) ?_
  exact evn (by simp) (evn (by simp) (j8_ok l hl))
theorem turns_yes (p b : Nat) (h1 : 2 ≤ p) (h2 : p ≤ 300) (hb : 2 ≤ b) (hb2 : b ≤ 16) (hf : FullP p b) (hs : Ev (fun k => spec_teFull.f k (p : Int) (b : Int)) true) (hi : Ev (fun k => impl_isFull.f k (p : Int) (b : Int)) true) :
    ∃ T : List Int, T.length = p - 1 ∧ (∀ j, j < p - 1 → rd T ((b ^ j % p - 1 : Nat) : Int) = (j : Int)) ∧ Ev (fun k => spec_TurnsOf.f k (p : Int) (b : Int)) (T, true) ∧ Ev (fun k => impl_TurnsOf.f k (p : Int) (b : Int)) (T, true) := by
  obtain ⟨hp, hc, f1, f2, _⟩ := hf
  have e2 : ((p : Int) - 1).toNat = p - 1 := by omega
  have e0 : b ^ 0 % p = 1 := by rw [Nat.pow_zero, Nat.mod_eq_of_lt (by omega)]
  refine ⟨turnsL p b (p - 1) 1 0 (List.replicate (p - 1) 0), by simp [turnsL_length], fun j hj => ?_, ?_, ?_⟩
  · have h := turnsL_at p b (p - 1) 0 (List.replicate (p - 1) 0) j (by omega) (by omega) (fun u v h3 h4 h5 => pow_inj (by omega) hc f2 h4 (by omega)) (fun v => ⟨pow_pos_mod h1 hc v, by
      have := Nat.mod_lt (b ^ v) (show 0 < p by omega)
      rw [List.length_replicate]
      omega⟩)
    rw [e0] at h
    exact h
  · simp only [spec_TurnsOf.f, spec_teCyclic.f, spec_dgBase_eq, spec_l1In_eq, Option.bind_some, decide_eq_true_eq]
    refine evb (evp (by omega) (evp (by omega) (evb hs (Ev.now _)))) (evp rfl ?_)
    rw [w64 (by omega) (by omega), e2]
    exact evp (by omega) (evp (by omega) (spec_turns_loop p b h1 h2 hb2 hc (p - 1) 1 0 _ (Nat.gcd_one_right p) (by omega) (by omega) (by simp; omega)))
  · simp only [impl_TurnsOf.f, impl_in_eq, impl_isBase_eq, Option.bind_some, decide_eq_true_eq]
    refine evp (by omega) (evp (by omega) (evb hi ?_))
    refine evs (fun k => by rw [impl_TurnsOf.j0]) ?_
    rw [w64 (by omega) (by omega), e2]
    exact evn (by simp) (evp (by omega) (evp (by omega) (impl_turns_loop p b h1 h2 hb2 hc (p - 1) 1 0 _ (Nat.gcd_one_right p) (by omega) (by omega) (by simp; omega))))
theorem j3_ok (l : List Int) (hl : ∀ x ∈ l, 0 ≤ x ∧ x ≤ 255) : Ev (fun k => laws_FnCyclicNumbers.j3 k l) true := by
  obtain ⟨p, b, e⟩ := drawCyclic_ok l hl
  refine evs (fun k => by rw [laws_FnCyclicNumbers.j3]) ?_
  simp only [e, Option.bind_some]
  have no : (Ev (fun k => spec_TurnsOf.f k p b) ([], false) ∧ Ev (fun k => impl_TurnsOf.f k p b) ([], false)) ∧ (Ev (fun k => spec_CyclicOf.f k p b) ([], false) ∧ Ev (fun k => impl_CyclicOf.f k p b) ([], false)) →
      Ev (fun k => (impl_TurnsOf.f k p b).bind fun bt362 => ((spec_TurnsOf.f k p b).bind fun bt366 => ((impl_CyclicOf.f k p b).bind fun bt370 => ((spec_CyclicOf.f k p b).bind fun bt374 => (if (bt362.2 != bt366.2) = true then (laws_FnCyclicNumbers.j4 k l p b bt362.1 bt362.2 bt370.1 true) else ((laws_qSame.f k bt362.1 bt366.1).bind fun t378 => (if t378 = true then (if (bt370.2 != bt374.2) = true then (laws_FnCyclicNumbers.j4 k l p b bt362.1 bt362.2 bt370.1 true) else ((laws_qSame.f k bt370.1 bt374.1).bind fun t379 => (if t379 = true then (laws_FnCyclicNumbers.j4 k l p b bt362.1 bt362.2 bt370.1 (bt370.2 != bt362.2)) else (laws_FnCyclicNumbers.j4 k l p b bt362.1 bt362.2 bt370.1 true)))) else (laws_FnCyclicNumbers.j4 k l p b bt362.1 bt362.2 bt370.1 true)))))))) true := by
    rintro ⟨⟨h1, h2⟩, h3, h4⟩
    refine evb h2 (evb h1 (evb h4 (evb h3 (evn (by simp) (evb (laws_qSame_self _ (by simp)) (evp rfl (evn (by simp) (evb (laws_qSame_self _ (by simp)) (evp rfl ?_)))))))))
    exact j4_no l hl p b [] []
  by_cases hb : 2 ≤ b ∧ b ≤ 16
  · by_cases hp : 2 ≤ p ∧ p ≤ 300
    · obtain ⟨p, rfl⟩ := natOf (a := p) (by omega)
      obtain ⟨b, rfl⟩ := natOf (a := b) (by omega)
      obtain ⟨t, hs, hi, ht⟩ := fullP_ev p b (by omega) (by omega) (by omega) (by omega)
      cases t with
      | false =>
        refine no ?_
        simp only [spec_TurnsOf.f, impl_TurnsOf.f, spec_CyclicOf.f, spec_teCyclic.f, impl_CyclicOf.f, spec_dgBase_eq, spec_l1In_eq, impl_in_eq, impl_isBase_eq, Option.bind_some, decide_eq_true_eq]
        refine ⟨⟨evb (evp hb (evp hp (evb hs (Ev.now _)))) (evn (by simp) (Ev.now _)), evp hb (evp hp (evb hi ?_))⟩, evb (evp hb (evp hp (evb hs (Ev.now _)))) (evn (by simp) (Ev.now _)), evp hb (evp hp (evb hi (evn (by simp) (Ev.now _))))⟩
        refine evs (fun k => by rw [impl_TurnsOf.j0]) ?_
        exact evp rfl (Ev.now _)
      | true =>
        have hf := ht rfl
        obtain ⟨T, t1, t2, t3, t4⟩ := turns_yes p b (by omega) (by omega) (by omega) (by omega) hf hs hi
        have hc := cyclic_impl p b (by omega) (by omega) (by omega) (by omega) hf hi
        have hr := rep_full p b 1 hf (by omega) (by omega) (by omega) (by omega) (by omega)
        have hcs : Ev (fun k => spec_CyclicOf.f k (p : Int) (b : Int)) (ic (digs p b (p - 1) 1), true) := by
          simp only [spec_CyclicOf.f, spec_teCyclic.f, spec_dgBase_eq, spec_l1In_eq, Option.bind_some, decide_eq_true_eq]
          exact evb (evp hb (evp hp (evb hs (Ev.now _)))) (evp rfl (evb hr.1 (Ev.now _)))
        have hlen : (ic (digs p b (p - 1) 1)).length = p - 1 := by rw [ic_length, digs_length]
        refine evb t4 (evb t3 (evb hc (evb hcs (evn (by simp) (evb (laws_qSame_self _ (by simp only; omega)) (evp rfl (evn (by simp) (evb (laws_qSame_self _ (by simp only; omega)) (evp rfl ?_)))))))))
        refine evs (fun k => by rw [laws_FnCyclicNumbers.j4]) ?_
        exact evn (by simp) (evp rfl (l1_ok l hl p b (by omega) (by omega) (by omega) (by omega) hf T t1 t2 (p - 1) 0 (by omega)))
    · refine no ?_
      simp only [spec_TurnsOf.f, impl_TurnsOf.f, spec_CyclicOf.f, spec_teCyclic.f, impl_CyclicOf.f, spec_dgBase_eq, spec_l1In_eq, impl_in_eq, impl_isBase_eq, Option.bind_some, decide_eq_true_eq]
      refine ⟨⟨evb (evp hb (evn hp (Ev.now _))) (evn (by simp) (Ev.now _)), evp hb (evn hp ?_)⟩, evb (evp hb (evn hp (Ev.now _))) (evn (by simp) (Ev.now _)), evp hb (evn hp (Ev.now _))⟩
      refine evs (fun k => by rw [impl_TurnsOf.j0]) ?_
      exact evp rfl (Ev.now _)
  · refine no ?_
    simp only [spec_TurnsOf.f, impl_TurnsOf.f, spec_CyclicOf.f, spec_teCyclic.f, impl_CyclicOf.f, spec_dgBase_eq, spec_l1In_eq, impl_in_eq, impl_isBase_eq, Option.bind_some, decide_eq_true_eq]
    refine ⟨⟨evb (evn hb (Ev.now _)) (evn (by simp) (Ev.now _)), evn hb ?_⟩, evb (evn hb (Ev.now _)) (evn (by simp) (Ev.now _)), evn hb (Ev.now _)⟩
    refine evs (fun k => by rw [impl_TurnsOf.j0]) ?_
    exact evp rfl (Ev.now _)
theorem l0_ok (l : List Int) (hl : ∀ x ∈ l, 0 ≤ x ∧ x ≤ 255) (p b a h : Nat) (hp : IsPr p) (hb : 2 ≤ b) (hb2 : b ≤ 16) (hc : Nat.Coprime p b) (ha : 1 ≤ a) (hap : a < p) (hh : h ≤ 1000) (h2 : b ^ (h + h) % p = 1 % p) (h1 : b ^ h % p ≠ 1 % p) (A B : List Int) (hA : A = ic ((digs p b (h + h) a).take h)) (hB : B = ic ((digs p b (h + h) a).drop h)) (d : Nat) : ∀ i : Nat, i + d = h →
    Ev (fun k => laws_FnCyclicNumbers.l0 k l (b : Int) A B (A.length : Int) (i : Int)) true := by
  have hlA : A.length = h := by rw [hA, ic_length, List.length_take, digs_length]; omega
  have hlB : B.length = h := by rw [hB, ic_length, List.length_drop, digs_length]; omega
  induction d with
  | zero =>
    intro i hi
    refine evs (fun k => by rw [laws_FnCyclicNumbers.l0]) ?_
    exact evn (by omega) (j3_ok l hl)
  | succ d ih =>
    intro i hi
    have hs := halves_sum p b a h i hp hb hc ha hap h2 h1
    have hrA : rd A (i : Int) = ((a * b ^ i % p * b / p : Nat) : Int) := by
      rw [← digs_rd p b (h + h) a i hap (by omega), hA]
      simp only [rd, Int.toNat_natCast, List.getD_eq_getElem?_getD, ic, List.map_take]
      rw [List.getElem?_take_of_lt (by omega)]
    have hrB : rd B (i : Int) = ((a * b ^ (h + i) % p * b / p : Nat) : Int) := by
      rw [← digs_rd p b (h + h) a (h + i) hap (by omega), hB]
      simp only [rd, Int.toNat_natCast, List.getD_eq_getElem?_getD, ic, List.map_drop, List.getElem?_drop]
    obtain ⟨x, hx⟩ : ∃ x, a * b ^ i % p * b / p = x := ⟨_, rfl⟩
    obtain ⟨y, hy⟩ : ∃ y, a * b ^ (h + i) % p * b / p = y := ⟨_, rfl⟩
    rw [hx] at hs hrA
    rw [hy] at hs hrB
    have h3 := ih (i + 1) (by omega)
    refine evs (fun k => by rw [laws_FnCyclicNumbers.l0]) ?_
    rw [hrA, hrB, w64 (x := (x : Int) + (y : Int)) (by omega) (by omega), w64 (x := (b : Int) - 1) (by omega) (by omega), w64 (x := (i : Int) + 1) (by omega) (by omega)]
    exact evp (by omega) (evp (by omega) (evp (by omega) (evp (by omega) (evp (by omega) h3))))
theorem drawHalves_ok (l : List Int) (hl : ∀ x ∈ l, 0 ≤ x ∧ x ≤ 255) : ∃ a p b : Int, spec_DrawHalvesOf.f l = some (a, p, b) := by
  unfold spec_DrawHalvesOf.f
  obtain ⟨v1, p1, s1, e1, h1, d1, f1⟩ := among_ok l hl 0 0 [3, 7, 11, 13, 17, 37, 41, 73, 101, 137, 9, 2, 5] (by simp) (by simp) (by omega) (by omega)
  simp only [e1, Option.bind_some]
  have hv : v1 ≤ 1000000 := by
    simp only [List.mem_cons, List.not_mem_nil, or_false] at h1
    omega
  obtain ⟨v2, p2, s2, e2, a2, b2, c2, d2, f2⟩ := pick_ok l hl p1 s1 v1 (by omega) (by omega) hv
  simp only [e2, Option.bind_some]
  obtain ⟨v3, p3, s3, e3, d3, f3⟩ := base_ok l hl p2 s2 (by omega) (by omega)
  simp only [e3, Option.bind_some]
  exact ⟨_, _, _, rfl⟩
theorem half_ediv (h : Nat) (hh : h ≤ 1000) (n : Nat) (hn : n = h + h) : wrap64 ((n : Int) / 2) = (h : Int) := by
  rw [w64 (by omega) (by omega)]
  omega
theorem half_tdiv (h : Nat) (hh : h ≤ 1000) (n : Nat) (hn : n = h + h) : wrap64 (Int.tdiv (n : Int) 2) = (h : Int) := by
  have e : n / 2 = h := by omega
  rw [show ((2 : Int)) = ((2 : Nat) : Int) from rfl, tdiv_cast, e, w64n _ (by omega)]
/-- What HalvesOf returns: nothing, or both halves of a repetend of even length. -/
theorem halves_info (a n b : Int) : (Ev (fun k => spec_HalvesOf.f k a n b) ([], [], false) ∧ Ev (fun k => impl_HalvesOf.f k a n b) ([], [], false)) ∨
    ∃ (a' p b' h : Nat), a = (a' : Int) ∧ n = (p : Int) ∧ b = (b' : Int) ∧ IsPr p ∧ 2 ≤ b' ∧ b' ≤ 16 ∧ Nat.Coprime p b' ∧ 1 ≤ a' ∧ a' < p ∧ p ≤ 2000 ∧ 1 ≤ h ∧ h + h ≤ 400 ∧ b' ^ (h + h) % p = 1 % p ∧ b' ^ h % p ≠ 1 % p ∧
      Ev (fun k => impl_repetend.f k a n b) (ic (digs p b' (h + h) a')) ∧
      Ev (fun k => spec_HalvesOf.f k a n b) (ic ((digs p b' (h + h) a').take h), ic ((digs p b' (h + h) a').drop h), true) ∧ Ev (fun k => impl_HalvesOf.f k a n b) (ic ((digs p b' (h + h) a').take h), ic ((digs p b' (h + h) a').drop h), true) := by
  have no1 : Ev (fun k => spec_HalvesOf.j0 k a n b true) ([], [], false) := by
    refine evs (fun k => by rw [spec_HalvesOf.j0]) ?_
    exact evp rfl (Ev.now _)
  have no2 : Ev (fun k => impl_HalvesOf.j0 k a n b true) ([], [], false) := by
    refine evs (fun k => by rw [impl_HalvesOf.j0]) ?_
    exact evp rfl (Ev.now _)
  have no3 : ∀ (k : List Int) (x : Int), Ev (fun f => impl_HalvesOf.j1 f k x true) ([], [], false) := by
    intro k x
    refine evs (fun k => by rw [impl_HalvesOf.j1]) ?_
    exact evp rfl (Ev.now _)
  simp only [spec_HalvesOf.f, impl_HalvesOf.f, spec_teFraction_eq, impl_isFraction_eq, Option.bind_some, decide_eq_true_eq]
  by_cases h1 : (2 ≤ b ∧ b ≤ 16) ∧ (1 ≤ n ∧ n ≤ 2000) ∧ 0 ≤ a ∧ a ≤ n - 1
  · by_cases ha : a = 0
    · exact Or.inl ⟨evp h1 (evp ha no1), evp h1 (evp (by omega) no2)⟩
    · obtain ⟨t, hs, hi, ht⟩ := dvPrime_ev n (by omega)
      cases t with
      | false => exact Or.inl ⟨evp h1 (evn ha (evb hs (evn (by simp) no1))), evp h1 (evn (by omega) (evb hi (evn (by simp) no2)))⟩
      | true =>
        obtain ⟨_, hpr⟩ := ht rfl
        obtain ⟨a, rfl⟩ := natOf (a := a) (by omega)
        obtain ⟨p, rfl⟩ := natOf (a := n) (by omega)
        obtain ⟨b, rfl⟩ := natOf (a := b) (by omega)
        rw [Int.toNat_natCast] at hpr
        by_cases h0 : b % p = 0
        · have e : (Int.tmod (b : Int) (p : Int) == 0) = true := by rw [tmod_cast, h0]; rfl
          rw [e]
          exact Or.inl ⟨evp h1 (evn ha (evb hs (evp rfl (evn (by omega) no1)))), evp h1 (evn (by omega) (evb hi (evp rfl (evn (by omega) no2))))⟩
        · have e : (Int.tmod (b : Int) (p : Int) == 0) = false := by rw [tmod_cast]; exact beq_eq_false_iff_ne.2 (by omega)
          rw [e]
          have hc := coprime_of_prime hpr h0
          have hca : Nat.Coprime p a := coprime_of_prime hpr (by rw [Nat.mod_eq_of_lt (by omega)]; omega)
          obtain ⟨q, L, g1, g2, g3, g4, g5, g6⟩ := period_full a p b (by omega) (by omega) (by omega) (by omega)
          obtain ⟨k, k1, k2, k3, k4, _⟩ := order_ev p b (by omega) (by omega) (by omega) (by omega) hc
          obtain ⟨rfl, rfl⟩ := period_order a p b q L k (by omega) (by omega) (by omega) hc hca g1 g3 g4 k1 k3 k4
          obtain ⟨r1, r2⟩ := repetend_full a p b (by omega) (by omega) (by omega) (by omega) 0 L (by omega) g5 g6
          simp only [Nat.zero_add, List.drop_zero] at r1 r2
          have hlen : (ic (digs p b L a)).length = L := by rw [ic_length, digs_length]
          by_cases hL : (L : Int) > 400
          · left
            refine ⟨evp h1 (evn ha (evb hs (evp rfl (evn (by omega) ?_)))), evp h1 (evn (by omega) (evb hi (evp rfl (evn (by omega) ?_))))⟩
            · refine evs (fun k => by rw [spec_HalvesOf.j0]) ?_
              exact evn (by simp) (evb g5 (evp hL (Ev.now _)))
            · refine evs (fun k => by rw [impl_HalvesOf.j0]) ?_
              refine evn (by simp) (evb r2 ?_)
              by_cases ho : (((ic (digs p b L a)).length : Int) % 2) = 1
              · exact evp ho (no3 _ _)
              · have e4 : (decide (((ic (digs p b L a)).length : Int) > 400)) = true := decide_eq_true (by omega)
                rw [e4]
                exact evn ho (no3 _ _)
          · by_cases ho : (((ic (digs p b L a)).length : Int) % 2) = 1
            · left
              refine ⟨evp h1 (evn ha (evb hs (evp rfl (evn (by omega) ?_)))), evp h1 (evn (by omega) (evb hi (evp rfl (evn (by omega) ?_))))⟩
              · refine evs (fun k => by rw [spec_HalvesOf.j0]) ?_
                exact evn (by simp) (evb g5 (evn hL (evb r1 (evp ho (Ev.now _)))))
              · refine evs (fun k => by rw [impl_HalvesOf.j0]) ?_
                exact evn (by simp) (evb r2 (evp ho (no3 _ _)))
            · right
              obtain ⟨h, rfl⟩ : ∃ h, L = h + h := ⟨L / 2, by omega⟩
              have et : (ic (digs p b (h + h) a)).take h = ic ((digs p b (h + h) a).take h) := by simp [ic, List.map_take]
              have ed : (ic (digs p b (h + h) a)).drop h = ic ((digs p b (h + h) a).drop h) := by simp [ic, List.map_drop]
              refine ⟨a, p, b, h, rfl, rfl, rfl, hpr, by omega, by omega, hc, by omega, by omega, by omega, by omega, by omega, k3, k4 h (by omega) (by omega), r2, ?_, ?_⟩
              · refine evp h1 (evn ha (evb hs (evp rfl (evn (by omega) ?_))))
                refine evs (fun k => by rw [spec_HalvesOf.j0]) ?_
                refine evn (by simp) (evb g5 (evn hL (evb r1 (evn ho ?_))))
                rw [half_ediv h (by omega) _ hlen, Int.toNat_natCast]
                refine evp (by omega) (evp (by omega) ?_)
                rw [l1Own_ev _ (by simp; omega), l1Own_ev _ (by simp; omega), et, ed]
                exact Ev.now _
              · refine evp h1 (evn (by omega) (evb hi (evp rfl (evn (by omega) ?_))))
                refine evs (fun k => by rw [impl_HalvesOf.j0]) ?_
                refine evn (by simp) (evb r2 (evn ho ?_))
                refine evs (fun k => by rw [impl_HalvesOf.j1]) ?_
                refine evn (by rw [decide_eq_true_eq]; omega) ?_
                rw [half_tdiv h (by omega) _ hlen, Int.toNat_natCast]
                refine evp (by omega) (evp (by omega) ?_)
                rw [clone_ev _ (by simp; omega), clone_ev _ (by simp; omega), et, ed]
                exact Ev.now _
  · exact Or.inl ⟨evn h1 no1, evn h1 no2⟩
theorem FnCyclicNumbers : laws_FnCyclicNumbers.Pure := by
  intro l0 l1 _ _ w0 _ _ w1
  have hb : ∀ l : List Int, (∀ x ∈ l, (Lit.int .u8 x).wf = true) → ∀ x ∈ l, 0 ≤ x ∧ x ≤ 255 := by
    intro l h x hx
    have := h x hx
    simpa [Lit.wf, IntKind.min, IntKind.max, IntKind.signed, IntKind.bits] using this
  have hl0 := hb l0 w0
  have hl1 := hb l1 w1
  refine Ev.rounds (g := fun k => laws_FnCyclicNumbers.f k l0 l1) ?_
  unfold laws_FnCyclicNumbers.f
  obtain ⟨t, ht⟩ : ∃ t, laws_big.f l0 l1 = some t := by
    unfold laws_big.f
    split <;> exact ⟨_, rfl⟩
  rw [ht]
  simp only [Option.bind_some]
  cases t with
  | true => exact evp rfl (Ev.now _)
  | false =>
    refine evn (by simp) ?_
    obtain ⟨a, n, b, e⟩ := drawHalves_ok l0 hl0
    simp only [e, Option.bind_some]
    rcases halves_info a n b with ⟨hs, hi⟩ | ⟨a', p, b', h, rfl, rfl, rfl, g1, g2, g3, g4, g5, g6, g7, g8, g9, g10, g11, g12, hs, hi⟩
    · refine evb hi (evb hs (evn (by simp) (evb (laws_qSame_self _ (by simp)) (evp rfl (evb (laws_qSame_self _ (by simp)) ?_)))))
      refine evs (fun k => by rw [laws_FnCyclicNumbers.j0]) ?_
      exact evn (by simp) (evn (by simp) (j3_ok l1 hl1))
    · have hl : (digs p b' (h + h) a').length = h + h := digs_length _ _ _ _
      have hlA : (ic ((digs p b' (h + h) a').take h)).length = h := by rw [ic_length, List.length_take, hl]; omega
      have hlB : (ic ((digs p b' (h + h) a').drop h)).length = h := by rw [ic_length, List.length_drop, hl]; omega
      have hW : (ic (digs p b' (h + h) a')).length = h + h := by rw [ic_length, hl]
      have hap : ic ((digs p b' (h + h) a').take h) ++ ic ((digs p b' (h + h) a').drop h) = ic (digs p b' (h + h) a') := by rw [← ic_append, List.take_append_drop]
      have hrep : Ev (fun k => impl_RepetendOf.f k (a' : Int) (p : Int) (b' : Int)) (ic (digs p b' (h + h) a'), true) := by
        simp only [impl_RepetendOf.f, impl_isFraction_eq, Option.bind_some, decide_eq_true_eq]
        exact evp (by omega) (evb g12 (evn (by omega) (Ev.now _)))
      refine evb hi (evb hs (evn (by simp) (evb (laws_qSame_self _ (by simp only; omega)) (evp rfl (evb (laws_qSame_self _ (by simp only; omega)) ?_)))))
      refine evs (fun k => by rw [laws_FnCyclicNumbers.j0]) ?_
      refine evn (by simp) (evp rfl (evb hrep (evp rfl (evp (by simp only; omega) ?_))))
      simp only [Option.bind_some, List.nil_append, List.length_nil, hap]
      refine evp (by omega) (evp (by omega) (evb (laws_qSame_self _ (by omega)) ?_))
      refine evs (fun k => by rw [laws_FnCyclicNumbers.j1]) ?_
      exact evn (by simp) (l0_ok l1 hl1 p b' a' h g1 g2 g3 g4 g5 g6 (by omega) g10 g11 _ _ rfl rfl h 0 (by omega))

end Go.Proofs.Ytikkpehjleoplaa.Pure
