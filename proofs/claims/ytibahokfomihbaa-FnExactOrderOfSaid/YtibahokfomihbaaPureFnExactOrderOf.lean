/- For all numbers n and bases, OrderOf of the program and of the reference agree: both find the least power of the base that leaves 1 by n, or tell that there is none. -/
import Derived.Test.YtibahokfomihbaaPFnExactOrderOfx1
import Derived.Test.YtibahokfomihbaaWMore
set_option linter.unusedVariables false
set_option linter.unusedSimpArgs false
namespace Go.Proofs.Ytibahokfomihbaa.Pure
open Go.RowKit Go.Proofs.Ytibahokfomihbaa.PFnExactOrderOf Go.Proofs.YtibahokfomihbaaW.PrintWords Go.Proofs.YtibahokfomihbaaW.PrintLast

theorem w64 {x : Int} (h1 : -9223372036854775808 ≤ x) (h2 : x ≤ 9223372036854775807) : wrap64 x = x := by unfold wrap64; omega

theorem w64n (n : Nat) (h : n ≤ 9223372036854775807) : wrap64 (n : Int) = (n : Int) := w64 (by omega) (by omega)

theorem evp {α : Type} {c : Prop} [Decidable c] {a b : Nat → Option α} {r : α} (h : c) (k : Ev a r) : Ev (fun n => if c then a n else b n) r := Ev.congr (fun _ => if_pos h) k
theorem evn {α : Type} {c : Prop} [Decidable c] {a b : Nat → Option α} {r : α} (h : ¬ c) (k : Ev b r) : Ev (fun n => if c then a n else b n) r := Ev.congr (fun _ => if_neg h) k
theorem evr {α : Type} {x r : α} (h : x = r) : Ev (fun _ => some x) r := h ▸ Ev.now x
theorem evb {α β : Type} {g : Nat → Option α} {f : Nat → α → Option β} {a : α} {r : β} (h : Ev g a) (k : Ev (fun n => f n a) r) : Ev (fun n => (g n).bind fun x => f n x) r := Ev.bind h k
theorem evs {α : Type} {g f : Nat → Option α} {r : α} (h : ∀ k, g (k + 1) = f k) (k : Ev f r) : Ev g r := Ev.step h k
theorem evu {α : Type} {g : Nat → Option α} {r s : α} (h : Ev g r) (k : Ev g s) : r = s := by
  obtain ⟨K, h⟩ := h
  obtain ⟨L, k⟩ := k
  have := (h (K + L) (by omega)).symm.trans (k (K + L) (by omega))
  injection this

theorem rd_mid (pre post : List Int) (x : Int) : rd (pre ++ x :: post) (pre.length : Int) = x := by simp [rd]
theorem rd_mid' (pre post : List Int) (x i : Int) (h : i = pre.length) : rd (pre ++ x :: post) i = x := by subst h; exact rd_mid pre post x
theorem set_mid {α : Type} (pre post : List α) (x y : α) : (pre ++ x :: post).set pre.length y = pre ++ y :: post := by simp
theorem set_midI {α : Type} (pre post : List α) (x y : α) (i : Int) (h : i = pre.length) : (pre ++ x :: post).set i.toNat y = pre ++ y :: post := by subst h; simp
theorem rd_nat (xs : List Int) (i : Nat) : rd xs (i : Int) = xs.getD i 0 := by simp [rd]
theorem rd_get (xs : List Int) (i : Nat) (h : i < xs.length) : rd xs (i : Int) = xs[i] := by simp [rd, h]
theorem rd_mem (xs : List Int) (i : Int) (h0 : 0 ≤ i) (h : i < xs.length) : rd xs i ∈ xs := by
  have hi : i.toNat < xs.length := by omega
  simp only [rd, List.getD_eq_getElem?_getD, List.getElem?_eq_getElem hi, Option.getD_some]
  exact List.getElem_mem hi
/-- m, m + 1, .. -/
def iota (m : Int) : Nat → List Int
  | 0 => []
  | n + 1 => m :: iota (m + 1) n
theorem iota_length (m : Int) (n : Nat) : (iota m n).length = n := by induction n generalizing m with
  | zero => rfl
  | succ n ih => simp [iota, ih]
/-- A list is cut in two. -/
theorem cut_at {α : Type} (xs : List α) (i : Nat) (h : i < xs.length) : ∃ pre x post, xs = pre ++ x :: post ∧ pre.length = i := by
  refine ⟨xs.take i, xs[i], xs.drop (i + 1), ?_, by simp; omega⟩
  simp
theorem wf64 {x : Int} (h : (Lit.int .i64 x).wf = true) : -9223372036854775808 ≤ x ∧ x ≤ 9223372036854775807 := by
  have h2 : (decide (IntKind.i64.min ≤ x) && decide (x ≤ IntKind.i64.max)) = true := h
  rw [show IntKind.i64.min = -9223372036854775808 from rfl, show IntKind.i64.max = 9223372036854775807 from rfl] at h2
  simpa using h2

theorem impl_in_eq (a b c : Int) : impl_in.f a b c = some (decide (b ≤ a ∧ a ≤ c)) := by
  unfold impl_in.f
  by_cases h : b ≤ a <;> simp [h]
theorem spec_l1In_eq (a b c : Int) : spec_l1In.f a b c = some (decide (b ≤ a ∧ a ≤ c)) := by
  unfold spec_l1In.f
  by_cases h : b ≤ a <;> simp [h]

theorem impl_isBase_eq (b : Int) : impl_isBase.f b = some (decide (2 ≤ b ∧ b ≤ 16)) := by simp only [impl_isBase.f, impl_in_eq, Option.bind_some]
theorem spec_dgBase_eq (b : Int) : spec_dgBase.f b = some (decide (2 ≤ b ∧ b ≤ 16)) := by simp only [spec_dgBase.f, spec_l1In_eq, Option.bind_some]

theorem pigeon (n : Nat) : ∀ f : Nat → Nat, (∀ i, i ≤ n → f i < n) → ∃ i j, i < j ∧ j ≤ n ∧ f i = f j := by
  induction n with
  | zero => intro f h; exact absurd (h 0 (Nat.le_refl _)) (by omega)
  | succ n ih =>
    intro f h
    by_cases hc : ∃ i, i ≤ n ∧ f i = f (n + 1)
    · obtain ⟨i, hi, he⟩ := hc
      exact ⟨i, n + 1, by omega, Nat.le_refl _, he⟩
    · have hv := h (n + 1) (Nat.le_refl _)
      have hne : ∀ i, i ≤ n → f i ≠ f (n + 1) := fun i hi he => hc ⟨i, hi, he⟩
      obtain ⟨i, j, hij, hj, he⟩ := ih (fun i => if f i = n then f (n + 1) else f i) (fun i hi => by
        have h1 := h i (by omega)
        have h2 := hne i hi
        show (if f i = n then f (n + 1) else f i) < n
        split <;> omega)
      refine ⟨i, j, hij, by omega, ?_⟩
      have h1 := hne i (by omega)
      have h2 := hne j hj
      (try simp only at he)
      split at he <;> split at he <;> omega
theorem least_of {P : Nat → Prop} (h : ∃ k, P k) : ∃ k, P k ∧ ∀ j, j < k → ¬ P j := by
  obtain ⟨k, hk⟩ := h
  induction k using Nat.strongRecOn with
  | _ k ih =>
    by_cases hc : ∃ j, j < k ∧ P j
    · obtain ⟨j, hj, hp⟩ := hc
      exact ih j hj hp
    · exact ⟨k, hk, fun j hj hp => hc ⟨j, hj, hp⟩⟩
theorem mod_of_dvd_sub {a n : Nat} (h1 : 1 ≤ a) (h : n ∣ a - 1) : a % n = 1 % n := by
  obtain ⟨q, hq⟩ := h
  have : a = n * q + 1 := by omega
  rw [this, Nat.mul_add_mod]
theorem pow_back (b n : Nat) (hb : 0 < b) (hn : 0 < n) (hc : Nat.Coprime n b) : ∃ k, 1 ≤ k ∧ k ≤ n ∧ b ^ k % n = 1 % n := by
  obtain ⟨i, j, hij, hj, he⟩ := pigeon n (fun i => b ^ i % n) (fun i _ => Nat.mod_lt _ hn)
  refine ⟨j - i, by omega, by omega, mod_of_dvd_sub (Nat.pow_pos hb) ?_⟩
  have h1 := Nat.sub_mod_eq_zero_of_mod_eq he.symm
  have h2 := Nat.dvd_of_mod_eq_zero h1
  have h3 : b ^ j - b ^ i = b ^ i * (b ^ (j - i) - 1) := by
    rw [Nat.mul_sub, ← Nat.pow_add, Nat.mul_one]
    congr 2
    omega
  rw [h3] at h2
  exact Nat.Coprime.dvd_of_dvd_mul_left (Nat.Coprime.pow_right _ hc) h2
theorem tmod_cast (a b : Nat) : Int.tmod (a : Int) (b : Int) = ((a % b : Nat) : Int) := (Int.ofNat_tmod a b).symm
theorem tdiv_cast (a b : Nat) : Int.tdiv (a : Int) (b : Int) = ((a / b : Nat) : Int) := (Int.ofNat_tdiv a b).symm
theorem natOf {a : Int} (h : 0 ≤ a) : ∃ n : Nat, a = (n : Int) := ⟨a.toNat, by omega⟩

theorem spec_teGcd_loop (b : Nat) : ∀ a : Nat, Ev (fun k => spec_teGcd.l0 k (a : Int) (b : Int)) ((Nat.gcd a b : Nat) : Int) := by
  induction b using Nat.strongRecOn with
  | _ b ih =>
    intro a
    refine evs (fun k => by rw [spec_teGcd.l0]) ?_
    by_cases hb : b = 0
    · subst hb
      exact evn (by simp) (evr (by simp))
    · refine evp (by omega) (evn (by omega) ?_)
      rw [tmod_cast, Nat.gcd_comm a b, Nat.gcd_rec, Nat.gcd_comm]
      exact ih (a % b) (Nat.mod_lt _ (by omega)) b
theorem spec_teGcd_ev (a b : Nat) : Ev (fun k => spec_teGcd.f k (a : Int) (b : Int)) ((Nat.gcd a b : Nat) : Int) := spec_teGcd_loop b a
theorem impl_gcd_loop (b : Nat) : ∀ a : Nat, Ev (fun k => impl_gcd.l0 k (a : Int) (b : Int)) ((Nat.gcd a b : Nat) : Int) := by
  induction b using Nat.strongRecOn with
  | _ b ih =>
    intro a
    refine evs (fun k => by rw [impl_gcd.l0]) ?_
    by_cases hb : b = 0
    · subst hb
      exact evp (by simp) (evr (by simp))
    · refine evn (by omega) ?_
      rw [tmod_cast, Nat.gcd_comm a b, Nat.gcd_rec, Nat.gcd_comm]
      exact ih (a % b) (Nat.mod_lt _ (by omega)) b
theorem impl_gcd_ev (a b : Nat) : Ev (fun k => impl_gcd.f k (a : Int) (b : Int)) ((Nat.gcd a b : Nat) : Int) := impl_gcd_loop b a

theorem order_loop (n b : Nat) (hn : 0 < n) (hn2 : n ≤ 2000) (hb2 : b ≤ 16) (d : Nat) : ∀ k : Nat, 1 ≤ k → k + d ≤ n → b ^ (k + d) % n = 1 % n → (∀ j, k ≤ j → j < k + d → b ^ j % n ≠ 1 % n) →
    Ev (fun f => spec_teOrder.l0 f (n : Int) (b : Int) (k : Int) ((b ^ k % n : Nat) : Int)) ((k + d : Nat) : Int) := by
  induction d with
  | zero =>
    intro k h1 h2 h3 h4
    refine evs (fun k => by rw [spec_teOrder.l0]) ?_
    refine evn (by omega) (evp ?_ (Ev.now _))
    rw [Nat.add_zero] at h3
    rw [h3]
    rfl
  | succ d ih =>
    intro k h1 h2 h3 h4
    refine evs (fun k => by rw [spec_teOrder.l0]) ?_
    have hne := h4 k (Nat.le_refl _) (by omega)
    have hlt : b ^ k % n < n := Nat.mod_lt _ hn
    refine evn (by omega) (evn (fun e => hne ?_) ?_)
    · exact Int.ofNat.inj e
    · have hm : b ^ k % n * b ≤ 2000 * 16 := Nat.mul_le_mul (by omega) hb2
      have e1 : ((b ^ k % n : Nat) : Int) * (b : Int) = ((b ^ k % n * b : Nat) : Int) := by simp
      rw [e1, w64n _ (by omega), tmod_cast, w64 (x := (k : Int) + 1) (by omega) (by omega), Nat.mod_mul_mod, ← Nat.pow_succ]
      have h5 := ih (k + 1) (by omega) (by omega) (by rw [show k + 1 + d = k + (d + 1) by omega]; exact h3) (fun j hj hj2 => h4 j (by omega) (by omega))
      rw [show k + 1 + d = k + (d + 1) by omega] at h5
      exact h5
theorem order_ev (n b : Nat) (hn : 0 < n) (hn2 : n ≤ 2000) (hb : 0 < b) (hb2 : b ≤ 16) (hc : Nat.Coprime n b) :
    ∃ k : Nat, 1 ≤ k ∧ k ≤ n ∧ b ^ k % n = 1 % n ∧ (∀ j, 1 ≤ j → j < k → b ^ j % n ≠ 1 % n) ∧ Ev (fun f => spec_teOrder.f f (n : Int) (b : Int)) (k : Int) := by
  obtain ⟨k0, h1, h2, h3⟩ := pow_back b n hb hn hc
  obtain ⟨k, ⟨hk1, hk2⟩, hk3⟩ := least_of (P := fun k => 1 ≤ k ∧ b ^ k % n = 1 % n) ⟨k0, h1, h3⟩
  have hkn : k ≤ n := by
    by_cases h : k ≤ n
    · exact h
    · exact absurd ⟨h1, h3⟩ (hk3 k0 (by omega))
  have hmin : ∀ j, 1 ≤ j → j < k → b ^ j % n ≠ 1 % n := fun j hj hj2 he => hk3 j hj2 ⟨hj, he⟩
  refine ⟨k, hk1, hkn, hk2, hmin, ?_⟩
  unfold spec_teOrder.f
  refine evn (by omega) ?_
  have h := order_loop n b hn hn2 hb2 (k - 1) 1 (by omega) (by omega) (by rw [show 1 + (k - 1) = k by omega]; exact hk2) (fun j hj hj2 => hmin j hj (by omega))
  rw [Nat.pow_one, show 1 + (k - 1) = k by omega] at h
  rw [tmod_cast]
  exact h
theorem order_same_loop : ∀ (k : Nat) (a b c d : Int), impl_order.l0 k a b c d = spec_teOrder.l0 k a b c d
  | 0, _, _, _, _ => rfl
  | k + 1, a, b, c, d => by simp only [impl_order.l0, spec_teOrder.l0, order_same_loop k]
theorem order_same (k : Nat) (a b : Int) : impl_order.f k a b = spec_teOrder.f k a b := by simp only [impl_order.f, spec_teOrder.f, order_same_loop]

theorem orderOf_both (n b : Int) : ∃ r, Ev (fun k => spec_OrderOf.f k n b) r ∧ Ev (fun k => impl_OrderOf.f k n b) r := by
  simp only [spec_OrderOf.f, impl_OrderOf.f, spec_dgBase_eq, spec_l1In_eq, impl_in_eq, impl_isBase_eq, Option.bind_some, decide_eq_true_eq]
  by_cases hb : 2 ≤ b ∧ b ≤ 16
  · by_cases hn : 1 ≤ n ∧ n ≤ 2000
    · obtain ⟨n, rfl⟩ := natOf (a := n) (by omega)
      obtain ⟨b, rfl⟩ := natOf (a := b) (by omega)
      by_cases hg : Nat.gcd n b = 1
      · obtain ⟨k, h1, h2, h3, h4, h5⟩ := order_ev n b (by omega) (by omega) (by omega) (by omega) hg
        refine ⟨((k : Int), true), evp hb (evp hn (evb (spec_teGcd_ev n b) (evn (by omega) (evb h5 (Ev.now _))))), evp hn (evp hb (evb (impl_gcd_ev n b) (evp (by omega) (evb ?_ (Ev.now _)))))⟩
        simpa only [order_same] using h5
      · have : 0 < Nat.gcd n b := Nat.gcd_pos_of_pos_left _ (by omega)
        exact ⟨(0, false), evp hb (evp hn (evb (spec_teGcd_ev n b) (evp (by omega) (Ev.now _)))), evp hn (evp hb (evb (impl_gcd_ev n b) (evn (by omega) (Ev.now _))))⟩
    · exact ⟨(0, false), evp hb (evn hn (Ev.now _)), evn hn (Ev.now _)⟩
  · refine ⟨(0, false), evn hb (Ev.now _), ?_⟩
    by_cases hn : 1 ≤ n ∧ n ≤ 2000
    · exact evp hn (evn hb (Ev.now _))
    · exact evn hn (Ev.now _)
theorem FnExactOrderOf : laws_FnExactOrderOf.Pure := by
  intro n b _ _
  obtain ⟨r, hs, hi⟩ := orderOf_both n b
  refine Ev.rounds (g := fun k => laws_FnExactOrderOf.f k n b) ?_
  unfold laws_FnExactOrderOf.f
  exact evb hs (evb hi (evp rfl (evn (by simp) (Ev.now _))))

end Go.Proofs.Ytibahokfomihbaa.Pure
