/- For all codes: proper runs go on by proper sums and end as told; circles come back to themselves. -/
import Derived.Test.YtiheocddlopfcaaPFnProperRunsx7
import Derived.Test.YtiheocddlopfcaaWMore
set_option linter.unusedVariables false
set_option linter.unusedSimpArgs false
namespace Go.Proofs.Ytiheocddlopfcaa.Pure
open Go.RowKit Go.Proofs.Ytiheocddlopfcaa.PFnProperRuns Go.Proofs.YtiheocddlopfcaaW.PrintWords Go.Proofs.YtiheocddlopfcaaW.PrintLast

theorem w64 {x : Int} (h1 : -9223372036854775808 ≤ x) (h2 : x ≤ 9223372036854775807) : wrap64 x = x := by unfold wrap64; omega

theorem w64n (n : Nat) (h : n ≤ 9223372036854775807) : wrap64 (n : Int) = (n : Int) := w64 (by omega) (by omega)

theorem evp {α : Type} {c : Prop} [Decidable c] {a b : Nat → Option α} {r : α} (h : c) (k : Ev a r) : Ev (fun n => if c then a n else b n) r := Ev.congr (fun _ => if_pos h) k
theorem evn {α : Type} {c : Prop} [Decidable c] {a b : Nat → Option α} {r : α} (h : ¬ c) (k : Ev b r) : Ev (fun n => if c then a n else b n) r := Ev.congr (fun _ => if_neg h) k
theorem evr {α : Type} {x r : α} (h : x = r) : Ev (fun _ => some x) r := h ▸ Ev.now x
theorem evb {α β : Type} {g : Nat → Option α} {f : Nat → α → Option β} {a : α} {r : β} (h : Ev g a) (k : Ev (fun n => f n a) r) : Ev (fun n => (g n).bind fun x => f n x) r := Ev.bind h k
theorem evc {α β : Type} {x : Option α} {a : α} {f : Nat → α → Option β} {r : β} (h : x = some a) (k : Ev (fun n => f n a) r) : Ev (fun n => x.bind fun y => f n y) r := by subst h; exact k
theorem evs {α : Type} {g f : Nat → Option α} {r : α} (h : ∀ k, g (k + 1) = f k) (k : Ev f r) : Ev g r := Ev.step h k
theorem rd_mid (pre post : List Int) (x : Int) : rd (pre ++ x :: post) (pre.length : Int) = x := by simp [rd]
theorem rd_get (xs : List Int) (i : Nat) (h : i < xs.length) : rd xs (i : Int) = xs[i] := by simp [rd, h]
theorem rd_mem (xs : List Int) (i : Int) (h0 : 0 ≤ i) (h : i < xs.length) : rd xs i ∈ xs := by
  have hi : i.toNat < xs.length := by omega
  simp only [rd, List.getD_eq_getElem?_getD, List.getElem?_eq_getElem hi, Option.getD_some]
  exact List.getElem_mem hi
def ic (l : List Nat) : List Int := l.map (fun x : Nat => (x : Int))
theorem ic_cons (x : Nat) (l : List Nat) : ic (x :: l) = (x : Int) :: ic l := rfl
theorem ic_append (l m : List Nat) : ic (l ++ m) = ic l ++ ic m := by simp [ic]
theorem ic_length (l : List Nat) : (ic l).length = l.length := by simp [ic]
theorem ic_drop (l : List Nat) (k : Nat) : (ic l).drop k = ic (l.drop k) := by simp [ic, List.map_drop]
def IsPr (p : Nat) : Prop := 2 ≤ p ∧ ∀ d, 2 ≤ d → d < p → ¬ d ∣ p
def lprod : List Nat → Nat
  | [] => 1
  | x :: l => x * lprod l
theorem lprod_pos {l : List Nat} (h : ∀ q ∈ l, 0 < q) : 0 < lprod l := by
  induction l with
  | nil => decide
  | cons x l ih => exact Nat.mul_pos (h x (by simp)) (ih (fun q hq => h q (by simp [hq])))
def Fac (L : List Nat) (n p : Nat) : Prop := (∀ q ∈ L, IsPr q ∧ p ≤ q) ∧ lprod L = n ∧ L.Pairwise (· ≤ ·)
theorem prime_of_big {n p : Nat} (hn : 1 < n) (hd : ∀ d, 2 ≤ d → d < p → ¬ d ∣ n) (hp : n < p * p) : IsPr n := by
  refine ⟨hn, fun d h2 h3 hdv => ?_⟩
  have h4 : p ≤ d := by
    by_cases h : p ≤ d
    · exact h
    · exact absurd hdv (hd d h2 (by omega))
  obtain ⟨e, he⟩ := hdv
  have h5 : 2 ≤ e := by
    rcases e with _ | _ | e
    · omega
    · omega
    · omega
  have h6 : p ≤ e := by
    by_cases h : p ≤ e
    · exact h
    · exact absurd ⟨d, by rw [he, Nat.mul_comm]⟩ (hd e h5 (by omega))
  have : p * p ≤ d * e := Nat.mul_le_mul h4 h6
  omega

def dvS : List Nat → Nat → Nat → Nat → Nat → Nat → Nat → Nat × Nat
  | [], sum, many, _, _, k, part => (sum * part, many * (k + 1))
  | q :: L, sum, many, p, power, k, part => if q = p then dvS L sum many p (power * p) (k + 1) (part + power * p) else dvS L (sum * part) (many * (k + 1)) q q 1 (1 + q)
def dvL : List Nat → Nat × Nat
  | [] => (1, 1)
  | q :: L => dvS L 1 1 q q 1 (1 + q)
def DvB (D sum many p power k part R : Nat) : Prop := 1 ≤ sum ∧ sum ≤ D * D ∧ 1 ≤ many ∧ many ≤ D ∧ 2 ≤ p ∧ p ≤ power ∧ 1 ≤ k ∧ k + 1 ≤ power ∧ 1 ≤ part ∧ part + 1 ≤ 2 * power ∧ D * power * R ≤ 1000000000 ∧ 1 ≤ R
theorem DvB.D1 {D sum many p power k part R : Nat} (h : DvB D sum many p power k part R) : 1 ≤ D := by
  obtain ⟨_, _, h3, h4, _⟩ := h
  omega
theorem DvB.fits {D sum many p power k part R : Nat} (h : DvB D sum many p power k part R) : D * power ≤ 1000000000 ∧ power ≤ 1000000000 ∧ D ≤ 1000000000 ∧ sum * part ≤ (D * power) * (D * power) ∧ many * (k + 1) ≤ D * power ∧ sum * part ≤ 1000000000000000000 ∧ sum ≤ 1000000000000000000 := by
  have hD := h.D1
  obtain ⟨h1, h2, h3, h4, h5, h6, h7, h8, h9, h10, h11, h12⟩ := h
  have a1 : D * power * 1 ≤ D * power * R := Nat.mul_le_mul_left _ h12
  have a2 : 1 * power ≤ D * power := Nat.mul_le_mul_right _ hD
  have a3 : D * 1 ≤ D * power := Nat.mul_le_mul_left _ (by omega)
  have a4 : 2 * power ≤ power * power := Nat.mul_le_mul_right _ (by omega)
  have a5 : sum * part ≤ (D * D) * (power * power) := Nat.mul_le_mul h2 (by omega)
  have a6 : (D * D) * (power * power) = (D * power) * (D * power) := by
    rw [Nat.mul_mul_mul_comm]
  have a7 : many * (k + 1) ≤ D * power := Nat.mul_le_mul h4 h8
  have a8 : (D * power) * (D * power) ≤ 1000000000 * 1000000000 := Nat.mul_le_mul (by omega) (by omega)
  have a9 : D * D ≤ 1000000000 * 1000000000 := Nat.mul_le_mul (by omega) (by omega)
  omega
theorem DvB.same {D sum many p power k part R : Nat} (h : DvB D sum many p power k part (p * R)) : DvB D sum many p (power * p) (k + 1) (part + power * p) R := by
  obtain ⟨h1, h2, h3, h4, h5, h6, h7, h8, h9, h10, h11, h12⟩ := h
  have a1 : power * 2 ≤ power * p := Nat.mul_le_mul_left _ h5
  have hR : 1 ≤ R := by
    rcases R with _ | R
    · simp at h12
    · omega
  refine ⟨h1, h2, h3, h4, h5, by omega, by omega, by omega, by omega, by omega, ?_, hR⟩
  rw [← Nat.mul_assoc] at h11
  rw [← Nat.mul_assoc]
  exact h11
theorem DvB.next {D sum many p power k part q R : Nat} (h : DvB D sum many p power k part (q * R)) (hq : 2 ≤ q) : DvB (D * power) (sum * part) (many * (k + 1)) q q 1 (1 + q) R := by
  have hf := h.fits
  obtain ⟨h1, h2, h3, h4, h5, h6, h7, h8, h9, h10, h11, h12⟩ := h
  have hR : 1 ≤ R := by
    rcases R with _ | R
    · simp at h12
    · omega
  have b1 : 1 * 1 ≤ sum * part := Nat.mul_le_mul h1 h9
  have b2 : 1 * 1 ≤ many * (k + 1) := Nat.mul_le_mul h3 (by omega)
  refine ⟨by omega, hf.2.2.2.1, by omega, hf.2.2.2.2.1, hq, Nat.le_refl _, by omega, by omega, by omega, by omega, ?_, hR⟩
  rw [← Nat.mul_assoc] at h11
  exact h11
theorem DvB.first {q R : Nat} (hq : 2 ≤ q) (hR : 1 ≤ R) (h : q * R ≤ 1000000000) : DvB 1 1 1 q q 1 (1 + q) R := ⟨by omega, by omega, by omega, by omega, hq, Nat.le_refl _, by omega, by omega, by omega, by omega, by rw [Nat.one_mul]; exact h, hR⟩

def rot {α : Type} (k : Nat) (l : List α) : List α := l.drop k ++ l.take k
theorem rot_len {α : Type} (k : Nat) (l : List α) (h : k ≤ l.length) : (rot k l).length = l.length := by simp [rot]; omega
theorem rot_get {α : Type} (k : Nat) (l : List α) (h : k < l.length) (i : Nat) (hi : i < l.length) : (rot k l)[i]'(by rw [rot_len k l (by omega)]; exact hi) = l[(i + k) % l.length]'(Nat.mod_lt _ (by omega)) := by
  unfold rot
  by_cases h2 : i < (l.drop k).length
  · rw [List.getElem_append_left h2]
    rw [List.length_drop] at h2
    simp only [List.getElem_drop]
    congr 1
    rw [Nat.mod_eq_of_lt (by omega), Nat.add_comm]
  · rw [List.getElem_append_right (by omega)]
    rw [List.length_drop] at h2
    simp only [List.getElem_take, List.length_drop]
    congr 1
    rw [Nat.mod_eq_sub_mod (by omega), Nat.mod_eq_of_lt (by omega)]
    omega
theorem rot_mem {α : Type} (k : Nat) (l : List α) (x : α) : x ∈ rot k l ↔ x ∈ l := by
  unfold rot
  rw [List.mem_append, Or.comm, ← List.mem_append, List.take_append_drop]
theorem rot_nodup {α : Type} (k : Nat) (l : List α) (h : l.Nodup) : (rot k l).Nodup := by
  unfold rot
  have h2 := h
  rw [← List.take_append_drop k l, List.nodup_append] at h2
  exact List.nodup_append.2 ⟨h2.2.1, h2.1, fun a ha b hb e => h2.2.2 b hb a ha e.symm⟩
def leastI (l : List Int) : Int := l.foldl min (l.headD 0)
theorem foldmin_le (l : List Int) : ∀ a : Int, l.foldl min a ≤ a ∧ (∀ x ∈ l, l.foldl min a ≤ x) ∧ (l.foldl min a = a ∨ l.foldl min a ∈ l) := by
  induction l with
  | nil => intro a; simp
  | cons y l ih =>
    intro a
    obtain ⟨h1, h2, h3⟩ := ih (min a y)
    simp only [List.foldl_cons]
    refine ⟨by omega, fun x hx => ?_, ?_⟩
    · rcases List.mem_cons.1 hx with rfl | hx
      · omega
      · exact h2 x hx
    · rcases h3 with h3 | h3
      · by_cases h : a ≤ y
        · left; omega
        · right; rw [h3, show min a y = y by omega]; exact List.mem_cons_self
      · right; exact List.mem_cons_of_mem _ h3
theorem leastI_le (l : List Int) (x : Int) (h : x ∈ l) : leastI l ≤ x := (foldmin_le l _).2.1 x h
theorem leastI_mem (l : List Int) (h : l ≠ []) : leastI l ∈ l := by
  cases l with
  | nil => exact absurd rfl h
  | cons a l =>
    rcases (foldmin_le (a :: l) ((a :: l).headD 0)).2.2 with h2 | h2
    · unfold leastI
      rw [h2]
      exact List.mem_cons_self
    · exact h2
def leastFirst (l : List Int) : List Int := rot (l.idxOf (leastI l)) l
theorem leastFirst_mem (l : List Int) (x : Int) : x ∈ leastFirst l ↔ x ∈ l := rot_mem _ _ _
theorem leastFirst_len (l : List Int) : (leastFirst l).length = l.length := by
  unfold leastFirst
  exact rot_len _ _ List.idxOf_le_length
theorem leastFirst_zero (l : List Int) (h : l ≠ []) : (leastFirst l)[0]'(by rw [leastFirst_len]; exact List.length_pos_iff.2 h) = leastI l := by
  have hm := leastI_mem l h
  have hi := List.idxOf_lt_length_iff.2 hm
  have := rot_get (l.idxOf (leastI l)) l hi 0 (List.length_pos_iff.2 h)
  unfold leastFirst
  rw [this]
  simp only [Nat.zero_add, Nat.mod_eq_of_lt hi]
  exact List.getElem_idxOf hi
theorem leastFirst_round (l : List Int) (h : l ≠ []) (s : Int → Int) (hr : ∀ i (hi : i < l.length), s l[i] = l[(i + 1) % l.length]'(Nat.mod_lt _ (by omega))) (i : Nat) (hi : i < l.length) :
    s ((leastFirst l)[i]'(by rw [leastFirst_len]; exact hi)) = (leastFirst l)[(i + 1) % l.length]'(by rw [leastFirst_len]; exact Nat.mod_lt _ (by omega)) := by
  have hk := List.idxOf_lt_length_iff.2 (leastI_mem l h)
  unfold leastFirst
  rw [rot_get _ l hk i hi, rot_get _ l hk _ (Nat.mod_lt _ (by omega)), hr]
  congr 1
  simp [Nat.add_right_comm]

def idxI (x : Int) : List Int → Nat → Int
  | [], _ => -1
  | y :: l, i => if x = y then (i : Int) else idxI x l (i + 1)
theorem idxI_ge (x : Int) (l : List Int) : ∀ i : Nat, (0 ≤ idxI x l i ↔ x ∈ l) ∧ -1 ≤ idxI x l i := by
  induction l with
  | nil => intro i; simp [idxI]
  | cons y l ih =>
    intro i
    by_cases h : x = y
    · simp [idxI, h]
      try omega
    · have := ih (i + 1)
      simp [idxI, h, this]

theorem impl_in_eq (a b c : Int) : impl_in.f a b c = some (decide (b ≤ a ∧ a ≤ c)) := by
  unfold impl_in.f
  by_cases h : b ≤ a <;> simp [h]
theorem spec_l1In_eq (a b c : Int) : spec_l1In.f a b c = some (decide (b ≤ a ∧ a ≤ c)) := by
  unfold spec_l1In.f
  by_cases h : b ≤ a <;> simp [h]

theorem tmod_cast (a b : Nat) : Int.tmod (a : Int) (b : Int) = ((a % b : Nat) : Int) := (Int.ofNat_tmod a b).symm
theorem tdiv_cast (a b : Nat) : Int.tdiv (a : Int) (b : Int) = ((a / b : Nat) : Int) := (Int.ofNat_tdiv a b).symm
theorem natOf {a : Int} (h : 0 ≤ a) : ∃ n : Nat, a = (n : Int) := ⟨a.toNat, by omega⟩

theorem dvFactors_l1 (M : Nat) : ∀ (n p : Nat) (out : List Int), 1 ≤ n → n ≤ 1000000000 → 2 ≤ p → p ≤ 31623 → out.length + n ≤ 2000000000 → (∀ d, 2 ≤ d → d < p → ¬ d ∣ n) → n + (40000 - p) ≤ M →
    ∃ L, Fac L n p ∧ Ev (fun k => spec_dvFactors.l1 k (n : Int) out (p : Int)) (out ++ ic L) := by
  induction M with
  | zero => intro n p out h1 h2 h3 h4 h5 h6 h7; omega
  | succ M ih =>
    intro n p out h1 h2 h3 h4 h5 h6 h7
    by_cases hd : n % p = 0
    · obtain ⟨m, rfl⟩ := Nat.dvd_of_mod_eq_zero hd
      have hm : 1 ≤ m := by
        rcases m with _ | m
        · omega
        · omega
      have hm2 : 2 * m ≤ p * m := Nat.mul_le_mul_right m h3
      have h9' : m + (40000 - p) ≤ M := by omega
      obtain ⟨L, ⟨hL1, hL2, hL3⟩, hev⟩ := ih m p (out ++ [(p : Int)]) hm (by omega) h3 h4 (by simp; omega) (fun d h8 h9 h10 => h6 d h8 h9 (Nat.dvd_trans h10 (Nat.dvd_mul_left m p))) h9'
      refine ⟨p :: L, ⟨fun q hq => ?_, by simp [lprod, hL2], List.pairwise_cons.2 ⟨fun q hq => (hL1 q hq).2, hL3⟩⟩, ?_⟩
      · rcases List.mem_cons.1 hq with rfl | hq
        · exact ⟨⟨h3, fun d h8 h9 h10 => h6 d h8 h9 (Nat.dvd_trans h10 (Nat.dvd_mul_right _ m))⟩, Nat.le_refl _⟩
        · exact hL1 q hq
      · refine evs (fun k => by rw [spec_dvFactors.l1]) ?_
        rw [tmod_cast, tdiv_cast, hd]
        refine evn (by omega) (evp (by simp) (evp (by omega) ?_))
        rw [Nat.mul_div_cancel_left m (by omega : 0 < p), w64 (by omega) (by omega)]
        simpa [ic_cons] using hev
    · have hdv : ¬ p ∣ n := fun h => hd (Nat.mod_eq_zero_of_dvd h)
      have h6' : ∀ d, 2 ≤ d → d < p + 1 → ¬ d ∣ n := by
        intro d h8 h9 h10
        by_cases he : d = p
        · subst he; exact hdv h10
        · exact h6 d h8 (by omega) h10
      have hsq : ((p + 1 : Nat) : Int) * ((p + 1 : Nat) : Int) = (((p + 1) * (p + 1) : Nat) : Int) := by simp
      have hb : (p + 1) * (p + 1) ≤ 31624 * 31624 := Nat.mul_le_mul (by omega) (by omega)
      have key : ∃ L, Fac L n (p + 1) ∧ Ev (fun k => spec_dvFactors.l0 k (n : Int) out ((p + 1 : Nat) : Int)) (out ++ ic L) := by
        by_cases hc : (p + 1) * (p + 1) ≤ n
        · have hp : p + 1 ≤ 31623 := by
            by_cases h : p + 1 ≤ 31623
            · exact h
            · have : 31624 * 31624 ≤ (p + 1) * (p + 1) := Nat.mul_le_mul (by omega) (by omega)
              omega
          obtain ⟨L, hL, hev⟩ := ih n (p + 1) out h1 h2 (by omega) hp h5 h6' (by omega)
          refine ⟨L, hL, evs (fun k => by rw [spec_dvFactors.l0]) ?_⟩
          rw [hsq, w64 (by omega) (by omega)]
          exact evp (by omega) hev
        · by_cases hn : 1 < n
          · refine ⟨[n], ⟨fun q hq => ?_, by simp [lprod], by simp⟩, evs (fun k => by rw [spec_dvFactors.l0]) ?_⟩
            · rw [List.mem_singleton.1 hq]
              have hpr := prime_of_big hn h6' (by omega)
              refine ⟨hpr, ?_⟩
              by_cases h : p + 1 ≤ n
              · exact h
              · exact absurd (Nat.dvd_refl n) (h6' n (by omega) (by omega))
            · rw [hsq, w64 (by omega) (by omega)]
              exact evn (by omega) (evp (by omega) (evp (by omega) (evr (by simp [ic]))))
          · obtain rfl : n = 1 := by omega
            refine ⟨[], ⟨by simp, by simp [lprod], by simp⟩, evs (fun k => by rw [spec_dvFactors.l0]) ?_⟩
            rw [hsq, w64 (by omega) (by omega)]
            exact evn (by omega) (evn (by omega) (evr (by simp [ic])))
      obtain ⟨L, ⟨hL1, hL2, hL3⟩, hev⟩ := key
      refine ⟨L, ⟨fun q hq => ⟨(hL1 q hq).1, by have := (hL1 q hq).2; omega⟩, hL2, hL3⟩, evs (fun k => by rw [spec_dvFactors.l1]) ?_⟩
      rw [tmod_cast]
      refine evn (by omega) (evn (by omega) ?_)
      rw [w64 (by omega) (by omega)]
      exact hev
theorem dvFactors_ev (n : Nat) (h1 : 1 ≤ n) (h2 : n ≤ 1000000000) : ∃ L, Fac L n 2 ∧ Ev (fun k => spec_dvFactors.f k (n : Int)) (ic L) := by
  unfold spec_dvFactors.f
  by_cases hc : 4 ≤ n
  · obtain ⟨M, hM⟩ : ∃ M, n + (40000 - 2) ≤ M := ⟨_, Nat.le_refl _⟩
    obtain ⟨L, hL, hev⟩ := dvFactors_l1 M n 2 [] h1 h2 (by omega) (by omega) (by simp; omega) (fun d h8 h9 => by omega) hM
    refine ⟨L, hL, evs (fun k => by rw [spec_dvFactors.l0]) ?_⟩
    rw [w64 (by omega) (by omega)]
    exact evp (by omega) (by simpa using hev)
  · by_cases hn : 1 < n
    · refine ⟨[n], ⟨fun q hq => ?_, by simp [lprod], by simp⟩, evs (fun k => by rw [spec_dvFactors.l0]) ?_⟩
      · rw [List.mem_singleton.1 hq]
        exact ⟨prime_of_big (p := 2) hn (fun d h8 h9 => by omega) (by omega), by omega⟩
      · rw [w64 (by omega) (by omega)]
        exact evn (by omega) (evp (by omega) (evp (by simp) (evr (by simp [ic]))))
    · obtain rfl : n = 1 := by omega
      refine ⟨[], ⟨by simp, by simp [lprod], by simp⟩, evs (fun k => by rw [spec_dvFactors.l0]) ?_⟩
      rw [w64 (by omega) (by omega)]
      exact evn (by omega) (evn (by omega) (evr (by simp [ic])))
theorem factors_same_loop : ∀ (k : Nat), (∀ (a : Int) (b : List Int) (c : Int), impl_factors.l0 k a b c = spec_dvFactors.l0 k a b c) ∧ (∀ (a : Int) (b : List Int) (c : Int), impl_factors.l1 k a b c = spec_dvFactors.l1 k a b c)
  | 0 => ⟨fun _ _ _ => rfl, fun _ _ _ => rfl⟩
  | k + 1 => ⟨fun a b c => by simp only [impl_factors.l0, spec_dvFactors.l0, factors_same_loop k], fun a b c => by simp only [impl_factors.l1, spec_dvFactors.l1, factors_same_loop k]⟩
theorem factors_same (k : Nat) (a : Int) : impl_factors.f k a = spec_dvFactors.f k a := by simp only [impl_factors.f, spec_dvFactors.f, factors_same_loop]
theorem factors_ev {n : Nat} {L : List Nat} (h : Ev (fun k => spec_dvFactors.f k (n : Int)) (ic L)) : Ev (fun k => impl_factors.f k (n : Int)) (ic L) := by simpa only [factors_same] using h

theorem spec_dvNumber_eq (n : Int) : spec_dvNumber.f n = some (decide (1 ≤ n ∧ n ≤ 1000000000)) := by simp only [spec_dvNumber.f, spec_l1In_eq, Option.bind_some]
theorem impl_isDivided_eq (n : Int) : impl_isDivided.f n = some (decide (1 ≤ n ∧ n ≤ 1000000000)) := by simp only [impl_isDivided.f, impl_in_eq, Option.bind_some]

theorem dvSums_loop (whole : List Int) (L : List Nat) : ∀ (pre : List Int) (D sum many p power k part : Nat), whole = pre ++ ic L → whole.length ≤ 1000000000000 → (∀ q ∈ L, 2 ≤ q) → DvB D sum many p power k part (lprod L) →
    Ev (fun f => spec_dvSums.l1 f (sum : Int) (many : Int) whole (pre.length : Int) (p : Int) (power : Int) (k : Int) (part : Int)) (((dvS L sum many p power k part).1 : Int), ((dvS L sum many p power k part).2 : Int)) := by
  induction L with
  | nil =>
    intro pre D sum many p power k part hw hlen hq hB
    have hf := hB.fits
    obtain ⟨h1, h2, h3, h4, h5, h6, h7, h8, h9, h10, h11, h12⟩ := hB
    have hl : whole.length = pre.length := by simp [hw, ic]
    have e1 : (sum : Int) * (part : Int) = ((sum * part : Nat) : Int) := by simp
    have e2 : (many : Int) * (((k + 1 : Nat)) : Int) = ((many * (k + 1) : Nat) : Int) := by simp
    have e3 : (k : Int) + 1 = ((k + 1 : Nat) : Int) := by simp
    refine evs (fun k => by rw [spec_dvSums.l1]) ?_
    rw [w64 (x := (k : Int) + 1) (by omega) (by omega), e3, e1, e2, w64n (sum * part) (by omega), w64n (many * (k + 1)) (by omega)]
    refine evn (by omega) (evs (fun k => by rw [spec_dvSums.l0]) ?_)
    exact evn (by omega) (evr rfl)
  | cons q L ih =>
    intro pre D sum many p power k part hw hlen hq hB
    have hf := hB.fits
    have hB0 := hB
    obtain ⟨h1, h2, h3, h4, h5, h6, h7, h8, h9, h10, h11, h12⟩ := hB
    rw [ic_cons] at hw
    have hl : whole.length = pre.length + (L.length + 1) := by simp [hw, ic]
    have hx : rd whole (pre.length : Int) = (q : Int) := by rw [hw, rd_mid]
    have hw2 : whole = (pre ++ [(q : Int)]) ++ ic L := by simp [hw]
    have hq2 := hq q (by simp)
    have hqL : ∀ x ∈ L, 2 ≤ x := fun x hx => hq x (by simp [hx])
    refine evs (fun k => by rw [spec_dvSums.l1]) ?_
    rw [hx]
    refine evp (by omega) (evp (by omega) ?_)
    by_cases hqp : q = p
    · subst hqp
      have hB2 := DvB.same hB0
      have hf2 := hB2.fits
      have e1 : (power : Int) * (q : Int) = ((power * q : Nat) : Int) := by simp
      have e2 : (part : Int) + ((power * q : Nat) : Int) = ((part + power * q : Nat) : Int) := by simp
      have e3 : (k : Int) + 1 = ((k + 1 : Nat) : Int) := by simp
      refine evp rfl ?_
      rw [e1, w64 (x := ((power * q : Nat) : Int)) (by omega) (by omega), e2, w64 (x := ((part + power * q : Nat) : Int)) (by omega) (by omega), w64 (x := (k : Int) + 1) (by omega) (by omega), w64 (x := (pre.length : Int) + 1) (by omega) (by omega), e3]
      have h := ih (pre ++ [(q : Int)]) D sum many q (power * q) (k + 1) (part + power * q) hw2 hlen hqL hB2
      simpa [dvS] using h
    · have hB2 := DvB.next hB0 hq2
      have hf2 := hB2.fits
      have e1 : (sum : Int) * (part : Int) = ((sum * part : Nat) : Int) := by simp
      have e2 : (many : Int) * (((k + 1 : Nat)) : Int) = ((many * (k + 1) : Nat) : Int) := by simp
      have e3 : (k : Int) + 1 = ((k + 1 : Nat) : Int) := by simp
      refine evn (by omega) ?_
      rw [w64 (x := (k : Int) + 1) (by omega) (by omega), e3, e1, e2, w64n (sum * part) (by omega), w64n (many * (k + 1)) (by omega)]
      refine evs (fun k => by rw [spec_dvSums.l0]) ?_
      refine evp (by omega) (evp (by omega) ?_)
      rw [hx]
      refine evs (fun k => by rw [spec_dvSums.l1]) ?_
      rw [hx]
      refine evp (by omega) (evp (by omega) (evp rfl ?_))
      rw [Int.one_mul, w64 (x := (q : Int)) (by omega) (by omega), w64 (x := (pre.length : Int) + 1) (by omega) (by omega), w64 (x := (0 : Int) + 1) (by omega) (by omega), w64 (x := (1 : Int) + (q : Int)) (by omega) (by omega)]
      have h := ih (pre ++ [(q : Int)]) (D * power) (sum * part) (many * (k + 1)) q q 1 (1 + q) hw2 hlen hqL hB2
      simpa [dvS, hqp] using h
theorem dvSums_run (L : List Nat) (hlen : L.length ≤ 1000000000000) (hq : ∀ q ∈ L, 2 ≤ q) (hn : lprod L ≤ 1000000000) :
    Ev (fun f => spec_dvSums.l0 f 1 1 (ic L) 0) (((dvL L).1 : Int), ((dvL L).2 : Int)) := by
  cases L with
  | nil =>
    refine evs (fun k => by rw [spec_dvSums.l0]) ?_
    exact evn (by simp [ic]) (evr rfl)
  | cons q L =>
    have hq2 := hq q (by simp)
    have hqL : ∀ x ∈ L, 2 ≤ x := fun x hx => hq x (by simp [hx])
    have hR := lprod_pos (l := L) (fun x hx => by have := hqL x hx; omega)
    have hB := DvB.first hq2 hR hn
    have hf := hB.fits
    have hx : rd (ic (q :: L)) 0 = (q : Int) := by simp [ic, rd]
    have hl : (ic (q :: L)).length = L.length + 1 := by simp [ic]
    refine evs (fun k => by rw [spec_dvSums.l0]) ?_
    refine evp (by omega) (evp (by omega) (evs (fun k => by rw [spec_dvSums.l1]) ?_))
    rw [hx]
    refine evp (by omega) (evp (by omega) (evp rfl ?_))
    rw [Int.one_mul, w64 (x := (q : Int)) (by omega) (by omega), w64 (x := (0 : Int) + 1) (by omega) (by omega), w64 (x := (1 : Int) + (q : Int)) (by omega) (by omega)]
    have h := dvSums_loop (ic (q :: L)) L [(q : Int)] 1 1 1 q q 1 (1 + q) rfl (by simp only [List.length_cons] at hlen; omega) hqL hB
    simpa [dvL] using h
theorem divisors_loop (L : List Nat) : ∀ (D sum many p power k part : Nat), L.length ≤ 1000000000000 → (∀ q ∈ L, 2 ≤ q) → part * p + 1 = part + power * p → DvB D sum many p power k part (lprod L) →
    Ev (fun f => impl_divisors.l1 f (sum : Int) (many : Int) (ic L) (part : Int) (k : Int) (p : Int)) (((dvS L sum many p power k part).1 : Int), ((dvS L sum many p power k part).2 : Int)) := by
  induction L with
  | nil =>
    intro D sum many p power k part hlen hq hP hB
    have hf := hB.fits
    obtain ⟨h1, h2, h3, h4, h5, h6, h7, h8, h9, h10, h11, h12⟩ := hB
    have e1 : (sum : Int) * (part : Int) = ((sum * part : Nat) : Int) := by simp
    have e2 : (many : Int) * (((k + 1 : Nat)) : Int) = ((many * (k + 1) : Nat) : Int) := by simp
    have e3 : (k : Int) + 1 = ((k + 1 : Nat) : Int) := by simp
    refine evs (fun k => by rw [impl_divisors.l1]) ?_
    rw [w64 (x := (k : Int) + 1) (by omega) (by omega), e3, e1, e2, w64n (sum * part) (by omega), w64n (many * (k + 1)) (by omega)]
    refine evn (by simp [ic]) (evs (fun k => by rw [impl_divisors.l0]) ?_)
    exact evn (by simp [ic]) (evr rfl)
  | cons q L ih =>
    intro D sum many p power k part hlen hq hP hB
    have hf := hB.fits
    have hB0 := hB
    obtain ⟨h1, h2, h3, h4, h5, h6, h7, h8, h9, h10, h11, h12⟩ := hB
    have hx : rd (ic (q :: L)) 0 = (q : Int) := by simp [ic, rd]
    have hl : (ic (q :: L)).length = L.length + 1 := by simp [ic]
    have hdr : (ic (q :: L)).drop (1 : Int).toNat = ic L := by simp [ic]
    have hq2 := hq q (by simp)
    have hqL : ∀ x ∈ L, 2 ≤ x := fun x hx => hq x (by simp [hx])
    simp only [List.length_cons] at hlen
    refine evs (fun k => by rw [impl_divisors.l1]) ?_
    rw [hx, hdr]
    refine evp (by omega) (evp (by omega) ?_)
    by_cases hqp : q = p
    · subst hqp
      have hB2 := DvB.same hB0
      have hf2 := hB2.fits
      have e1 : (part : Int) * (q : Int) = ((part * q : Nat) : Int) := by simp
      have e2 : ((part * q : Nat) : Int) + 1 = ((part + power * q : Nat) : Int) := by rw [← hP]; simp
      have e3 : (k : Int) + 1 = ((k + 1 : Nat) : Int) := by simp
      refine evp rfl (evp (by omega) ?_)
      obtain ⟨g1, g2, g3, g4, g5, g6, g7, g8, g9, g10, g11, g12⟩ := hB2
      rw [e1, w64 (x := ((part * q : Nat) : Int)) (by omega) (by omega), e2, w64 (x := ((part + power * q : Nat) : Int)) (by omega) (by omega), w64 (x := (k : Int) + 1) (by omega) (by omega), e3]
      have hP2 : (part + power * q) * q + 1 = (part + power * q) + power * q * q := by
        rw [Nat.add_mul]
        omega
      have h := ih D sum many q (power * q) (k + 1) (part + power * q) (by omega) hqL hP2 (DvB.same hB0)
      simpa [dvS] using h
    · have hB2 := DvB.next hB0 hq2
      have hf2 := hB2.fits
      have e1 : (sum : Int) * (part : Int) = ((sum * part : Nat) : Int) := by simp
      have e2 : (many : Int) * (((k + 1 : Nat)) : Int) = ((many * (k + 1) : Nat) : Int) := by simp
      have e3 : (k : Int) + 1 = ((k + 1 : Nat) : Int) := by simp
      refine evn (by omega) ?_
      rw [w64 (x := (k : Int) + 1) (by omega) (by omega), e3, e1, e2, w64n (sum * part) (by omega), w64n (many * (k + 1)) (by omega)]
      refine evs (fun k => by rw [impl_divisors.l0]) ?_
      refine evp (by omega) (evp (by omega) ?_)
      rw [hx]
      refine evs (fun k => by rw [impl_divisors.l1]) ?_
      rw [hx, hdr]
      refine evp (by omega) (evp (by omega) (evp rfl (evp (by omega) ?_)))
      rw [Int.one_mul, w64 (x := (q : Int)) (by omega) (by omega), w64 (x := (0 : Int) + 1) (by omega) (by omega), w64 (x := (q : Int) + 1) (by omega) (by omega)]
      have h := ih (D * power) (sum * part) (many * (k + 1)) q q 1 (1 + q) (by omega) hqL (by rw [Nat.add_mul]; omega) hB2
      have e4 : (((1 + q : Nat)) : Int) = (q : Int) + 1 := by omega
      rw [e4] at h
      simpa [dvS, hqp] using h
theorem divisors_run (L : List Nat) (hlen : L.length ≤ 1000000000000) (hq : ∀ q ∈ L, 2 ≤ q) (hn : lprod L ≤ 1000000000) :
    Ev (fun f => impl_divisors.l0 f 1 1 (ic L)) (((dvL L).1 : Int), ((dvL L).2 : Int)) := by
  cases L with
  | nil =>
    refine evs (fun k => by rw [impl_divisors.l0]) ?_
    exact evn (by simp [ic]) (evr rfl)
  | cons q L =>
    have hq2 := hq q (by simp)
    have hqL : ∀ x ∈ L, 2 ≤ x := fun x hx => hq x (by simp [hx])
    have hR := lprod_pos (l := L) (fun x hx => by have := hqL x hx; omega)
    have hB := DvB.first hq2 hR hn
    have hf := hB.fits
    have hx : rd (ic (q :: L)) 0 = (q : Int) := by simp [ic, rd]
    have hl : (ic (q :: L)).length = L.length + 1 := by simp [ic]
    have hdr : (ic (q :: L)).drop (1 : Int).toNat = ic L := by simp [ic]
    simp only [List.length_cons] at hlen
    refine evs (fun k => by rw [impl_divisors.l0]) ?_
    refine evp (by omega) (evp (by omega) (evs (fun k => by rw [impl_divisors.l1]) ?_))
    rw [hx, hdr]
    refine evp (by omega) (evp (by omega) (evp rfl (evp (by omega) ?_)))
    rw [Int.one_mul, w64 (x := (q : Int)) (by omega) (by omega), w64 (x := (0 : Int) + 1) (by omega) (by omega), w64 (x := (q : Int) + 1) (by omega) (by omega)]
    have h := divisors_loop L 1 1 1 q q 1 (1 + q) (by omega) hqL (by rw [Nat.add_mul]; omega) hB
    have e4 : (((1 + q : Nat)) : Int) = (q : Int) + 1 := by omega
    rw [e4] at h
    simpa [dvL] using h
theorem two_pow_le_lprod (L : List Nat) (hq : ∀ q ∈ L, 2 ≤ q) : L.length + 1 ≤ lprod L := by
  induction L with
  | nil => decide
  | cons q L ih =>
    have h1 := hq q (by simp)
    have h2 := ih (fun x hx => hq x (by simp [hx]))
    have h3 : 2 * lprod L ≤ q * lprod L := Nat.mul_le_mul_right _ h1
    simp only [List.length_cons, lprod]
    omega
theorem dv_ev (n : Nat) (h1 : 1 ≤ n) (h2 : n ≤ 1000000000) : ∃ L, Fac L n 2 ∧ Ev (fun k => spec_dvFactors.f k (n : Int)) (ic L) ∧
    Ev (fun k => spec_dvSums.f k (n : Int)) (((dvL L).1 : Int), ((dvL L).2 : Int)) ∧ Ev (fun k => impl_divisors.f k (n : Int)) (((dvL L).1 : Int), ((dvL L).2 : Int)) := by
  obtain ⟨L, hL, hev⟩ := dvFactors_ev n h1 h2
  have hq : ∀ q ∈ L, 2 ≤ q := fun q hq => (hL.1 q hq).2
  have hlen := two_pow_le_lprod L hq
  rw [hL.2.1] at hlen
  exact ⟨L, hL, hev, evb hev (dvSums_run L (by omega) hq (by rw [hL.2.1]; exact h2)), evb (factors_ev hev) (divisors_run L (by omega) hq (by rw [hL.2.1]; exact h2))⟩

theorem dvS_bound (L : List Nat) : ∀ (D sum many p power k part : Nat), (∀ q ∈ L, 2 ≤ q) → DvB D sum many p power k part (lprod L) → 1 ≤ (dvS L sum many p power k part).1 ∧ (dvS L sum many p power k part).1 ≤ 1000000000000000000 := by
  induction L with
  | nil =>
    intro D sum many p power k part hq hB
    have hf := hB.fits
    obtain ⟨h1, h2, h3, h4, h5, h6, h7, h8, h9, h10, h11, h12⟩ := hB
    have b1 : 1 * 1 ≤ sum * part := Nat.mul_le_mul h1 h9
    simp only [dvS]
    omega
  | cons q L ih =>
    intro D sum many p power k part hq hB
    have hqL : ∀ x ∈ L, 2 ≤ x := fun x hx => hq x (by simp [hx])
    by_cases hqp : q = p
    · subst hqp
      simp only [dvS, if_true]
      exact ih _ _ _ _ _ _ _ hqL (DvB.same hB)
    · simp only [dvS, if_neg hqp]
      exact ih _ _ _ _ _ _ _ hqL (DvB.next hB (hq q (by simp)))
theorem dvL_bound (L : List Nat) (hq : ∀ q ∈ L, 2 ≤ q) (hn : lprod L ≤ 1000000000) : 1 ≤ (dvL L).1 ∧ (dvL L).1 ≤ 1000000000000000000 := by
  cases L with
  | nil => simp [dvL]
  | cons q L =>
    have hqL : ∀ x ∈ L, 2 ≤ x := fun x hx => hq x (by simp [hx])
    exact dvS_bound L _ _ _ _ _ _ _ hqL (DvB.first (hq q (by simp)) (lprod_pos (fun x hx => by have := hqL x hx; omega)) hn)
def dvs (n : Nat) : List Nat := (List.range (n + 1)).filter fun d => decide (1 ≤ d ∧ n % d = 0)
def sg (n : Nat) : Nat := (dvs n).sum
def tau (n : Nat) : Nat := (dvs n).length
theorem mem_dvs {n d : Nat} (hn : 1 ≤ n) : d ∈ dvs n ↔ d ∣ n := by
  simp only [dvs, List.mem_filter, List.mem_range, decide_eq_true_eq]
  constructor
  · intro h
    exact Nat.dvd_of_mod_eq_zero h.2.2
  · intro h
    have h1 := Nat.le_of_dvd (by omega) h
    have h2 := Nat.pos_of_dvd_of_pos h (by omega)
    exact ⟨by omega, h2, Nat.mod_eq_zero_of_dvd h⟩
theorem nodup_dvs (n : Nat) : (dvs n).Nodup := List.Pairwise.filter _ List.nodup_range
theorem pr_coprime {p d : Nat} (hp : IsPr p) (h : ¬ p ∣ d) : Nat.Coprime p d := by
  have h1 := Nat.gcd_dvd_left p d
  have h2 := Nat.gcd_dvd_right p d
  have h3 := Nat.le_of_dvd (by have := hp.1; omega) h1
  have h4 : 0 < Nat.gcd p d := Nat.gcd_pos_of_pos_left _ (by have := hp.1; omega)
  show Nat.gcd p d = 1
  by_cases h5 : Nat.gcd p d = p
  · rw [h5] at h2
    exact absurd h2 h
  · by_cases h6 : Nat.gcd p d = 1
    · exact h6
    · exact absurd h1 (hp.2 _ (by omega) (by omega))
theorem pr_mul {p a b : Nat} (hp : IsPr p) (h : p ∣ a * b) : p ∣ a ∨ p ∣ b := by
  by_cases h1 : p ∣ a
  · exact Or.inl h1
  · exact Or.inr ((pr_coprime hp h1).dvd_of_dvd_mul_left h)
theorem pr_eq {p q : Nat} (hp : IsPr p) (hq : IsPr q) (h : p ∣ q) : p = q := by
  have h1 := Nat.le_of_dvd (by have := hq.1; omega) h
  by_cases h2 : p = q
  · exact h2
  · exact absurd h (hq.2 p hp.1 (by omega))
theorem pr_lprod {p : Nat} (hp : IsPr p) (L : List Nat) (hL : ∀ q ∈ L, IsPr q) (h : p ∣ lprod L) : p ∈ L := by
  induction L with
  | nil =>
    have h1 := Nat.le_of_dvd (by decide) h
    have := hp.1
    simp only [lprod] at h1
    omega
  | cons q L ih =>
    rcases pr_mul hp h with h1 | h1
    · rw [pr_eq hp (hL q (by simp)) h1]
      simp
    · exact List.mem_cons_of_mem _ (ih (fun x hx => hL x (by simp [hx])) h1)
theorem dvd_split {p m : Nat} (hp : IsPr p) (k : Nat) : ∀ d : Nat, d ∣ p ^ (k + 1) * m → d ∣ p ^ k * m ∨ ∃ e, e ∣ m ∧ p ^ (k + 1) * e = d := by
  have hp0 : 0 < p := by have := hp.1; omega
  induction k with
  | zero =>
    intro d h
    rw [Nat.pow_one] at h
    by_cases hd : p ∣ d
    · obtain ⟨e, rfl⟩ := hd
      exact Or.inr ⟨e, Nat.dvd_of_mul_dvd_mul_left hp0 h, by rw [Nat.pow_one]⟩
    · left
      rw [Nat.pow_zero, Nat.one_mul]
      exact (pr_coprime hp hd).symm.dvd_of_dvd_mul_left h
  | succ k ih =>
    intro d h
    have e1 : p ^ (k + 1 + 1) * m = p * (p ^ (k + 1) * m) := by rw [Nat.pow_succ p (k + 1), Nat.mul_comm (p ^ (k + 1)) p, Nat.mul_assoc]
    rw [e1] at h
    by_cases hd : p ∣ d
    · obtain ⟨e, rfl⟩ := hd
      rcases ih e (Nat.dvd_of_mul_dvd_mul_left hp0 h) with h2 | ⟨x, h3, h4⟩
      · left
        rw [Nat.pow_succ, Nat.mul_comm (p ^ k) p, Nat.mul_assoc]
        exact Nat.mul_dvd_mul_left p h2
      · exact Or.inr ⟨x, h3, by rw [← h4, Nat.pow_succ p (k + 1), Nat.mul_comm (p ^ (k + 1)) p, Nat.mul_assoc]⟩
    · left
      exact (pr_coprime hp hd).symm.dvd_of_dvd_mul_left h
theorem dvs_perm {p m : Nat} (hp : IsPr p) (hm : 1 ≤ m) (hpm : ¬ p ∣ m) (k : Nat) : (dvs (p ^ (k + 1) * m)).Perm (dvs (p ^ k * m) ++ (dvs m).map (fun e => p ^ (k + 1) * e)) := by
  have hp0 : 0 < p := by have := hp.1; omega
  have hk : 0 < p ^ k := Nat.pow_pos hp0
  have hk1 : 0 < p ^ (k + 1) := Nat.pow_pos hp0
  have e1 : 1 ≤ p ^ k * m := Nat.mul_pos hk hm
  have e2 : 1 ≤ p ^ (k + 1) * m := Nat.mul_pos hk1 hm
  refine (List.perm_ext_iff_of_nodup (nodup_dvs _) (List.nodup_append.2 ⟨nodup_dvs _, ?_, ?_⟩)).2 fun d => ?_
  · refine List.Pairwise.map _ ?_ (nodup_dvs m)
    intro a b hab he
    exact hab (Nat.eq_of_mul_eq_mul_left hk1 he)
  · intro a ha b hb he
    subst he
    rw [mem_dvs e1] at ha
    obtain ⟨e, _, rfl⟩ := List.mem_map.1 hb
    rw [Nat.pow_succ, Nat.mul_assoc] at ha
    have h3 := Nat.dvd_of_mul_dvd_mul_left hk ha
    exact hpm (Nat.dvd_trans (Nat.dvd_mul_right p e) h3)
  · rw [mem_dvs e2, List.mem_append, mem_dvs e1, List.mem_map]
    constructor
    · intro h
      rcases dvd_split hp k d h with h2 | ⟨e, h3, h4⟩
      · exact Or.inl h2
      · exact Or.inr ⟨e, (mem_dvs hm).2 h3, h4⟩
    · rintro (h | ⟨e, h3, h4⟩)
      · refine Nat.dvd_trans h ?_
        rw [Nat.pow_succ, Nat.mul_assoc]
        exact Nat.mul_dvd_mul_left _ (Nat.dvd_mul_left m p)
      · rw [← h4]
        exact Nat.mul_dvd_mul_left _ ((mem_dvs hm).1 h3)
theorem sum_map_mul (c : Nat) (L : List Nat) : (L.map (fun e => c * e)).sum = c * L.sum := by
  induction L with
  | nil => simp
  | cons x L ih => simp only [List.map_cons, List.sum_cons, ih, Nat.mul_add]
def geo (p : Nat) : Nat → Nat
  | 0 => 1
  | k + 1 => geo p k + p ^ k * p
theorem sg_pow {p m : Nat} (hp : IsPr p) (hm : 1 ≤ m) (hpm : ¬ p ∣ m) (k : Nat) : sg (p ^ k * m) = geo p k * sg m ∧ tau (p ^ k * m) = (k + 1) * tau m := by
  induction k with
  | zero => simp [geo]
  | succ k ih =>
    have h := dvs_perm hp hm hpm k
    have h1 := h.sum_nat
    have h2 := h.length_eq
    rw [List.sum_append, sum_map_mul] at h1
    rw [List.length_append, List.length_map] at h2
    constructor
    · show (dvs (p ^ (k + 1) * m)).sum = _
      rw [h1]
      show sg (p ^ k * m) + p ^ (k + 1) * sg m = _
      rw [ih.1, geo, Nat.add_mul, Nat.pow_succ]
    · show (dvs (p ^ (k + 1) * m)).length = _
      rw [h2]
      show tau (p ^ k * m) + tau m = _
      rw [ih.2, Nat.add_mul (k + 1), Nat.one_mul]
theorem sg_one : sg 1 = 1 ∧ tau 1 = 1 := by decide
theorem dvS_sg (L : List Nat) : ∀ (sum many p k : Nat), IsPr p → 1 ≤ k → (∀ q ∈ L, IsPr q ∧ p ≤ q) → L.Pairwise (· ≤ ·) →
    dvS L sum many p (p ^ k) k (geo p k) = (sum * sg (p ^ k * lprod L), many * tau (p ^ k * lprod L)) := by
  induction L with
  | nil =>
    intro sum many p k hp hk hq hs
    have h := sg_pow (m := 1) hp (Nat.le_refl _) (fun h => by have := Nat.le_of_dvd (by decide) h; have := hp.1; omega) k
    simp only [dvS, lprod]
    rw [h.1, h.2, sg_one.1, sg_one.2, Nat.mul_one, Nat.mul_one]
  | cons q L ih =>
    intro sum many p k hp hk hq hs
    have hq1 := hq q (by simp)
    have hs2 := List.pairwise_cons.1 hs
    simp only [dvS, lprod]
    by_cases hqp : q = p
    · subst hqp
      rw [if_pos rfl]
      have h := ih sum many q (k + 1) hp (by omega) (fun x hx => hq x (by simp [hx])) hs2.2
      rw [Nat.pow_succ, Nat.mul_assoc] at h
      exact h
    · rw [if_neg hqp]
      have h := ih (sum * geo p k) (many * (k + 1)) q 1 hq1.1 (by omega) (fun x hx => ⟨(hq x (by simp [hx])).1, hs2.1 x hx⟩) hs2.2
      have hg : geo q 1 = 1 + q := by simp [geo]
      rw [Nat.pow_one, hg] at h
      rw [h]
      have hm : 1 ≤ q * lprod L := lprod_pos (l := q :: L) (fun x hx => by have := (hq x hx).1.1; omega)
      have hpm : ¬ p ∣ q * lprod L := fun hd => by
        have h3 := pr_lprod hp (q :: L) (fun x hx => (hq x hx).1) hd
        rcases List.mem_cons.1 h3 with h4 | h4
        · exact hqp h4.symm
        · have h5 := hs2.1 p h4
          omega
      have h6 := sg_pow hp hm hpm k
      rw [h6.1, h6.2, Nat.mul_assoc, Nat.mul_assoc]
theorem dvL_sg {L : List Nat} {n : Nat} (h : Fac L n 2) : dvL L = (sg n, tau n) := by
  obtain ⟨h1, h2, h3⟩ := h
  cases L with
  | nil =>
    simp only [lprod] at h2
    subst h2
    rw [sg_one.1, sg_one.2]
    rfl
  | cons q L =>
    have hs := List.pairwise_cons.1 h3
    have h := dvS_sg L 1 1 q 1 (h1 q (by simp)).1 (by omega) (fun x hx => ⟨(h1 x (by simp [hx])).1, hs.1 x hx⟩) hs.2
    have hg : geo q 1 = 1 + q := by simp [geo]
    rw [Nat.pow_one, hg, Nat.one_mul, Nat.one_mul] at h
    simp only [dvL]
    rw [h, ← h2]
    rfl
theorem sg_bound (n : Nat) (h1 : 1 ≤ n) (h2 : n ≤ 1000000000) {L : List Nat} (hL : Fac L n 2) : 1 ≤ sg n ∧ sg n ≤ 1000000000000000000 := by
  have h := dvL_bound L (fun q hq => (hL.1 q hq).2) (by rw [hL.2.1]; exact h2)
  rw [dvL_sg hL] at h
  exact h
theorem dv_info (n : Nat) (h1 : 1 ≤ n) (h2 : n ≤ 1000000000) : 1 ≤ sg n ∧ sg n ≤ 1000000000000000000 ∧
    Ev (fun k => spec_dvSums.f k (n : Int)) ((sg n : Int), (tau n : Int)) ∧ Ev (fun k => impl_divisors.f k (n : Int)) ((sg n : Int), (tau n : Int)) := by
  obtain ⟨L, hL, _, hs, hi⟩ := dv_ev n h1 h2
  have hb := sg_bound n h1 h2 hL
  rw [dvL_sg hL] at hs hi
  exact ⟨hb.1, hb.2, hs, hi⟩
theorem proper_info (n : Nat) (h1 : 1 ≤ n) (h2 : n ≤ 1000000000) : Ev (fun k => spec_dvProper.f k (n : Int)) ((sg n : Int) - (n : Int)) ∧ Ev (fun k => impl_proper.f k (n : Int)) ((sg n : Int) - (n : Int)) := by
  obtain ⟨a, b, hs, hi⟩ := dv_info n h1 h2
  exact ⟨evb hs (evr (w64 (by omega) (by omega))), evb hi (evr (w64 (by omega) (by omega)))⟩

theorem dvS_ge (L : List Nat) : ∀ (sum many p power k part : Nat), 1 ≤ sum → 1 ≤ part → part * p + 1 = part + power * p → (∀ q ∈ L, 2 ≤ q) →
    sum * part * lprod L ≤ (dvS L sum many p power k part).1 ∧ (L ≠ [] → sum * part * lprod L + 1 ≤ (dvS L sum many p power k part).1) := by
  induction L with
  | nil => intro sum many p power k part h1 h2 h3 h4; simp [dvS, lprod]
  | cons q L ih =>
    intro sum many p power k part h1 h2 h3 h4
    have h4L : ∀ x ∈ L, 2 ≤ x := fun x hx => h4 x (by simp [hx])
    have hR := lprod_pos (l := L) (fun x hx => by have := h4L x hx; omega)
    have hq := h4 q (by simp)
    suffices h : sum * part * lprod (q :: L) + 1 ≤ (dvS (q :: L) sum many p power k part).1 by exact ⟨by omega, fun _ => h⟩
    by_cases hqp : q = p
    · subst hqp
      have h := (ih sum many q (power * q) (k + 1) (part + power * q) h1 (by omega) (by rw [Nat.add_mul]; omega) h4L).1
      simp only [dvS, if_true, lprod]
      refine Nat.le_trans ?_ h
      rw [← h3, Nat.mul_add, Nat.add_mul, Nat.mul_one, ← Nat.mul_assoc, ← Nat.mul_assoc]
      have : 1 * 1 ≤ sum * lprod L := Nat.mul_le_mul h1 hR
      omega
    · have h := (ih (sum * part) (many * (k + 1)) q q 1 (1 + q) (Nat.mul_le_mul h1 h2) (by omega) (by rw [Nat.add_mul]; omega) h4L).1
      simp only [dvS, if_neg hqp, lprod]
      refine Nat.le_trans ?_ h
      rw [Nat.mul_add, Nat.add_mul, Nat.mul_one, ← Nat.mul_assoc]
      have : 1 * 1 * 1 ≤ sum * part * lprod L := Nat.mul_le_mul (Nat.mul_le_mul h1 h2) hR
      omega
theorem lprod_ge {L : List Nat} {q : Nat} (hL : L ≠ []) (h : ∀ x ∈ L, q ≤ x) (h2 : ∀ x ∈ L, 2 ≤ x) : q ≤ lprod L := by
  cases L with
  | nil => exact absurd rfl hL
  | cons r T =>
    have hR := lprod_pos (l := T) (fun x hx => by have := h2 x (by simp [hx]); omega)
    have h1 : r * 1 ≤ r * lprod T := Nat.mul_le_mul_left _ hR
    have := h r (by simp)
    simp only [lprod]
    omega
theorem dvL_low (L : List Nat) (n : Nat) (hn : 2 ≤ n) (hF : Fac L n 2) : n + 1 ≤ (dvL L).1 ∧ ((dvL L).1 = n + 1 ∨ n ≤ ((dvL L).1 - n - 1) * ((dvL L).1 - n - 1)) := by
  obtain ⟨h1, h2, h3⟩ := hF
  match L, h1, h2, h3 with
  | [], _, h2, _ => simp only [lprod] at h2; omega
  | [q], _, h2, _ => simp only [lprod] at h2; simp only [dvL, dvS]; omega
  | q :: r :: T, h1, h2, h3 =>
    have h4 : ∀ x ∈ r :: T, 2 ≤ x := fun x hx => (h1 x (by simp [List.mem_cons.1 hx])).2
    have h5 := (dvS_ge (r :: T) 1 1 q q 1 (1 + q) (by omega) (by omega) (by rw [Nat.add_mul]; omega) h4).2 (by simp)
    have h6 : q ≤ lprod (r :: T) := lprod_ge (by simp) (fun x hx => (List.pairwise_cons.1 h3).1 x hx) h4
    have h7 : lprod (q :: r :: T) = q * lprod (r :: T) := rfl
    rw [h7] at h2
    simp only [dvL]
    rw [Nat.one_mul, Nat.add_mul, Nat.one_mul, h2] at h5
    refine ⟨by omega, .inr ?_⟩
    have h8 : q * lprod (r :: T) ≤ lprod (r :: T) * lprod (r :: T) := Nat.mul_le_mul_right _ h6
    rw [h2] at h8
    refine Nat.le_trans h8 (Nat.mul_le_mul ?_ ?_) <;> omega
theorem mem_le_sum (l : List Nat) (x : Nat) (h : x ∈ l) : x ≤ l.sum := by
  induction l with
  | nil => simp at h
  | cons y l ih =>
    rw [List.sum_cons]
    rcases List.mem_cons.1 h with rfl | h
    · omega
    · have := ih h
      omega
theorem sg_ge (n : Nat) (hn : 1 ≤ n) : n ≤ sg n := mem_le_sum _ _ ((mem_dvs hn).2 (Nat.dvd_refl n))
def pt (n : Nat) : Nat := if sg n - n ≠ n ∧ 1 ≤ sg n - n ∧ sg n - n ≤ 1000000000 ∧ sg (sg n - n) - (sg n - n) = n then sg n - n else 0
theorem partner_full (n : Nat) (h1 : 1 ≤ n) (h2 : n ≤ 1000000000) : Ev (fun k => spec_dvPartner.f k (n : Int)) (pt n : Int) ∧ Ev (fun k => impl_partner.f k (n : Int)) (pt n : Int) := by
  obtain ⟨hs, hi⟩ := proper_info n h1 h2
  have hg := sg_ge n h1
  obtain ⟨s, hsd⟩ : ∃ s, sg n - n = s := ⟨_, rfl⟩
  have e1 : (sg n : Int) - (n : Int) = (s : Int) := by omega
  rw [e1] at hs hi
  simp only [spec_dvPartner.f, impl_partner.f, spec_dvNumber_eq, impl_isDivided_eq, Option.bind_some, decide_eq_true_eq]
  unfold pt
  rw [hsd]
  by_cases c1 : s = n
  · rw [if_neg (fun h => h.1 c1)]
    exact ⟨evb hs (evp (by omega) (Ev.now _)), evb hi (evp (by omega) (Ev.now _))⟩
  · by_cases c2 : 1 ≤ s ∧ s ≤ 1000000000
    · obtain ⟨gs, gi⟩ := proper_info s c2.1 c2.2
      have hg2 := sg_ge s c2.1
      obtain ⟨t, ht⟩ : ∃ t, sg s - s = t := ⟨_, rfl⟩
      have e2 : (sg s : Int) - (s : Int) = (t : Int) := by omega
      rw [e2] at gs gi
      rw [ht]
      by_cases c3 : t = n
      · rw [if_pos ⟨c1, c2.1, c2.2, c3⟩]
        exact ⟨evb hs (evn (by omega) (evp (by omega) (evb gs (evp (by omega) (Ev.now _))))), evb hi (evn (by omega) (evp (by omega) (evb gi (evp (by omega) (Ev.now _)))))⟩
      · rw [if_neg (fun h => c3 h.2.2.2)]
        exact ⟨evb hs (evn (by omega) (evp (by omega) (evb gs (evn (by omega) (Ev.now _))))), evb hi (evn (by omega) (evp (by omega) (evb gi (evn (by omega) (Ev.now _)))))⟩
    · rw [if_neg (fun h => c2 ⟨h.2.1, h.2.2.1⟩)]
      exact ⟨evb hs (evn (by omega) (evn (by omega) (Ev.now _))), evb hi (evn (by omega) (evn (by omega) (Ev.now _)))⟩
theorem partner_impl (n : Nat) (h1 : 1 ≤ n) (h2 : n ≤ 1000000000) : Ev (fun k => impl_PartnerOf.f k (n : Int)) ((pt n : Int), decide ((pt n : Int) > 0)) := by
  simp only [impl_PartnerOf.f, impl_isDivided_eq, Option.bind_some, decide_eq_true_eq]
  exact evp (by omega) (evb (partner_full n h1 h2).2 (Ev.now _))

def its (f : Nat → Nat) : Nat → Nat → Nat
  | 0, n => n
  | i + 1, n => its f i (f n)
theorem its_succ (f : Nat → Nat) (i n : Nat) : its f (i + 1) n = f (its f i n) := by
  induction i generalizing n with
  | zero => rfl
  | succ i ih => exact ih (f n)
def runto (f : Nat → Nat) (n : Nat) : Nat → List Nat
  | 0 => []
  | k + 1 => runto f n k ++ [its f k n]
theorem runto_len (f : Nat → Nat) (n k : Nat) : (runto f n k).length = k := by
  induction k with
  | zero => rfl
  | succ k ih => simp [runto, ih]
theorem runto_mem (f : Nat → Nat) (n k x : Nat) : x ∈ runto f n k ↔ ∃ i, i < k ∧ its f i n = x := by
  induction k with
  | zero => simp [runto]
  | succ k ih =>
    simp only [runto, List.mem_append, List.mem_singleton, ih]
    constructor
    · rintro (⟨i, h, rfl⟩ | rfl)
      · exact ⟨i, by omega, rfl⟩
      · exact ⟨k, by omega, rfl⟩
    · rintro ⟨i, h, rfl⟩
      by_cases e : i = k
      · subst e; exact .inr rfl
      · exact .inl ⟨i, by omega, rfl⟩
theorem runto_get (f : Nat → Nat) (n k i : Nat) (h : i < k) : (runto f n k)[i]? = some (its f i n) := by
  induction k with
  | zero => omega
  | succ k ih =>
    simp only [runto]
    by_cases e : i = k
    · subst e
      rw [List.getElem?_append_right (by rw [runto_len]; omega), runto_len, Nat.sub_self]
      rfl
    · rw [List.getElem?_append_left (by rw [runto_len]; omega), ih (by omega)]
structure Comes (f : Nat → Nat) (n len t : Nat) : Prop where
  lt : t < len
  back : its f len n = its f t n
  new : ∀ i j, i < j → j < len → its f i n ≠ its f j n
theorem Comes.mem {f : Nat → Nat} {n len t : Nat} (h : Comes f n len t) : ∀ i, its f i n ∈ runto f n len := by
  intro i
  induction i with
  | zero => exact (runto_mem f n len _).2 ⟨0, by have := h.lt; omega, rfl⟩
  | succ i ih =>
    obtain ⟨j, hj, e⟩ := (runto_mem f n len _).1 ih
    rw [its_succ, ← e, ← its_succ f j n]
    by_cases h2 : j + 1 < len
    · exact (runto_mem f n len _).2 ⟨j + 1, h2, rfl⟩
    · have : j + 1 = len := by omega
      rw [this, h.back]
      exact (runto_mem f n len _).2 ⟨t, h.lt, rfl⟩
theorem Comes.not_mem {f : Nat → Nat} {n len t : Nat} (h : Comes f n len t) (k : Nat) (hk : k < len) : its f k n ∉ runto f n k := by
  intro hm
  obtain ⟨i, hi, e⟩ := (runto_mem f n k _).1 hm
  exact h.new i k hi hk e
theorem idxOf_runto {f : Nat → Nat} {n len t : Nat} (h : Comes f n len t) : (runto f n len).idxOf (its f len n) = t := by
  have hlt := h.lt
  have hl := runto_len f n len
  have hm : its f len n ∈ runto f n len := h.mem len
  have hi : (runto f n len).idxOf (its f len n) < (runto f n len).length := List.idxOf_lt_length_iff.2 hm
  have hg : (runto f n len)[(runto f n len).idxOf (its f len n)]'hi = its f len n := List.getElem_idxOf hi
  generalize hq : (runto f n len).idxOf (its f len n) = q at *
  have hg2 := runto_get f n len q (by omega)
  rw [List.getElem?_eq_getElem hi, hg, h.back] at hg2
  injection hg2 with hg2
  rcases Nat.lt_trichotomy q t with h1 | h1 | h1
  · exact absurd hg2.symm (h.new q t h1 hlt)
  · exact h1
  · exact absurd hg2 (h.new t q h1 (by omega))
theorem runto_nodup {f : Nat → Nat} {n len t : Nat} (h : Comes f n len t) : ∀ k, k ≤ len → (runto f n k).Nodup := by
  intro k
  induction k with
  | zero => intro _; exact List.nodup_nil
  | succ k ih =>
    intro hk
    simp only [runto]
    refine List.nodup_append.2 ⟨ih (by omega), by simp, fun x hx y hy => ?_⟩
    obtain rfl := List.mem_singleton.1 hy
    intro e
    subst e
    exact h.not_mem k (by omega) hx
theorem spec_l1Has_loop (x : Int) (whole : List Int) (post : List Int) : ∀ pre : List Int, whole = pre ++ post → whole.length ≤ 4611686018427387904 →
    Ev (fun k => spec_l1Has.l0 k x whole (whole.length : Int) (pre.length : Int)) (decide (x ∈ post)) := by
  induction post with
  | nil =>
    intro pre hw h
    refine evs (fun k => by rw [spec_l1Has.l0]) ?_
    exact evn (by simp [hw]) (evr (by simp))
  | cons y post ih =>
    intro pre hw h
    have hl : whole.length = pre.length + (post.length + 1) := by simp [hw]
    have hx : rd whole (pre.length : Int) = y := by rw [hw, rd_mid]
    refine evs (fun k => by rw [spec_l1Has.l0]) ?_
    rw [hx]
    refine evp (by omega) (evp (by omega) (evp (by omega) ?_))
    by_cases he : y = x
    · exact evp he (evr (by simp [he]))
    · refine evn he ?_
      have h2 := ih (pre ++ [y]) (by simp [hw]) h
      rw [w64 (by omega) (by omega)]
      have e : decide (x ∈ y :: post) = decide (x ∈ post) := by
        have : ¬ x = y := fun e => he e.symm
        simp [this]
      rw [e]
      simpa using h2
theorem spec_l1Has_ev (l : List Int) (x : Int) (h : l.length ≤ 4611686018427387904) : Ev (fun k => spec_l1Has.f k l x) (decide (x ∈ l)) := by
  unfold spec_l1Has.f
  simpa using spec_l1Has_loop x l l [] rfl h

theorem slices_Index_int_int_loop (x : Int) (whole : List Int) (post : List Int) : ∀ pre : List Int, whole = pre ++ post → whole.length ≤ 4611686018427387904 →
    Ev (fun k => slices_Index_int_int.l0 k whole x (whole.length : Int) (pre.length : Int)) (idxI x post pre.length) := by
  induction post with
  | nil =>
    intro pre hw h
    refine evs (fun k => by rw [slices_Index_int_int.l0]) ?_
    exact evn (by simp [hw]) (Ev.now _)
  | cons y post ih =>
    intro pre hw h
    have hl : whole.length = pre.length + (post.length + 1) := by simp [hw]
    have hx : rd whole (pre.length : Int) = y := by rw [hw, rd_mid]
    refine evs (fun k => by rw [slices_Index_int_int.l0]) ?_
    rw [hx]
    refine evp (by omega) (evp (by omega) (evp (by omega) ?_))
    by_cases he : x = y
    · exact evp he (evr (by simp [idxI, he]))
    · refine evn he ?_
      have h2 := ih (pre ++ [y]) (by simp [hw]) h
      rw [w64 (by omega) (by omega)]
      simpa [idxI, he] using h2
theorem slices_Index_int_int_ev (l : List Int) (x : Int) (h : l.length ≤ 4611686018427387904) : Ev (fun k => slices_Index_int_int.f k l x) (idxI x l 0) := by
  unfold slices_Index_int_int.f
  simpa using slices_Index_int_int_loop x l l [] rfl h

theorem contains_ev (l : List Int) (x : Int) (h : l.length ≤ 4611686018427387904) : Ev (fun k => slices_Contains_int_int.f k l x) (decide (x ∈ l)) := by
  unfold slices_Contains_int_int.f
  refine evb (slices_Index_int_int_ev l x h) (evr ?_)
  have := (idxI_ge x l 0).1
  by_cases hm : x ∈ l <;> simp [hm, this] <;> omega

def pp (n : Nat) : Nat := sg n - n
theorem pp_ev (n : Nat) (h1 : 1 ≤ n) (h2 : n ≤ 1000000000) : Ev (fun k => spec_dvProper.f k (n : Int)) ((pp n : Nat) : Int) ∧ Ev (fun k => impl_proper.f k (n : Int)) ((pp n : Nat) : Int) := by
  obtain ⟨a, b⟩ := proper_info n h1 h2
  have h := sg_ge n h1
  have e : (sg n : Int) - (n : Int) = ((pp n : Nat) : Int) := by unfold pp; omega
  rw [e] at a b
  exact ⟨a, b⟩
theorem pp_zero (n : Nat) (h1 : 1 ≤ n) (h2 : n ≤ 1000000000) : pp n = 0 ↔ n = 1 := by
  constructor
  · intro h
    rcases Nat.lt_or_ge n 2 with h3 | h3
    · omega
    · obtain ⟨L, hL, _⟩ := dv_ev n h1 h2
      have h4 := (dvL_low L n h3 hL).1
      rw [dvL_sg hL] at h4
      unfold pp at h
      simp only at h4
      omega
  · intro h
    subst h
    unfold pp
    rw [sg_one.1]
theorem icm (l : List Nat) (x : Nat) : (x : Int) ∈ ic l ↔ x ∈ l := by
  unfold ic
  constructor
  · intro h
    obtain ⟨y, hy, e⟩ := List.mem_map.1 h
    have : y = x := by omega
    subst this
    exact hy
  · intro h
    exact List.mem_map.2 ⟨x, h, rfl⟩
theorem ic_run (f : Nat → Nat) (n q : Nat) : ic (runto f n q) ++ [((its f q n : Nat) : Int)] = ic (runto f n (q + 1)) := by
  simp only [runto, ic_append]
  rfl
structure Goes (n most m : Nat) : Prop where
  pos : 1 ≤ m
  le : m ≤ most
  in_ : ∀ i, i < m → 1 ≤ its pp i n ∧ its pp i n ≤ 1000000000
  new : ∀ i j, i < j → j < m → its pp i n ≠ its pp j n
  stop : m = most ∨ ¬ (1 ≤ its pp m n ∧ its pp m n ≤ 1000000000) ∨ its pp m n ∈ runto pp n m
theorem lastOf_ic (f : Nat → Nat) (n m : Nat) (hm : m ≤ 1000) : impl_lastOf.f (ic (runto f n (m + 1))) = some ((its f m n : Nat) : Int) := by
  rw [← ic_run]
  unfold impl_lastOf.f
  have e : (((ic (runto f n m) ++ [((its f m n : Nat) : Int)]).length : Nat) : Int) = (m : Int) + 1 := by rw [List.length_append, ic_length, runto_len]; simp
  rw [e, w64 (x := (m : Int) + 1 - 1) (by omega) (by omega), show (m : Int) + 1 - 1 = (m : Int) by omega, if_pos (by omega), if_pos (by omega)]
  have e2 : (m : Int) = (((ic (runto f n m)).length : Nat) : Int) := by rw [ic_length, runto_len]
  rw [e2, rd_mid]
theorem goes_loop (n most : Nat) (hmost : most ≤ 60) (r : Nat) : ∀ m : Nat, m + 1 + r = most → (∀ i, i < m + 1 → 1 ≤ its pp i n ∧ its pp i n ≤ 1000000000) → (∀ i j, i < j → j < m + 1 → its pp i n ≠ its pp j n) →
    ∃ q, Goes n most q ∧ Ev (fun k => spec_dvRun.l0 k (most : Int) (ic (runto pp n (m + 1))) ((its pp (m + 1) n : Nat) : Int)) (ic (runto pp n q), ((its pp q n : Nat) : Int)) ∧ Ev (fun k => impl_properRun.l0 k (most : Int) (ic (runto pp n (m + 1)))) (ic (runto pp n q), ((its pp q n : Nat) : Int)) := by
  induction r with
  | zero =>
    intro m hm h1 h2
    obtain ⟨p1, p2⟩ := pp_ev _ (h1 m (by omega)).1 (h1 m (by omega)).2
    rw [← its_succ pp] at p2
    refine ⟨m + 1, ⟨by omega, by omega, h1, h2, .inl (by omega)⟩, evs (fun k => by rw [spec_dvRun.l0]) ?_, evs (fun k => by rw [impl_properRun.l0]) ?_⟩
    · exact evn (by rw [ic_length, runto_len]; omega) (Ev.now _)
    · exact evc (lastOf_ic pp n m (by omega)) (evb p2 (evp (by rw [ic_length, runto_len]; omega) (Ev.now _)))
  | succ r ih =>
    intro m hm h1 h2
    obtain ⟨p1, p2⟩ := pp_ev _ (h1 m (by omega)).1 (h1 m (by omega)).2
    rw [← its_succ pp] at p2
    have hlen : (ic (runto pp n (m + 1))).length = m + 1 := by rw [ic_length, runto_len]
    by_cases hn : 1 ≤ its pp (m + 1) n ∧ its pp (m + 1) n ≤ 1000000000
    · by_cases hc : its pp (m + 1) n ∈ runto pp n (m + 1)
      · refine ⟨m + 1, ⟨by omega, by omega, h1, h2, .inr (.inr hc)⟩, evs (fun k => by rw [spec_dvRun.l0]) ?_, evs (fun k => by rw [impl_properRun.l0]) ?_⟩
        · exact evp (by omega) (evc (spec_dvNumber_eq _) (evp (decide_eq_true (by omega)) (evb (spec_l1Has_ev _ _ (by omega)) (evp (decide_eq_true ((icm _ _).2 hc)) (Ev.now _)))))
        · exact evc (lastOf_ic pp n m (by omega)) (evb p2 (evn (by omega) (evc (impl_isDivided_eq _) (evp (decide_eq_true (by omega)) (evb (contains_ev _ _ (by omega)) (evp (decide_eq_true ((icm _ _).2 hc)) (Ev.now _)))))))
      · obtain ⟨q, h3, h4, h5⟩ := ih (m + 1) (by omega) (fun i hi => by
          by_cases e : i = m + 1
          · subst e; exact hn
          · exact h1 i (by omega)) (fun i j hij hj => by
          by_cases e : j = m + 1
          · subst e
            intro e2
            exact hc ((runto_mem _ _ _ _).2 ⟨i, hij, e2⟩)
          · exact h2 i j hij (by omega))
        have hc2 : ¬ ((its pp (m + 1) n : Nat) : Int) ∈ ic (runto pp n (m + 1)) := fun h => hc ((icm _ _).1 h)
        obtain ⟨q1, q2⟩ := pp_ev _ hn.1 hn.2
        rw [← its_succ pp] at q1
        rw [← ic_run] at h4 h5
        refine ⟨q, h3, evs (fun k => by rw [spec_dvRun.l0]) ?_, evs (fun k => by rw [impl_properRun.l0]) ?_⟩
        · exact evp (by omega) (evc (spec_dvNumber_eq _) (evp (decide_eq_true (by omega)) (evb (spec_l1Has_ev _ _ (by omega)) (evn (by rw [decide_eq_false hc2]; simp) (evp (by omega) (evb q1 h4))))))
        · exact evc (lastOf_ic pp n m (by omega)) (evb p2 (evn (by omega) (evc (impl_isDivided_eq _) (evp (decide_eq_true (by omega)) (evb (contains_ev _ _ (by omega)) (evn (by rw [decide_eq_false hc2]; simp) (evp (by omega) h5)))))))
    · refine ⟨m + 1, ⟨by omega, by omega, h1, h2, .inr (.inl hn)⟩, evs (fun k => by rw [spec_dvRun.l0]) ?_, evs (fun k => by rw [impl_properRun.l0]) ?_⟩
      · exact evp (by omega) (evc (spec_dvNumber_eq _) (evn (by rw [decide_eq_false (by omega)]; simp) (Ev.now _)))
      · exact evc (lastOf_ic pp n m (by omega)) (evb p2 (evn (by omega) (evc (impl_isDivided_eq _) (evn (by rw [decide_eq_false (by omega)]; simp) (Ev.now _)))))
theorem goes_ev (n most : Nat) (h1 : 1 ≤ n) (h2 : n ≤ 1000000000) (h3 : 1 ≤ most) (h4 : most ≤ 60) :
    ∃ m, Goes n most m ∧ Ev (fun k => spec_dvRun.f k (n : Int) (most : Int)) (ic (runto pp n m), ((its pp m n : Nat) : Int)) ∧ Ev (fun k => impl_properRun.f k (n : Int) (most : Int)) (ic (runto pp n m), ((its pp m n : Nat) : Int)) := by
  obtain ⟨q, a, b, c⟩ := goes_loop n most h4 (most - 1) 0 (by omega) (fun i hi => by
    obtain rfl : i = 0 := by omega
    exact ⟨h1, h2⟩) (fun i j hij hj => by omega)
  obtain ⟨p1, _⟩ := pp_ev n h1 h2
  exact ⟨q, a, evb p1 b, c⟩
inductive Ends (n m : Nat) : Nat → List Nat → Prop
  | one : its pp m n = 0 → Ends n m 0 []
  | big : 1000000000 < its pp m n → Ends n m 4 []
  | long : 1 ≤ its pp m n → its pp m n ≤ 1000000000 → its pp m n ∉ runto pp n m → Ends n m 5 []
  | back (t : Nat) : t < m → its pp m n = its pp t n → its pp m n ≠ 0 → its pp m n ≤ 1000000000 → Ends n m (min (m - t) 3) ((runto pp n m).drop t)
theorem idxI_nat (l : List Nat) (x : Nat) : ∀ i : Nat, idxI (x : Int) (ic l) i = if x ∈ l then ((i + l.idxOf x : Nat) : Int) else -1 := by
  induction l with
  | nil => intro i; simp [idxI, ic]
  | cons y l ih =>
    intro i
    rw [ic_cons]
    simp only [idxI]
    by_cases h : x = y
    · subst h
      simp
    · rw [if_neg (by omega), ih]
      have hb : (y == x) = false := beq_eq_false_iff_ne.2 (fun e => h e.symm)
      rw [List.idxOf_cons, hb]
      by_cases h2 : x ∈ l
      · rw [if_pos h2, if_pos (by simp [h2])]
        simp only [cond_false]
        omega
      · rw [if_neg h2, if_neg (by simp [h, h2])]
theorem dvAt_loop (x : Int) (whole : List Int) (post : List Int) : ∀ pre : List Int, whole = pre ++ post → whole.length ≤ 4611686018427387904 →
    Ev (fun k => spec_dvAt.l0 k x whole (whole.length : Int) (pre.length : Int)) (idxI x post pre.length) := by
  induction post with
  | nil =>
    intro pre hw h
    refine evs (fun k => by rw [spec_dvAt.l0]) ?_
    exact evn (by simp [hw]) (Ev.now _)
  | cons y post ih =>
    intro pre hw h
    have hl : whole.length = pre.length + (post.length + 1) := by simp [hw]
    have hx : rd whole (pre.length : Int) = y := by rw [hw, rd_mid]
    refine evs (fun k => by rw [spec_dvAt.l0]) ?_
    rw [hx]
    refine evp (by omega) (evp (by omega) (evp (by omega) ?_))
    by_cases he : y = x
    · exact evp he (evr (by simp [idxI, he]))
    · refine evn he ?_
      have h2 := ih (pre ++ [y]) (by simp [hw]) h
      have he2 : ¬ x = y := fun e => he e.symm
      rw [w64 (by omega) (by omega)]
      simpa [idxI, he2] using h2
theorem dvAt_ev (l : List Int) (x : Int) (h : l.length ≤ 4611686018427387904) : Ev (fun k => spec_dvAt.f k l x) (idxI x l 0) := by
  unfold spec_dvAt.f
  simpa using dvAt_loop x l l [] rfl h
theorem leastFirst_ev (l : List Int) (hl : l.length ≤ 1000000) (h0 : l ≠ []) : Ev (fun k => impl_leastFirst.f k l) (leastFirst l) := by
  have hp := List.length_pos_iff.2 h0
  have hm : slices_Min_int_int.f l = some (leastI l) := by
    unfold slices_Min_int_int.f
    rw [if_neg (by omega)]
    rfl
  have hi := slices_Index_int_int_ev l (leastI l) (by omega)
  have hmem := leastI_mem l h0
  have hx : idxI (leastI l) l 0 = ((l.idxOf (leastI l) : Nat) : Int) := by
    suffices h : ∀ (m : List Int) (x : Int) (i : Nat), x ∈ m → idxI x m i = ((i + m.idxOf x : Nat) : Int) by rw [h l _ 0 hmem, Nat.zero_add]
    intro m x
    induction m with
    | nil => intro i h; simp at h
    | cons y m ih =>
      intro i h
      simp only [idxI]
      by_cases e : x = y
      · subst e; simp
      · have hb : (y == x) = false := beq_eq_false_iff_ne.2 (fun e2 => e e2.symm)
        rw [if_neg e, List.idxOf_cons, hb, ih (i + 1) (by simpa [e] using h)]
        simp only [cond_false]
        omega
  rw [hx] at hi
  have hlt := List.idxOf_lt_length_iff.2 hmem
  unfold impl_leastFirst.f
  refine evc hm (evb hi (evp (by omega) (evp (by omega) (evc (a := leastFirst l) ?_ (Ev.now _)))))
  unfold slices_Concat_int_int.f
  have e2 : ([l.drop (((l.idxOf (leastI l) : Nat) : Int)).toNat, l.take (((l.idxOf (leastI l) : Nat) : Int)).toNat] : List (List Int)).flatten = leastFirst l := by
    rw [Int.toNat_natCast]
    simp [leastFirst, rot]
  rw [e2, if_pos (by rw [leastFirst_len]; omega)]
theorem ends_ev (n most : Nat) (h1 : 1 ≤ n) (h2 : n ≤ 1000000000) (h3 : 1 ≤ most) (h4 : most ≤ 60) :
    ∃ m e C, Goes n most m ∧ Ends n m e C ∧ Ev (fun k => spec_dvRun.f k (n : Int) (most : Int)) (ic (runto pp n m), ((its pp m n : Nat) : Int)) ∧ Ev (fun k => impl_properRun.f k (n : Int) (most : Int)) (ic (runto pp n m), ((its pp m n : Nat) : Int)) ∧
      Ev (fun k => spec_dvEnd.f k (n : Int) (most : Int)) ((e : Int), ic C) ∧ Ev (fun k => impl_endOf.f k (n : Int) (most : Int)) ((e : Int), leastFirst (ic C)) := by
  obtain ⟨m, hg, hs, hi⟩ := goes_ev n most h1 h2 h3 h4
  have hm1 := hg.pos
  have hm2 := hg.le
  have hlen : (ic (runto pp n m)).length = m := by rw [ic_length, runto_len]
  have hidx := slices_Index_int_int_ev (ic (runto pp n m)) ((its pp m n : Nat) : Int) (by omega)
  have hat := dvAt_ev (ic (runto pp n m)) ((its pp m n : Nat) : Int) (by omega)
  rw [idxI_nat] at hidx hat
  have hlast : impl_lastOf.f (ic (runto pp n m)) = some ((its pp (m - 1) n : Nat) : Int) := by
    have := lastOf_ic pp n (m - 1) (by omega)
    rwa [show m - 1 + 1 = m by omega] at this
  have hlz : its pp m n = 0 ↔ its pp (m - 1) n = 1 := by
    have h5 := hg.in_ (m - 1) (by omega)
    have := pp_zero _ h5.1 h5.2
    rw [← its_succ pp, show m - 1 + 1 = m by omega] at this
    exact this
  have lf0 : leastFirst (ic []) = [] := rfl
  by_cases c1 : its pp m n = 0
  · refine ⟨m, 0, [], hg, .one c1, hs, hi, ?_, ?_⟩
    · exact evb hs (evp (by omega) (Ev.now _))
    · have := hlz.1 c1
      exact evb hi (evb hidx (evc hlast (evp (by omega) (Ev.now _))))
  · have c1' : ¬ its pp (m - 1) n = 1 := fun h => c1 (hlz.2 h)
    by_cases c2 : its pp m n ≤ 1000000000
    · by_cases c3 : its pp m n ∈ runto pp n m
      · obtain ⟨t, ht, et⟩ := (runto_mem _ _ _ _).1 c3
        have hcome : Comes pp n m t := ⟨ht, et.symm, hg.new⟩
        have hix := idxOf_runto hcome
        rw [if_pos c3, hix, Nat.zero_add] at hidx hat
        refine ⟨m, min (m - t) 3, (runto pp n m).drop t, hg, .back t ht et.symm c1 c2, hs, hi, ?_, ?_⟩
        · refine evb hs (evn (by omega) (evc (spec_dvNumber_eq _) (evp (decide_eq_true (by omega)) (evb hat (evn (by omega) (evp (by omega) (evp (by simp only; omega) (evc rfl ?_))))))))
          have e1 : (ic (runto pp n m)).drop (t : Int).toNat = ic ((runto pp n m).drop t) := by rw [Int.toNat_natCast, ic_drop]
          rw [e1]
          have e2 : (ic ((runto pp n m).drop t)).length = m - t := by rw [ic_length, List.length_drop, runto_len]
          rw [e2]
          unfold spec_l1Least.f
          by_cases c4 : m - t < 3
          · rw [if_pos (by omega), show min (m - t) 3 = m - t by omega]
            exact evc rfl (Ev.now _)
          · rw [if_neg (by omega), show min (m - t) 3 = 3 by omega]
            exact evc rfl (Ev.now _)
        · refine evb hi (evb hidx (evc hlast (evn (by omega) (evn (by omega) (evn (by omega) (evp (by omega) (evp (by simp only; omega) ?_)))))))
          have e1 : (ic (runto pp n m)).drop (t : Int).toNat = ic ((runto pp n m).drop t) := by rw [Int.toNat_natCast, ic_drop]
          simp only [e1]
          have e2 : (ic ((runto pp n m).drop t)).length = m - t := by rw [ic_length, List.length_drop, runto_len]
          refine evb (leastFirst_ev _ (by omega) (fun h => by rw [h] at e2; simp at e2; omega)) (evr ?_)
          rw [hlen, w64 (by omega) (by omega)]
          have e3 : mn ((m : Int) - (t : Int)) 3 = ((min (m - t) 3 : Nat) : Int) := by unfold mn; split <;> omega
          rw [e3]
      · rw [if_neg c3] at hidx hat
        refine ⟨m, 5, [], hg, .long (by omega) c2 c3, hs, hi, ?_, ?_⟩
        · exact evb hs (evn (by omega) (evc (spec_dvNumber_eq _) (evp (decide_eq_true (by omega)) (evb hat (evp (by omega) (Ev.now _))))))
        · exact evb hi (evb hidx (evc hlast (evn (by omega) (evn (by omega) (evp (by omega) (Ev.now _))))))
    · refine ⟨m, 4, [], hg, .big (by omega), hs, hi, ?_, ?_⟩
      · exact evb hs (evn (by omega) (evc (spec_dvNumber_eq _) (evn (by rw [decide_eq_false (by omega)]; simp) (Ev.now _))))
      · exact evb hi (evb hidx (evc hlast (evn (by omega) (evp (by simp only; omega) (Ev.now _)))))
theorem spec_dvTerms_eq (x : Int) : spec_dvTerms.f x = some (decide (1 ≤ x ∧ x ≤ 60)) := by simp only [spec_dvTerms.f, spec_l1In_eq, Option.bind_some]

theorem idxOf_first (x : Int) (l : List Int) : ∀ (m : Nat) (hm : m < l.length), l[m] = x → (∀ j (h : j < m), l[j]'(by omega) ≠ x) → l.idxOf x = m := by
  induction l with
  | nil => intro m hm; simp at hm
  | cons y l ih =>
    intro m hm h1 h2
    cases m with
    | zero =>
      have : y = x := by simpa using h1
      subst this
      simp
    | succ m =>
      have hy : y ≠ x := by simpa using h2 0 (by omega)
      have hb : (y == x) = false := beq_eq_false_iff_ne.2 hy
      rw [List.idxOf_cons, hb, ih m (by simpa using hm) (by simpa using h1) (fun j h => by simpa using h2 (j + 1) (by omega))]
      rfl
theorem circ_loop (C : List Nat) (hC : C.length ≤ 1000) (r : Nat) : ∀ (i m : Nat) (hi : i + r = C.length) (hm : m < C.length), (∀ j (h : j < i), C[m] ≤ C[j]'(by omega)) → (∀ j (h : j < m), C[m] < C[j]'(by omega)) →
    Ev (fun k => spec_CircleOf.l0 k (ic C) (m : Int) (ic C) (C.length : Int) (i : Int)) (leastFirst (ic C), true) := by
  have key : ∀ j (h : j < C.length), rd (ic C) (j : Int) = ((C[j] : Nat) : Int) := by
    intro j h
    rw [rd_get _ _ (by rw [ic_length]; exact h)]
    simp [ic]
  induction r with
  | zero =>
    intro i m hi hm h1 h2
    have hl : (ic C).length = C.length := ic_length C
    have hne : ic C ≠ [] := fun h => by rw [h] at hl; simp at hl; omega
    have hidx : (ic C).idxOf (leastI (ic C)) = m := by
      have g : ∀ j (h : j < C.length), (ic C)[j]'(by omega) = ((C[j] : Nat) : Int) := fun j h => by simp [ic]
      have hle : leastI (ic C) = ((C[m] : Nat) : Int) := by
        have a1 := leastI_le (ic C) ((C[m] : Nat) : Int) ((icm _ _).2 (List.getElem_mem hm))
        have a2 := leastI_mem (ic C) hne
        obtain ⟨j, hj, e⟩ := List.getElem_of_mem a2
        rw [g j (by omega)] at e
        have := h1 j (by omega)
        omega
      rw [hle]
      refine idxOf_first _ _ m (by omega) (g m hm) (fun j h => ?_)
      rw [g j (by omega)]
      have := h2 j h
      omega
    have e1 : (ic C).drop (m : Int).toNat ++ (ic C).take (m : Int).toNat = leastFirst (ic C) := by
      rw [Int.toNat_natCast]
      unfold leastFirst rot
      rw [hidx]
    refine evs (fun k => by rw [spec_CircleOf.l0]) ?_
    refine evn (by omega) (evp (by omega) (evp (by omega) (evc (a := (ic C).drop (m : Int).toNat) ?_ (evc rfl (evp ?_ (evr (by rw [e1])))))))
    · unfold spec_l1Own.f
      rw [Option.bind_some, if_pos (by rw [List.length_drop]; simp; omega), List.nil_append]
    · rw [List.length_drop, List.length_take]; omega
  | succ r ih =>
    intro i m hi hm h1 h2
    refine evs (fun k => by rw [spec_CircleOf.l0]) ?_
    rw [key i (by omega), key m hm, ic_length, w64 (x := (i : Int) + 1) (by omega) (by omega), show (i : Int) + 1 = ((i + 1 : Nat) : Int) by omega]
    by_cases g : C[i]'(by omega) < C[m]
    · refine evp (by omega) (evp (by omega) (evp (by omega) (evp (by omega) (evp (by omega) (evp (by omega) (ih (i + 1) i (by omega) (by omega) (fun j hj => ?_) (fun j hj => ?_)))))))
      · by_cases e : j = i
        · subst e; exact Nat.le_refl _
        · have := h1 j (by omega); omega
      · have := h1 j hj; omega
    · refine evp (by omega) (evp (by omega) (evp (by omega) (evp (by omega) (evp (by omega) (evn (by omega) (ih (i + 1) m (by omega) hm (fun j hj => ?_) h2))))))
      by_cases e : j = i
      · subst e; omega
      · exact h1 j (by omega)
theorem circ_ev (n most e : Nat) (C : List Nat) (hC : C.length ≤ 1000) (h1 : 1 ≤ n) (h2 : n ≤ 1000000000) (h3 : 1 ≤ most) (h4 : most ≤ 60)
    (a : Ev (fun k => spec_dvEnd.f k (n : Int) (most : Int)) ((e : Int), ic C)) (b : Ev (fun k => impl_endOf.f k (n : Int) (most : Int)) ((e : Int), leastFirst (ic C))) :
    Ev (fun k => spec_CircleOf.f k (n : Int) (most : Int)) (leastFirst (ic C), decide (C ≠ [])) ∧ Ev (fun k => impl_CircleOf.f k (n : Int) (most : Int)) (leastFirst (ic C), decide (C ≠ [])) := by
  have hlen : (leastFirst (ic C)).length = C.length := by rw [leastFirst_len, ic_length]
  constructor
  · unfold spec_CircleOf.f
    refine evc (spec_dvNumber_eq _) (evp (decide_eq_true (by omega)) (evc (spec_dvTerms_eq _) ?_))
    rw [decide_eq_true (show (1 : Int) ≤ (most : Int) ∧ (most : Int) ≤ 60 by omega)]
    refine evs (fun k => by rw [spec_CircleOf.j0]) ?_
    refine evn (by simp) (evb a ?_)
    by_cases h : C = []
    · subst h
      exact evp rfl (evr (by simp [leastFirst, ic, rot]))
    · have hp := List.length_pos_iff.2 h
      rw [decide_eq_true h]
      refine evn (by simp only [ic_length]; omega) ?_
      have := circ_loop C hC C.length 0 0 (by omega) hp (fun j hj => by omega) (fun j hj => by omega)
      simp only [ic_length]
      exact this
  · unfold impl_CircleOf.f
    refine evc (impl_isDivided_eq _) (evp (decide_eq_true (by omega)) (evc (impl_in_eq _ 1 60) (evp (decide_eq_true (by omega)) (evb b (evr ?_)))))
    have : decide (leastFirst (ic C) ≠ []) = decide (C ≠ []) := by
      have e : leastFirst (ic C) = [] ↔ C = [] := by
        rw [← List.length_eq_zero_iff, hlen, List.length_eq_zero_iff]
      simp [e]
    simp only [this]
theorem ends_len {n m e : Nat} {C : List Nat} (h : Ends n m e C) : C.length ≤ m := by
  cases h with
  | one _ => exact Nat.zero_le _
  | big _ => exact Nat.zero_le _
  | long _ _ _ => exact Nat.zero_le _
  | back t ht _ _ _ => rw [List.length_drop, runto_len]; omega

theorem circ_no (n most : Int) (h : ¬ ((1 ≤ n ∧ n ≤ 1000000000) ∧ 1 ≤ most ∧ most ≤ 60)) : Ev (fun k => spec_CircleOf.f k n most) ([], false) ∧ Ev (fun k => impl_CircleOf.f k n most) ([], false) := by
  unfold spec_CircleOf.f impl_CircleOf.f
  by_cases h1 : 1 ≤ n ∧ n ≤ 1000000000
  · have h2 : ¬ (1 ≤ most ∧ most ≤ 60) := fun h2 => h ⟨h1, h2⟩
    refine ⟨evc (spec_dvNumber_eq _) (evp (decide_eq_true h1) (evc (spec_dvTerms_eq _) ?_)), evc (impl_isDivided_eq _) (evp (decide_eq_true h1) (evc (impl_in_eq _ 1 60) (evn (by rw [decide_eq_false h2]; simp) (Ev.now _))))⟩
    rw [decide_eq_false h2]
    refine evs (fun k => by rw [spec_CircleOf.j0]) ?_
    exact evp rfl (Ev.now _)
  · refine ⟨evc (spec_dvNumber_eq _) (evn (by rw [decide_eq_false h1]; simp) ?_), evc (impl_isDivided_eq _) (evn (by rw [decide_eq_false h1]; simp) (Ev.now _))⟩
    refine evs (fun k => by rw [spec_CircleOf.j0]) ?_
    exact evp rfl (Ev.now _)

theorem low_byte (x : Int) : 0 ≤ Go.bits .and .u64 ((IntKind.u64.wrap x) / 1099511627776) 255 ∧ Go.bits .and .u64 ((IntKind.u64.wrap x) / 1099511627776) 255 ≤ 255 := by
  have h0 : 0 ≤ IntKind.u64.wrap x ∧ IntKind.u64.wrap x < 18446744073709551616 := by rw [IntKind.wrap_u64]; omega
  obtain ⟨y, hy⟩ := Int.eq_ofNat_of_zero_le (show 0 ≤ IntKind.u64.wrap x / 1099511627776 by omega)
  rw [hy]
  have h1 := bits_and_u64_nat y 255 (by omega) (by omega)
  have e : y &&& 255 = y % 256 := Nat.and_two_pow_sub_one_eq_mod y 8
  rw [e] at h1
  rw [show ((255 : Int)) = ((255 : Nat) : Int) from rfl, h1]
  omega
theorem next_ok (l : List Int) (hl : ∀ x ∈ l, 0 ≤ x ∧ x ≤ 255) (p s : Int) (h0 : 0 ≤ p) (h1 : p ≤ 1000000000000) :
    ∃ v s' : Int, spec_l1Cur_next.f l p s = some (v, p + 1, s') ∧ 0 ≤ v ∧ v ≤ 255 := by
  unfold spec_l1Cur_next.f
  rw [w64 (x := p + 1) (by omega) (by omega)]
  by_cases hp : p < (l.length : Int)
  · have hm := hl _ (rd_mem l p h0 hp)
    rw [if_pos hp, if_pos h0]
    by_cases hq : p + 1 ≤ (l.length : Int)
    · rw [if_pos hq]
      refine ⟨_, _, rfl, ?_⟩
      rw [w64 (by omega) (by omega)]
      exact hm
    · omega
  · rw [if_neg hp]
    by_cases hq : p + 1 ≤ (l.length : Int)
    · omega
    · rw [if_neg hq]
      refine ⟨_, _, rfl, ?_⟩
      have h := low_byte (IntKind.u64.wrap (IntKind.u64.wrap (s * 6364136223846793005)) + 1442695040888963407)
      rw [w64 (by omega) (by omega)]
      exact h
theorem pick_ok (l : List Int) (hl : ∀ x ∈ l, 0 ≤ x ∧ x ≤ 255) (p s n : Int) (h0 : 0 ≤ p) (h1 : p ≤ 999999999990) (hn : n ≤ 1000000) :
    ∃ v p' s' : Int, spec_l1Cur_pick.f l p s n = some (v, p', s') ∧ 0 ≤ v ∧ v ≤ 1000000 ∧ (v = 0 ∨ v < n) ∧ p ≤ p' ∧ p' ≤ p + 2 := by
  unfold spec_l1Cur_pick.f
  by_cases h : n ≤ 1
  · rw [if_pos h]
    exact ⟨0, p, s, rfl, by omega, by omega, by omega, by omega, by omega⟩
  · rw [if_neg h]
    obtain ⟨v, s1, e1, h2, h3⟩ := next_ok l hl p s h0 (by omega)
    rw [e1]
    simp only [Option.bind_some]
    by_cases h4 : n > 200
    · rw [if_pos h4]
      obtain ⟨v2, s2, e2, h5, h6⟩ := next_ok l hl (p + 1) s1 (by omega) (by omega)
      rw [e2]
      simp only [Option.bind_some]
      rw [if_neg (by omega), w64 (x := v * 256) (by omega) (by omega), w64 (by omega) (by omega)]
      have h7 := Int.tmod_nonneg n (show 0 ≤ v * 256 + v2 by omega)
      have h8 := Int.tmod_lt_of_pos (v * 256 + v2) (show 0 < n by omega)
      exact ⟨_, _, _, rfl, h7, by omega, Or.inr h8, by omega, by omega⟩
    · rw [if_neg h4, if_neg (by omega)]
      have h7 := Int.tmod_nonneg n (show 0 ≤ v by omega)
      have h8 := Int.tmod_lt_of_pos v (show 0 < n by omega)
      exact ⟨_, _, _, rfl, h7, by omega, Or.inr h8, by omega, by omega⟩
theorem among_ok (l : List Int) (hl : ∀ x ∈ l, 0 ≤ x ∧ x ≤ 255) (p s : Int) (m : List Int) (hm : m ≠ []) (hm2 : m.length ≤ 1000000) (h0 : 0 ≤ p) (h1 : p ≤ 999999999990) :
    ∃ v p' s' : Int, spec_l1Cur_among.f l p s m = some (v, p', s') ∧ v ∈ m ∧ p ≤ p' ∧ p' ≤ p + 2 := by
  unfold spec_l1Cur_among.f
  have hpos := List.length_pos_iff.2 hm
  obtain ⟨v, p', s', e1, h2, h3, h4, h5, h6⟩ := pick_ok l hl p s m.length h0 h1 (by omega)
  rw [e1]
  simp only [Option.bind_some]
  rw [if_pos h2, if_pos (by omega)]
  exact ⟨_, _, _, rfl, rd_mem m v h2 (by omega), h5, h6⟩

theorem one_ok (l : List Int) (hl : ∀ x ∈ l, 0 ≤ x ∧ x ≤ 255) (p s n : Int) (h0 : 0 ≤ p) (h1 : p ≤ 999999999990) (hn : n ≤ 1000000) : ∃ (v : Bool) (p' s' : Int), spec_l1Cur_one.f l p s n = some (v, p', s') ∧ p ≤ p' ∧ p' ≤ p + 2 := by
  obtain ⟨v1, p1, s1, e1, a1, b1, c1, d1, f1⟩ := pick_ok l hl p s n h0 h1 hn
  unfold spec_l1Cur_one.f
  rw [e1]
  exact ⟨_, _, _, rfl, d1, f1⟩
theorem divided_loop (l : List Int) (hl : ∀ x ∈ l, 0 ≤ x ∧ x ≤ 255) (d : Nat) : ∀ x p s : Int, 0 ≤ p → p + 2 * (d : Int) ≤ 1000 → ∃ v p' s' : Int, Ev (fun k => spec_l1Cur_divided.l0 k x (d : Int) l p s) (v, p', s') ∧ p ≤ p' ∧ p' ≤ p + 2 * (d : Int) := by
  induction d with
  | zero =>
    intro x p s h0 h1
    exact ⟨x, p, s, evs (fun k => by rw [spec_l1Cur_divided.l0]) (evn (by omega) (Ev.now _)), by omega, by omega⟩
  | succ d ih =>
    intro x p s h0 h1
    obtain ⟨v, p1, s1, e1, _, h2, h3⟩ := among_ok l hl p s [2, 2, 2, 3, 3, 5, 7, 11, 13] (by simp) (by simp) h0 (by omega)
    obtain ⟨v', p2, s2, e2, h4, h5⟩ := ih (wrap64 (x * v)) p1 s1 (by omega) (by omega)
    refine ⟨v', p2, s2, evs (fun k => by rw [spec_l1Cur_divided.l0]) (evp (by omega) ?_), by omega, by omega⟩
    simp only [e1, Option.bind_some]
    rw [w64 (x := (((d + 1 : Nat)) : Int) - 1) (by omega) (by omega), show (((d + 1 : Nat)) : Int) - 1 = (d : Int) by omega]
    exact e2
theorem divided_ok (l : List Int) (hl : ∀ x ∈ l, 0 ≤ x ∧ x ≤ 255) (p s : Int) (h0 : 0 ≤ p) (h1 : p ≤ 900) : ∃ v p' s' : Int, Ev (fun k => spec_l1Cur_divided.f k l p s) (v, p', s') ∧ p ≤ p' ∧ p' ≤ p + 30 := by
  obtain ⟨v1, p1, s1, e1, a1, b1, c1, d1, f1⟩ := pick_ok l hl p s 8 (by omega) (by omega) (by omega)
  simp only [spec_l1Cur_divided.f, e1, Option.bind_some]
  by_cases h0 : v1 = 0
  · obtain ⟨v, p2, s2, e2, _, h2, h3⟩ := among_ok l hl p1 s1 [(-1), 0, 1, 1000000000, 1000000001, 4611686018427387904] (by simp) (by simp) (by omega) (by omega)
    refine ⟨v, p2, s2, evp h0 ?_, by omega, by omega⟩
    simp only [e2, Option.bind_some]
    exact Ev.now _
  · by_cases h1 : v1 = 1
    · obtain ⟨v, p2, s2, e2, _, h2, h3⟩ := among_ok l hl p1 s1 [6, 28, 496, 8128, 220, 284, 1184, 1210, 12496, 14316, 2620, 276, 562] (by simp) (by simp) (by omega) (by omega)
      refine ⟨v, p2, s2, evn h0 (evp h1 ?_), by omega, by omega⟩
      simp only [e2, Option.bind_some]
      exact Ev.now _
    · by_cases h2 : v1 = 2
      · obtain ⟨v2, p2, s2, e2, a2, b2, c2, d2, f2⟩ := pick_ok l hl p1 s1 256 (by omega) (by omega) (by omega)
        obtain ⟨v3, p3, s3, e3, a3, b3, c3, d3, f3⟩ := pick_ok l hl p2 s2 256 (by omega) (by omega) (by omega)
        refine ⟨wrap64 (1 + wrap64 (v2 * v3)), p3, s3, evn h0 (evn h1 (evp h2 ?_)), by omega, by omega⟩
        simp only [e2, e3, Option.bind_some]
        exact Ev.now _
      · obtain ⟨v2, p2, s2, e2, a2, b2, c2, d2, f2⟩ := pick_ok l hl p1 s1 8 (by omega) (by omega) (by omega)
        obtain ⟨d, rfl⟩ := natOf (a := v2) a2
        obtain ⟨v3, p3, s3, e3, h4, h5⟩ := divided_loop l hl d 1 p2 s2 (by omega) (by omega)
        refine ⟨v3, p3, s3, evn h0 (evn h1 (evn h2 ?_)), by omega, by omega⟩
        simp only [e2, Option.bind_some]
        exact e3
theorem drawPrimeFactors_ok (l : List Int) (hl : ∀ x ∈ l, 0 ≤ x ∧ x ≤ 255) : ∃ n : Int, Ev (fun k => spec_DrawPrimeFactors.f k l) n := by
  obtain ⟨v, p, s, e, _, _⟩ := divided_ok l hl 0 0 (by omega) (by omega)
  exact ⟨v, evb e (Ev.now _)⟩

theorem laws_qSame_loop (post : List Int) : ∀ (pre post' : List Int), post'.length = post.length → (pre ++ post).length ≤ 4611686018427387904 →
    Ev (fun k => laws_qSame.l0 k (pre ++ post) (pre ++ post') ((pre ++ post).length : Int) (pre.length : Int)) (decide (post = post')) := by
  induction post with
  | nil =>
    intro pre post' hl h
    obtain rfl : post' = [] := List.eq_nil_of_length_eq_zero hl
    refine evs (fun k => by rw [laws_qSame.l0]) ?_
    exact evn (by simp) (evr (by simp))
  | cons x post ih =>
    intro pre post' hl h
    obtain ⟨y, post', rfl⟩ : ∃ y z, post' = y :: z := by cases post' with
      | nil => simp at hl
      | cons y z => exact ⟨y, z, rfl⟩
    refine evs (fun k => by rw [laws_qSame.l0]) ?_
    refine evp (by simp; omega) (evp (by omega) (evp (by simp; omega) (evp (by simp; omega) ?_)))
    rw [rd_mid, rd_mid]
    by_cases he : x = y
    · subst he
      refine evp rfl ?_
      have h2 := ih (pre ++ [x]) post' (by simpa using hl) (by simpa using h)
      simp only [List.append_assoc, List.singleton_append] at h2
      rw [w64 (by omega) (by simp at h; omega)]
      simpa using h2
    · exact evn he (evr (by simp [he]))
theorem laws_qSame_ev (l l' : List Int) (h : l.length ≤ 4611686018427387904) : Ev (fun k => laws_qSame.f k l l') (decide (l = l')) := by
  unfold laws_qSame.f
  by_cases hl : l.length = l'.length
  · exact evp (by omega) (by simpa using laws_qSame_loop l [] l' hl.symm (by simpa using h))
  · exact evn (by omega) (evr (by symm; rw [decide_eq_false_iff_not]; exact fun e => hl (by rw [e])))
theorem laws_qSame_self (l : List Int) (h : l.length ≤ 4611686018427387904) : Ev (fun k => laws_qSame.f k l l) true := by simpa using laws_qSame_ev l l h

theorem psum_ev (n : Nat) (h1 : 1 ≤ n) (h2 : n ≤ 1000000000) : Ev (fun k => impl_ProperSum.f k (n : Int)) (((pp n : Nat) : Int), true) := by
  unfold impl_ProperSum.f
  exact evc (impl_isDivided_eq _) (evp (decide_eq_true (by omega)) (evb (pp_ev n h1 h2).2 (Ev.now _)))
theorem pt_pp (n : Nat) : pt n = if pp n ≠ n ∧ 1 ≤ pp n ∧ pp n ≤ 1000000000 ∧ pp (pp n) = n then pp n else 0 := rfl
theorem pt_back (n : Nat) (h1 : 1 ≤ n) (h2 : n ≤ 1000000000) (h : 0 < pt n) : pt (pt n) = n ∧ pt n ≠ n ∧ 1 ≤ pt n ∧ pt n ≤ 1000000000 := by
  by_cases c : pp n ≠ n ∧ 1 ≤ pp n ∧ pp n ≤ 1000000000 ∧ pp (pp n) = n
  · have e : pt n = pp n := by rw [pt_pp, if_pos c]
    rw [e]
    refine ⟨?_, c.1, c.2.1, c.2.2.1⟩
    rw [pt_pp, c.2.2.2, if_pos ⟨fun e => c.1 e.symm, h1, h2, rfl⟩]
  · rw [pt_pp, if_neg c] at h
    omega
theorem partner_some (x : Int) : ∃ r : Int × Bool, Ev (fun k => impl_PartnerOf.f k x) r ∧ Ev (fun k => spec_PartnerOf.f k x) r ∧ (r = (0, false) ∨ ∃ n : Nat, x = (n : Int) ∧ 1 ≤ n ∧ n ≤ 1000000000 ∧ r = (((pt n : Nat) : Int), decide (((pt n : Nat) : Int) > 0))) := by
  by_cases h : 1 ≤ x ∧ x ≤ 1000000000
  · obtain ⟨n, rfl⟩ := natOf (a := x) (by omega)
    refine ⟨_, partner_impl n (by omega) (by omega), ?_, .inr ⟨n, rfl, by omega, by omega, rfl⟩⟩
    unfold spec_PartnerOf.f
    exact evc (spec_dvNumber_eq _) (evp (decide_eq_true h) (evb (partner_full n (by omega) (by omega)).1 (Ev.now _)))
  · refine ⟨(0, false), ?_, ?_, .inl rfl⟩
    · unfold impl_PartnerOf.f
      exact evc (impl_isDivided_eq _) (evn (by rw [decide_eq_false h]; simp) (Ev.now _))
    · unfold spec_PartnerOf.f
      exact evc (spec_dvNumber_eq _) (evn (by rw [decide_eq_false h]; simp) (Ev.now _))
theorem drawPartner_ok (l : List Int) (hl : ∀ x ∈ l, 0 ≤ x ∧ x ≤ 255) : ∃ n : Int, Ev (fun k => spec_DrawPartnerOf.f k l) n := by
  obtain ⟨n, h⟩ := drawPrimeFactors_ok l hl
  exact ⟨n, evb h (Ev.now _)⟩
theorem drawRun_ok (l : List Int) (hl : ∀ x ∈ l, 0 ≤ x ∧ x ≤ 255) : ∃ n most : Int, Ev (fun k => spec_DrawEndOfRun.f k l) (n, most) := by
  obtain ⟨n, p1, s1, e1, a1, b1⟩ := divided_ok l hl 0 0 (by omega) (by omega)
  obtain ⟨v, p2, s2, e2, a2, b2⟩ := one_ok l hl p1 s1 10 (by omega) (by omega) (by omega)
  by_cases g : v = true
  · obtain ⟨most, p3, s3, e3, _, _, _⟩ := among_ok l hl p2 s2 [0, 1, 60, 61] (by simp) (by simp) (by omega) (by omega)
    refine ⟨n, most, ?_⟩
    unfold spec_DrawEndOfRun.f
    refine evb (a := (n, most)) ?_ (Ev.now _)
    unfold spec_DrawProperRun.f
    exact evb e1 (evc e2 (evp g (evc e3 (Ev.now _))))
  · obtain ⟨x, p3, s3, e3, _, _, _, _, _⟩ := pick_ok l hl p2 s2 30 (by omega) (by omega) (by omega)
    refine ⟨n, wrap64 (1 + x), ?_⟩
    unfold spec_DrawEndOfRun.f
    refine evb (a := (n, wrap64 (1 + x))) ?_ (Ev.now _)
    unfold spec_DrawProperRun.f
    exact evb e1 (evc e2 (evn g (evc e3 (Ev.now _))))
theorem j6_ok (l : List Int) (hl : ∀ x ∈ l, 0 ≤ x ∧ x ≤ 255) : Ev (fun k => laws_FnProperRuns.j6 k l) true := by
  obtain ⟨x, e⟩ := drawPartner_ok l hl
  obtain ⟨r, r1, r2, r3⟩ := partner_some x
  refine evs (fun k => by rw [laws_FnProperRuns.j6]) ?_
  refine evb e (evb r1 (evb r2 (evn (by simp) ?_)))
  refine evs (fun k => by rw [laws_FnProperRuns.j7]) ?_
  refine evn (by simp) ?_
  rcases r3 with h | ⟨n, rfl, h1, h2, h⟩
  · subst h
    exact evn (by simp) (Ev.now _)
  · subst h
    by_cases g : ((pt n : Nat) : Int) > 0
    · obtain ⟨a1, a2, a3, a4⟩ := pt_back n h1 h2 (by omega)
      have hp := partner_impl (pt n) a3 a4
      rw [a1] at hp
      refine evp (decide_eq_true g) (evb hp (evp (decide_eq_true (by omega)) (evp rfl (evr ?_))))
      have : ¬ ((pt n : Nat) : Int) = (n : Int) := by omega
      simp [this]
    · exact evn (by rw [decide_eq_false g]; simp) (Ev.now _)
theorem circle_round {n m t : Nat} (hm : Goes n 60 m ∨ ∃ q, Goes n q m) (ht : t < m) (he : its pp m n = its pp t n) (i : Nat) (hi : i < (ic ((runto pp n m).drop t)).length) :
    (((pp ((ic ((runto pp n m).drop t))[i]).toNat : Nat)) : Int) = (ic ((runto pp n m).drop t))[(i + 1) % (ic ((runto pp n m).drop t)).length]'(Nat.mod_lt _ (by omega)) := by
  have hl : (ic ((runto pp n m).drop t)).length = m - t := by rw [ic_length, List.length_drop, runto_len]
  have g : ∀ j (h : j < (ic ((runto pp n m).drop t)).length), (ic ((runto pp n m).drop t))[j] = ((its pp (t + j) n : Nat) : Int) := by
    intro j h
    have h3 : ((runto pp n m).drop t)[j]? = some (its pp (t + j) n) := by rw [List.getElem?_drop]; exact runto_get _ _ _ _ (by omega)
    have h4 := (List.getElem?_eq_some_iff.1 h3).2
    simp only [ic, List.getElem_map]
    rw [h4]
  rw [g i hi, g _ (Nat.mod_lt _ (by omega)), Int.toNat_natCast, ← its_succ pp]
  by_cases h : i + 1 < m - t
  · rw [hl, Nat.mod_eq_of_lt h]
    rfl
  · have e1 : i + 1 = m - t := by omega
    rw [hl, e1, Nat.mod_self, show t + i + 1 = m by omega, he]
    rfl
theorem l1_ok (l : List Int) (hl : ∀ x ∈ l, 0 ≤ x ∧ x ≤ 255) (e : Nat) (R : List Int) (hR : R ≠ []) (hR2 : R.length ≤ 1000) (hin : ∀ x ∈ R, 1 ≤ x ∧ x ≤ 1000000000) (hmin : ∀ x ∈ R, rd R 0 ≤ x)
    (hround : ∀ i (hi : i < R.length), ((pp (R[i]).toNat : Nat) : Int) = R[(i + 1) % R.length]'(Nat.mod_lt _ (by omega))) (he : e = min R.length 3) (hnd : ∀ i j (hij : i < j) (hj : j < R.length), R[i]'(by omega) ≠ R[j]) (r : Nat) : ∀ i : Nat, i + r = R.length →
    Ev (fun k => laws_FnProperRuns.l1 k l (e : Int) R R (R.length : Int) (i : Int)) true := by
  have hp := List.length_pos_iff.2 hR
  have r0 : rd R 0 = R[0] := by
    have := rd_get R 0 hp
    exact this
  induction r with
  | zero =>
    intro i hi
    have : i = R.length := by omega
    subst this
    refine evs (fun k => by rw [laws_FnProperRuns.l1]) ?_
    have h0 := hin _ (List.getElem_mem hp)
    obtain ⟨c, hc⟩ := natOf (a := R[0]) (by omega)
    have hpt := partner_impl c (by omega) (by omega)
    rw [← hc] at hpt
    refine evn (by omega) (evp (by omega) ?_)
    rw [r0]
    refine evb hpt ?_
    have hr0 := hround 0 hp
    rw [hc, Int.toNat_natCast] at hr0
    have fin : Ev (fun k => laws_FnProperRuns.j5 k l (e : Int) R false) true := by
      refine evs (fun k => by rw [laws_FnProperRuns.j5]) ?_
      refine evn (by simp) (evn ?_ (evn ?_ (j6_ok l hl)))
      · by_cases h1 : R.length = 1
        · rw [he, h1]; decide
        · have a1 : ((e : Int) == 1) = false := beq_eq_false_iff_ne.2 (by omega)
          have a2 : ((R.length : Int) == 1) = false := beq_eq_false_iff_ne.2 (by omega)
          rw [a1, a2]; decide
      · by_cases h1 : R.length = 2
        · rw [he, h1]; decide
        · have a1 : ((e : Int) == 2) = false := beq_eq_false_iff_ne.2 (by omega)
          have a2 : ((R.length : Int) == 2) = false := beq_eq_false_iff_ne.2 (by omega)
          rw [a1, a2]; decide
    by_cases h2 : R.length = 2
    · have hr1 := hround 1 (by omega)
      have e1 : (0 + 1) % R.length = 1 := by rw [h2]
      have e2 : (1 + 1) % R.length = 0 := by rw [h2]
      simp only [e1] at hr0
      simp only [e2] at hr1
      have h1 := hin _ (List.getElem_mem (show 1 < R.length by omega))
      obtain ⟨d, hd⟩ := natOf (a := R[1]) (by omega)
      have hne := hnd 0 1 (by omega) (by omega)
      rw [hd] at hr0 hr1
      rw [hc, Int.toNat_natCast] at hr1
      have p1 : pp c = d := by omega
      have p2 : pp d = c := by omega
      have hptc : pt c = d := by
        rw [pt_pp, p1, p2, if_pos ⟨fun e => hne (by rw [hc, hd, e]), by omega, by omega, rfl⟩]
      have hdp : decide (((pt c : Nat) : Int) > 0) = true := decide_eq_true (by omega)
      have a2 : ((R.length : Int) == 2) = true := by rw [h2]; rfl
      simp only
      rw [hdp, a2]
      have rd1 : rd R 1 = (d : Int) := by
        have := rd_get R 1 (by omega)
        rw [← hd]
        exact this
      refine evn (by simp) (evp rfl (evp (by omega) ?_))
      rw [rd1, hptc]
      have : ((d : Int) != (d : Int)) = false := by simp
      rw [this]
      exact fin
    · have hptc : pt c = 0 := by
        rw [pt_pp]
        refine if_neg (fun h => ?_)
        by_cases h1 : R.length = 1
        · have e1 : (0 + 1) % R.length = 0 := by rw [h1]
          simp only [e1] at hr0
          exact h.1 (by omega)
        · have e1 : (0 + 1) % R.length = 1 := Nat.mod_eq_of_lt (by omega)
          have e2 : (1 + 1) % R.length = 2 := Nat.mod_eq_of_lt (by omega)
          have hr1 := hround 1 (by omega)
          simp only [e1] at hr0
          simp only [e2] at hr1
          rw [← hr0, Int.toNat_natCast, h.2.2.2] at hr1
          exact hnd 0 2 (by omega) (by omega) (by rw [hc]; exact hr1)
      have a2 : ((R.length : Int) == 2) = false := beq_eq_false_iff_ne.2 (by omega)
      rw [hptc]
      simp only
      rw [a2]
      exact evn (by simp) (evn (by simp) fin)
  | succ r ih =>
    intro i hi
    have hi2 : i < R.length := by omega
    have h0 := hin _ (List.getElem_mem hi2)
    have hm := hmin _ (List.getElem_mem hi2)
    have ri : rd R (i : Int) = R[i] := rd_get R i hi2
    obtain ⟨c, hc⟩ := natOf (a := R[i]) (by omega)
    have hs := psum_ev c (by omega) (by omega)
    have hr := hround i hi2
    have hnx : Int.tmod (wrap64 ((i : Int) + 1)) (R.length : Int) = (((i + 1) % R.length : Nat) : Int) := by
      rw [w64 (by omega) (by omega), show (i : Int) + 1 = ((i + 1 : Nat) : Int) by omega, tmod_cast]
    have hlt := Nat.mod_lt (i + 1) hp
    have rn := rd_get R ((i + 1) % R.length) hlt
    refine evs (fun k => by rw [laws_FnProperRuns.l1]) ?_
    rw [hnx, rn, ← hr, ri, hc, Int.toNat_natCast, w64 (x := (i : Int) + 1) (by omega) (by omega), show (i : Int) + 1 = ((i + 1 : Nat) : Int) by omega]
    exact evp (by omega) (evp (by omega) (evp (by omega) (evb hs (evp rfl (evn (by omega) (evp (by omega) (evp (by omega) (evp rfl (evp (by omega) (evn (by omega) (ih (i + 1) (by omega))))))))))))
theorem l0_ok (l : List Int) (n m e : Nat) (C : List Nat) (q : Nat) (hg : Goes n q m) (hq : q ≤ 60) (hE : Ends n m e C) (hn : Ev (fun k => laws_FnProperRuns.j3 k l (e : Int) (leastFirst (ic C)) (decide (C ≠ []))) true) (r : Nat) : ∀ i : Nat, i + 1 + r = m →
    Ev (fun k => laws_FnProperRuns.l0 k l (e : Int) (ic (runto pp n m)) (leastFirst (ic C)) (decide (C ≠ [])) ((i + 1 : Nat) : Int)) true := by
  have hlen : (ic (runto pp n m)).length = m := by rw [ic_length, runto_len]
  have hmq := hg.le
  have g : ∀ j, j < m → rd (ic (runto pp n m)) (j : Int) = ((its pp j n : Nat) : Int) := by
    intro j hj
    rw [rd_get _ _ (by omega)]
    have h4 := (List.getElem?_eq_some_iff.1 (runto_get pp n m j hj)).2
    simp only [ic, List.getElem_map]
    rw [h4]
  induction r with
  | zero =>
    intro i hi
    have hb := hg.in_ i (by omega)
    have hs := psum_ev _ hb.1 hb.2
    rw [← its_succ pp, hi.symm.trans rfl |> (fun (h : m = i + 1 + 0) => show i + 1 = m by omega)] at hs
    refine evs (fun k => by rw [laws_FnProperRuns.l0]) ?_
    rw [hlen, w64 (x := (m : Int) - 1) (by omega) (by omega), show (m : Int) - 1 = (i : Int) by omega, g i (by omega)]
    refine evn (by omega) (evp (by omega) (evp (by omega) (evb hs (evp rfl (evn ?_ (evn ?_ hn))))))
    · cases hE with
      | one h => rw [h]; decide
      | big h =>
        have a2 : (((its pp m n : Nat) : Int) == 0) = false := beq_eq_false_iff_ne.2 (by omega)
        simp only
        rw [a2]; decide
      | long h h2 h3 =>
        have a2 : (((its pp m n : Nat) : Int) == 0) = false := beq_eq_false_iff_ne.2 (by omega)
        simp only
        rw [a2]; decide
      | back t h h2 h3 h4 =>
        have a2 : (((its pp m n : Nat) : Int) == 0) = false := beq_eq_false_iff_ne.2 (by omega)
        have a1 : (((min (m - t) 3 : Nat) : Int) == 0) = false := beq_eq_false_iff_ne.2 (by omega)
        simp only
        rw [a1, a2]; decide
    · cases hE with
      | one h => rw [h]; decide
      | big h =>
        have a2 : decide (((its pp m n : Nat) : Int) > 1000000000) = true := decide_eq_true (by omega)
        simp only
        rw [a2]; decide
      | long h h2 h3 =>
        have a2 : decide (((its pp m n : Nat) : Int) > 1000000000) = false := decide_eq_false (by omega)
        simp only
        rw [a2]; decide
      | back t h h2 h3 h4 =>
        have a2 : decide (((its pp m n : Nat) : Int) > 1000000000) = false := decide_eq_false (by omega)
        have a1 : (((min (m - t) 3 : Nat) : Int) == 4) = false := beq_eq_false_iff_ne.2 (by omega)
        simp only
        rw [a1, a2]; decide
  | succ r ih =>
    intro i hi
    have hb := hg.in_ i (by omega)
    have hs := psum_ev _ hb.1 hb.2
    rw [← its_succ pp] at hs
    have h2 := ih (i + 1) (by omega)
    refine evs (fun k => by rw [laws_FnProperRuns.l0]) ?_
    rw [hlen, w64 (x := ((i + 1 : Nat) : Int) - 1) (by omega) (by omega), show ((i + 1 : Nat) : Int) - 1 = (i : Int) by omega, g i (by omega), g (i + 1) (by omega), w64 (x := ((i + 1 : Nat) : Int) + 1) (by omega) (by omega), show ((i + 1 : Nat) : Int) + 1 = ((i + 1 + 1 : Nat) : Int) by omega]
    exact evp (by omega) (evp (by omega) (evp (by omega) (evb hs (evp rfl (evp (by omega) (evp rfl h2))))))
theorem getElem_rot_inj (l : List Int) (hnd : l.Nodup) (i j : Nat) (hij : i < j) (hj : j < l.length) : l[i]'(by omega) ≠ l[j] := by
  have := List.pairwise_iff_getElem.1 hnd i j (by omega) hj hij
  exact this
theorem j3_ok (l : List Int) (hl : ∀ x ∈ l, 0 ≤ x ∧ x ≤ 255) (n m e q : Nat) (C : List Nat) (hg : Goes n q m) (hq : q ≤ 60) (hE : Ends n m e C) : Ev (fun k => laws_FnProperRuns.j3 k l (e : Int) (leastFirst (ic C)) (decide (C ≠ []))) true := by
  refine evs (fun k => by rw [laws_FnProperRuns.j3]) ?_
  have hmq := hg.le
  cases hE with
  | one h => exact evn (by simp) (j6_ok l hl)
  | big h => exact evn (by simp) (j6_ok l hl)
  | long h h2 h3 => exact evn (by simp) (j6_ok l hl)
  | back t ht he h3 h4 =>
    have hl2 : (ic ((runto pp n m).drop t)).length = m - t := by rw [ic_length, List.length_drop, runto_len]
    have hne : ic ((runto pp n m).drop t) ≠ [] := fun h => by rw [h] at hl2; simp at hl2; omega
    have hne2 : (runto pp n m).drop t ≠ [] := fun h => hne (by rw [h]; rfl)
    have hlf := leastFirst_len (ic ((runto pp n m).drop t))
    have hcome : Comes pp n m t := ⟨ht, he, hg.new⟩
    have hnd : (ic ((runto pp n m).drop t)).Nodup := by
      have h1 := (runto_nodup hcome m (Nat.le_refl _)).sublist (List.drop_sublist t _)
      unfold ic
      exact List.Pairwise.map _ (fun a b hab e => hab (by omega)) h1
    refine evp (decide_eq_true hne2) ?_
    have hin : ∀ x ∈ leastFirst (ic ((runto pp n m).drop t)), 1 ≤ x ∧ x ≤ 1000000000 := by
      intro x hx
      rw [leastFirst_mem] at hx
      unfold ic at hx
      obtain ⟨y, hy, rfl⟩ := List.mem_map.1 hx
      obtain ⟨i, hi, rfl⟩ := (runto_mem _ _ _ _).1 (List.mem_of_mem_drop hy)
      have := hg.in_ i hi
      omega
    have hne3 : leastFirst (ic ((runto pp n m).drop t)) ≠ [] := fun h => by rw [h] at hlf; simp at hlf; omega
    have hz := leastFirst_zero _ hne
    refine l1_ok l hl _ _ hne3 (by omega) hin ?_ ?_ (by rw [hlf, hl2]) ?_ (leastFirst (ic ((runto pp n m).drop t))).length 0 (by omega)
    · intro x hx
      have r0 : rd (leastFirst (ic ((runto pp n m).drop t))) 0 = leastI (ic ((runto pp n m).drop t)) := by
        rw [← hz]
        exact rd_get _ 0 (by omega)
      rw [r0]
      exact leastI_le _ _ ((leastFirst_mem _ _).1 hx)
    · intro i hi
      have := leastFirst_round (ic ((runto pp n m).drop t)) hne (fun x => ((pp x.toNat : Nat) : Int)) (fun i hi => circle_round (.inr ⟨q, hg⟩) ht he i hi) i (by omega)
      simp only [hlf] at this ⊢
      exact this
    · intro i j hij hj
      exact getElem_rot_inj _ (rot_nodup _ _ hnd) i j hij hj
theorem FnProperRuns : laws_FnProperRuns.Pure := by
  intro l0 l1 _ _ w0 _ _ w1
  have hb : ∀ l : List Int, (∀ x ∈ l, (Lit.int .u8 x).wf = true) → ∀ x ∈ l, 0 ≤ x ∧ x ≤ 255 := by
    intro l h x hx
    have := h x hx
    simpa [Lit.wf, IntKind.min, IntKind.max, IntKind.signed, IntKind.bits] using this
  have hl0 := hb l0 w0
  have hl1 := hb l1 w1
  refine Ev.rounds (g := fun k => laws_FnProperRuns.f k l0 l1) ?_
  unfold laws_FnProperRuns.f
  obtain ⟨t, ht⟩ : ∃ t, laws_big.f l0 l1 = some t := by
    unfold laws_big.f
    split <;> exact ⟨_, rfl⟩
  refine evc ht ?_
  cases t with
  | true => exact evp rfl (Ev.now _)
  | false =>
    refine evn (by simp) ?_
    obtain ⟨n, most, e0⟩ := drawRun_ok l0 hl0
    refine evb e0 ?_
    by_cases h : (1 ≤ n ∧ n ≤ 1000000000) ∧ 1 ≤ most ∧ most ≤ 60
    · obtain ⟨n, rfl⟩ := natOf (a := n) (by omega)
      obtain ⟨most, rfl⟩ := natOf (a := most) (by omega)
      obtain ⟨m, e, C, hg, hE, hs, hi, a, b⟩ := ends_ev n most (by omega) (by omega) (by omega) (by omega)
      have hm1 := hg.pos
      have hm2 := hg.le
      have hl := ends_len hE
      obtain ⟨c1, c2⟩ := circ_ev n most e C (by omega) (by omega) (by omega) (by omega) (by omega) a b
      have iE : Ev (fun k => impl_EndOfRun.f k (n : Int) (most : Int)) ((e : Int), true) := evc (impl_isDivided_eq _) (evp (decide_eq_true h.1) (evc (impl_in_eq _ 1 60) (evp (decide_eq_true h.2) (evb b (Ev.now _)))))
      have sE : Ev (fun k => spec_EndOfRun.f k (n : Int) (most : Int)) ((e : Int), true) := evc (spec_dvNumber_eq _) (evp (decide_eq_true h.1) (evc (spec_dvTerms_eq _) (evp (decide_eq_true h.2) (evb a (Ev.now _)))))
      have iP : Ev (fun k => impl_ProperRun.f k (n : Int) (most : Int)) (ic (runto pp n m), true) := evc (impl_isDivided_eq _) (evp (decide_eq_true h.1) (evc (impl_in_eq _ 1 60) (evp (decide_eq_true h.2) (evb hi (Ev.now _)))))
      have sP : Ev (fun k => spec_ProperRun.f k (n : Int) (most : Int)) (ic (runto pp n m), true) := evc (spec_dvNumber_eq _) (evp (decide_eq_true h.1) (evc (spec_dvTerms_eq _) (evp (decide_eq_true h.2) (evb hs (Ev.now _)))))
      have hlen : (ic (runto pp n m)).length = m := by rw [ic_length, runto_len]
      refine evb iE (evb sE (evb iP (evb sP (evb c2 (evb c1 ?_)))))
      refine evn (by simp) (evp rfl (evn (by simp) (evb (laws_qSame_self _ (by simp only; omega)) (evp rfl (evn (by simp) (evb (laws_qSame_self _ (by simp only [leastFirst_len, ic_length]; omega)) (evp rfl (evn (by simp) (evp rfl ?_)))))))))
      have hj0 : ∀ x : Bool, x = false → Ev (fun k => laws_FnProperRuns.j0 k l1 (n : Int) (most : Int) (e : Int) true (ic (runto pp n m)) (leastFirst (ic C)) (decide (C ≠ [])) x) true := by
        intro x hx
        subst hx
        refine evs (fun k => by rw [laws_FnProperRuns.j0]) ?_
        have r0 : rd (ic (runto pp n m)) 0 = (n : Int) := by
          have h1 := rd_get (ic (runto pp n m)) 0 (by omega)
          have h4 := (List.getElem?_eq_some_iff.1 (runto_get pp n m 0 (by omega))).2
          simp only [ic, List.getElem_map] at h1
          rw [h4] at h1
          exact h1
        refine evn (by simp) (evp rfl (evp (by omega) (evp r0 ?_)))
        rw [decide_eq_false (show ¬ ((ic (runto pp n m)).length : Int) > (most : Int) by omega)]
        refine evs (fun k => by rw [laws_FnProperRuns.j1]) ?_
        refine evn (by simp) ?_
        exact l0_ok l1 n m e C most hg (by omega) hE (j3_ok l1 hl1 n m e most C hg (by omega) hE) (m - 1) 0 (by omega)
      by_cases h1 : (e : Int) ≥ 1
      · refine evp h1 (hj0 _ ?_)
        cases hE with
        | one h => exact absurd h1 (by decide)
        | big h => decide
        | long h h2 h3 => decide
        | back t ht he h3 h4 =>
          have hne2 : (runto pp n m).drop t ≠ [] := fun h => by
            have := congrArg List.length h
            rw [List.length_drop, runto_len] at this
            simp at this
            omega
          simp only
          rw [decide_eq_true hne2, decide_eq_true (show ((min (m - t) 3 : Nat) : Int) ≤ 3 by omega)]
          rfl
      · refine evn h1 (hj0 _ ?_)
        cases hE with
        | one h => decide
        | big h => exact absurd h1 (by decide)
        | long h h2 h3 => exact absurd h1 (by decide)
        | back t ht he h3 h4 => exact absurd h1 (by omega)
    · obtain ⟨c1, c2⟩ := circ_no n most h
      have no : Ev (fun k => impl_EndOfRun.f k n most) (0, false) ∧ Ev (fun k => spec_EndOfRun.f k n most) (0, false) ∧ Ev (fun k => impl_ProperRun.f k n most) ([], false) ∧ Ev (fun k => spec_ProperRun.f k n most) ([], false) := by
        unfold impl_EndOfRun.f spec_EndOfRun.f impl_ProperRun.f spec_ProperRun.f
        by_cases h1 : 1 ≤ n ∧ n ≤ 1000000000
        · have h2 : ¬ (1 ≤ most ∧ most ≤ 60) := fun h2 => h ⟨h1, h2⟩
          have d2 : ¬ decide (1 ≤ most ∧ most ≤ 60) = true := by rw [decide_eq_false h2]; simp
          exact ⟨evc (impl_isDivided_eq _) (evp (decide_eq_true h1) (evc (impl_in_eq _ 1 60) (evn d2 (Ev.now _)))), evc (spec_dvNumber_eq _) (evp (decide_eq_true h1) (evc (spec_dvTerms_eq _) (evn d2 (Ev.now _)))), evc (impl_isDivided_eq _) (evp (decide_eq_true h1) (evc (impl_in_eq _ 1 60) (evn d2 (Ev.now _)))), evc (spec_dvNumber_eq _) (evp (decide_eq_true h1) (evc (spec_dvTerms_eq _) (evn d2 (Ev.now _))))⟩
        · have d1 : ¬ decide (1 ≤ n ∧ n ≤ 1000000000) = true := by rw [decide_eq_false h1]; simp
          exact ⟨evc (impl_isDivided_eq _) (evn d1 (Ev.now _)), evc (spec_dvNumber_eq _) (evn d1 (Ev.now _)), evc (impl_isDivided_eq _) (evn d1 (Ev.now _)), evc (spec_dvNumber_eq _) (evn d1 (Ev.now _))⟩
      refine evb no.1 (evb no.2.1 (evb no.2.2.1 (evb no.2.2.2 (evb c2 (evb c1 ?_)))))
      refine evn (by simp) (evp rfl (evn (by simp) (evb (laws_qSame_self _ (by simp)) (evp rfl (evn (by simp) (evb (laws_qSame_self _ (by simp)) (evp rfl (evn (by simp) (evn (by simp) ?_)))))))))
      refine evs (fun k => by rw [laws_FnProperRuns.j0]) ?_
      refine evn (by simp) (evn (by simp) ?_)
      refine evs (fun k => by rw [laws_FnProperRuns.j3]) ?_
      exact evn (by simp) (j6_ok l1 hl1)

end Go.Proofs.Ytiheocddlopfcaa.Pure
