/- For all codes: ways to 1 are steps, levels of the tree have the numbers with as many, and records are told. -/
import Derived.Test.YtclnhbppcmcalaaPFnStepsToOnex7
import Derived.Test.YtclnhbppcmcalaaWMore
set_option linter.unusedVariables false
set_option linter.unusedSimpArgs false
namespace Go.Proofs.Ytclnhbppcmcalaa.Pure
open Go.RowKit Go.Proofs.Ytclnhbppcmcalaa.PFnStepsToOne Go.Proofs.YtclnhbppcmcalaaW.PrintWords Go.Proofs.YtclnhbppcmcalaaW.PrintLast

theorem w64 {x : Int} (h1 : -9223372036854775808 ≤ x) (h2 : x ≤ 9223372036854775807) : wrap64 x = x := by unfold wrap64; omega

theorem w64n (n : Nat) (h : n ≤ 9223372036854775807) : wrap64 (n : Int) = (n : Int) := w64 (by omega) (by omega)

theorem evp {α : Type} {c : Prop} [Decidable c] {a b : Nat → Option α} {r : α} (h : c) (k : Ev a r) : Ev (fun n => if c then a n else b n) r := Ev.congr (fun _ => if_pos h) k
theorem evn {α : Type} {c : Prop} [Decidable c] {a b : Nat → Option α} {r : α} (h : ¬ c) (k : Ev b r) : Ev (fun n => if c then a n else b n) r := Ev.congr (fun _ => if_neg h) k
theorem evr {α : Type} {x r : α} (h : x = r) : Ev (fun _ => some x) r := h ▸ Ev.now x
theorem evb {α β : Type} {g : Nat → Option α} {f : Nat → α → Option β} {a : α} {r : β} (h : Ev g a) (k : Ev (fun n => f n a) r) : Ev (fun n => (g n).bind fun x => f n x) r := Ev.bind h k
theorem evc {α β : Type} {x : Option α} {a : α} {f : Nat → α → Option β} {r : β} (h : x = some a) (k : Ev (fun n => f n a) r) : Ev (fun n => x.bind fun y => f n y) r := by subst h; exact k
theorem evs {α : Type} {g f : Nat → Option α} {r : α} (h : ∀ k, g (k + 1) = f k) (k : Ev f r) : Ev g r := Ev.step h k
theorem rd_mid (pre post : List Int) (x : Int) : rd (pre ++ x :: post) (pre.length : Int) = x := by simp [rd]
theorem rd_mem (xs : List Int) (i : Int) (h0 : 0 ≤ i) (h : i < xs.length) : rd xs i ∈ xs := by
  have hi : i.toNat < xs.length := by omega
  simp only [rd, List.getD_eq_getElem?_getD, List.getElem?_eq_getElem hi, Option.getD_some]
  exact List.getElem_mem hi
def ic (l : List Nat) : List Int := l.map (fun x : Nat => (x : Int))
theorem ic_nil : ic [] = [] := rfl
theorem ic_cons (x : Nat) (l : List Nat) : ic (x :: l) = (x : Int) :: ic l := rfl
theorem ic_append (l m : List Nat) : ic (l ++ m) = ic l ++ ic m := by simp [ic]
theorem ic_length (l : List Nat) : (ic l).length = l.length := by simp [ic]
theorem ic_rd (pre post : List Nat) (x : Nat) : rd (ic (pre ++ x :: post)) (pre.length : Int) = (x : Int) := by
  rw [ic_append, ic_cons, show ((pre.length : Nat) : Int) = (((ic pre).length : Nat) : Int) by simp [ic], rd_mid]

theorem impl_in_eq (a b c : Int) : impl_in.f a b c = some (decide (b ≤ a ∧ a ≤ c)) := by
  unfold impl_in.f
  by_cases h : b ≤ a <;> simp [h]
theorem spec_l1In_eq (a b c : Int) : spec_l1In.f a b c = some (decide (b ≤ a ∧ a ≤ c)) := by
  unfold spec_l1In.f
  by_cases h : b ≤ a <;> simp [h]

theorem tmod_cast (a b : Nat) : Int.tmod (a : Int) (b : Int) = ((a % b : Nat) : Int) := (Int.ofNat_tmod a b).symm
theorem tdiv_cast (a b : Nat) : Int.tdiv (a : Int) (b : Int) = ((a / b : Nat) : Int) := (Int.ofNat_tdiv a b).symm
theorem natOf {a : Int} (h : 0 ≤ a) : ∃ n : Nat, a = (n : Int) := ⟨a.toNat, by omega⟩

/-! Ways by halves and three times and one. -/
def stp (n : Nat) : Nat := if n % 2 = 0 then n / 2 else 3 * n + 1
theorem stp_pos {n : Nat} (h : 1 ≤ n) : 1 ≤ stp n := by unfold stp; split <;> omega
theorem impl_stepWith_nat (n : Nat) (h : n ≤ 1000000000000) : impl_stepWith.f (n : Int) 1 = some ((stp n : Nat) : Int) := by
  unfold impl_stepWith.f stp
  rw [show (2 : Int) = ((2 : Nat) : Int) from rfl, tmod_cast, tdiv_cast]
  by_cases hc : n % 2 = 0
  · rw [if_pos (by omega), if_pos hc, w64n _ (by omega)]
  · rw [if_neg (by omega), if_neg hc, w64 (x := 3 * (n : Int)) (by omega) (by omega), w64 (by omega) (by omega)]
    congr 1
theorem spec_stStep_nat (n : Nat) (h : n ≤ 1000000000000) : spec_stStep.f (n : Int) 1 = some ((stp n : Nat) : Int) := by
  have : spec_stStep.f (n : Int) 1 = impl_stepWith.f (n : Int) 1 := rfl
  rw [this, impl_stepWith_nat n h]
theorem isPlace_eq (a : Int) : impl_isPlace.f a = some (decide (1 ≤ a ∧ a ≤ 1000000000000)) := by
  unfold impl_isPlace.f
  rw [impl_in_eq]
  rfl
theorem stNumber_eq (a : Int) : spec_stNumber.f a = some (decide (1 ≤ a ∧ a ≤ 1000000000000)) := by
  unfold spec_stNumber.f
  rw [spec_l1In_eq]
  rfl
def wayN (e : Nat → Bool) : Nat → Nat → Option (List Nat)
  | 0, n => if e n = true then some [n] else none
  | r + 1, n => if e n = true then some [n] else if stp n > 1000000000000 then none else (wayN e r (stp n)).map (n :: ·)
def wr (pre : List Nat) : Option (List Nat) → List Int × Bool
  | some l => (ic (pre ++ l), true)
  | none => ([], false)
theorem wr_map (pre : List Nat) (n : Nat) (o : Option (List Nat)) : wr pre (o.map (n :: ·)) = wr (pre ++ [n]) o := by
  cases o with
  | none => rfl
  | some l => simp [wr]
theorem impl_way_ev (e : Nat → Bool) (e' : Int → Bool) (he : ∀ n : Nat, e' (n : Int) = e n) : ∀ (r n : Nat) (pre : List Nat), 1 ≤ n → n ≤ 1000000000000 → pre.length + r = 1000 →
    Ev (fun k => impl_toOne.wy e' k (ic (pre ++ [n])) (n : Int) (pre.length : Int)) (wr pre (wayN e r n)) := by
  intro r
  induction r with
  | zero =>
    intro n pre h1 h2 hp
    refine evs (fun k => by rw [impl_toOne.wy]) ?_
    rw [he]
    by_cases h : e n = true
    · rw [wayN, if_pos h]
      exact evp h (Ev.now _)
    · rw [wayN, if_neg h]
      exact evn h (evc (impl_stepWith_nat n h2) (evp (by omega) (Ev.now _)))
  | succ r ih =>
    intro n pre h1 h2 hp
    refine evs (fun k => by rw [impl_toOne.wy]) ?_
    rw [he]
    by_cases h : e n = true
    · rw [wayN, if_pos h]
      exact evp h (Ev.now _)
    · rw [wayN, if_neg h]
      by_cases hs : stp n > 1000000000000
      · rw [if_pos hs]
        exact evn h (evc (impl_stepWith_nat n h2) (evn (by omega) (evp (by omega) (Ev.now _))))
      · rw [if_neg hs, wr_map]
        have h3 := ih (stp n) (pre ++ [n]) (stp_pos h1) (by omega) (by simp; omega)
        have hl : (ic (pre ++ [n])).length = pre.length + 1 := by simp [ic_length]
        rw [ic_append, show ic [stp n] = [((stp n : Nat) : Int)] from rfl, show (((pre ++ [n]).length : Nat) : Int) = (pre.length : Int) + 1 by simp] at h3
        refine evn h (evc (impl_stepWith_nat n h2) (evn (by omega) (evn (by omega) (evp (by omega) ?_))))
        rw [w64 (x := (pre.length : Int) + 1) (by omega) (by omega)]
        exact h3
theorem spec_way_ev : ∀ (r n : Nat) (pre : List Nat), 1 ≤ n → n ≤ 1000000000000 → pre.length + r = 1000 →
    Ev (fun k => spec_stWay.l0 k (n : Int) (ic (pre ++ [n]))) (wr pre (wayN (fun x => x == 1) r n)) := by
  intro r
  induction r with
  | zero =>
    intro n pre h1 h2 hp
    refine evs (fun k => by rw [spec_stWay.l0]) ?_
    by_cases h : n = 1
    · rw [wayN, if_pos (by simpa using h)]
      exact evp (by omega) (Ev.now _)
    · rw [wayN, if_neg (by simpa using h)]
      have hl : (ic (pre ++ [n])).length = pre.length + 1 := by simp [ic_length]
      refine evn (by omega) (evc (spec_stStep_nat n h2) (evc (stNumber_eq _) ?_))
      by_cases hs : (1 : Int) ≤ ((stp n : Nat) : Int) ∧ ((stp n : Nat) : Int) ≤ 1000000000000
      · exact evp (by simpa using hs) (evp (by omega) (Ev.now _))
      · exact evn (by simpa using hs) (Ev.now _)
  | succ r ih =>
    intro n pre h1 h2 hp
    refine evs (fun k => by rw [spec_stWay.l0]) ?_
    by_cases h : n = 1
    · rw [wayN, if_pos (by simpa using h)]
      exact evp (by omega) (Ev.now _)
    · rw [wayN, if_neg (by simpa using h)]
      have hl : (ic (pre ++ [n])).length = pre.length + 1 := by simp [ic_length]
      have hp1 := stp_pos h1
      refine evn (by omega) (evc (spec_stStep_nat n h2) (evc (stNumber_eq _) ?_))
      by_cases hs : stp n > 1000000000000
      · rw [if_pos hs]
        exact evn (by simp; omega) (Ev.now _)
      · rw [if_neg hs, wr_map]
        have h3 := ih (stp n) (pre ++ [n]) hp1 (by omega) (by simp; omega)
        rw [ic_append, show ic [stp n] = [((stp n : Nat) : Int)] from rfl] at h3
        exact evp (by simp; omega) (evn (by omega) (evp (by omega) h3))
def wo (a : Int) : Option (List Nat) := if 1 ≤ a ∧ a ≤ 1000000000000 then wayN (fun x => x == 1) 1000 a.toNat else none
theorem toOne_ev (a : Int) : Ev (fun k => impl_toOne.f k a) (wr [] (wo a)) := by
  unfold impl_toOne.f wo
  rw [isPlace_eq]
  by_cases h : 1 ≤ a ∧ a ≤ 1000000000000
  · obtain ⟨n, rfl⟩ := natOf (a := a) (by omega)
    rw [if_pos h, Int.toNat_natCast]
    have := impl_way_ev (fun x => x == 1) (fun x => x == 1) (fun m => by
      by_cases hm : m = 1
      · subst hm; rfl
      · have h1 : ((m : Int) == 1) = false := beq_eq_false_iff_ne.mpr (by omega)
        have h2 : (m == 1) = false := beq_eq_false_iff_ne.mpr hm
        rw [h1, h2]) 1000 n [] (by omega) (by omega) (by simp)
    exact evc rfl (evp (by simpa using h) (by simpa [ic] using this))
  · rw [if_neg h]
    exact evc rfl (evn (by simpa using h) (Ev.now _))
theorem stWay_ev (n : Nat) (h1 : 1 ≤ n) (h2 : n ≤ 1000000000000) : Ev (fun k => spec_stWay.f k (n : Int)) (wr [] (wo (n : Int))) := by
  unfold spec_stWay.f wo
  rw [if_pos (by omega), Int.toNat_natCast]
  have := spec_way_ev 1000 n [] h1 h2 (by simp)
  simpa [ic] using this
theorem wayToOne_ev (a : Int) : Ev (fun k => impl_WayToOne.f k a) (wr [] (wo a)) ∧ Ev (fun k => spec_WayToOne.f k a) (wr [] (wo a)) := by
  constructor
  · unfold impl_WayToOne.f
    exact evb (toOne_ev a) (Ev.now _)
  · unfold spec_WayToOne.f
    rw [stNumber_eq]
    by_cases h : 1 ≤ a ∧ a ≤ 1000000000000
    · obtain ⟨n, rfl⟩ := natOf (a := a) (by omega)
      exact evc rfl (evp (by simpa using h) (evb (stWay_ev n (by omega) (by omega)) (Ev.now _)))
    · refine evc rfl (evn (by simpa using h) ?_)
      unfold wo
      rw [if_neg h]
      exact Ev.now _
def snR (a : Int) : Int × Bool := match wo a with
  | some l => ((l.length : Int) - 1, true)
  | none => (0, false)
def IsWay (e : Nat → Bool) : List Nat → Prop
  | [] => False
  | [n] => e n = true
  | n :: m :: l => e n = false ∧ m = stp n ∧ m ≤ 1000000000000 ∧ IsWay e (m :: l)
theorem wayN_is (e : Nat → Bool) : ∀ (r n : Nat) (l : List Nat), wayN e r n = some l → ∃ t, l = n :: t ∧ IsWay e l ∧ l.length ≤ r + 1
  | 0, n, l, h => by
    rw [wayN] at h
    by_cases he : e n = true
    · rw [if_pos he] at h
      obtain rfl := Option.some.inj h
      exact ⟨[], rfl, he, by simp⟩
    · rw [if_neg he] at h; exact absurd h (by simp)
  | r + 1, n, l, h => by
    rw [wayN] at h
    by_cases he : e n = true
    · rw [if_pos he] at h
      obtain rfl := Option.some.inj h
      exact ⟨[], rfl, he, by simp⟩
    · rw [if_neg he] at h
      by_cases hs : stp n > 1000000000000
      · rw [if_pos hs] at h; exact absurd h (by simp)
      · rw [if_neg hs] at h
        obtain ⟨t, ht, rfl⟩ := Option.map_eq_some_iff.1 h
        obtain ⟨u, rfl, h2, h3⟩ := wayN_is e r (stp n) t ht
        exact ⟨_, rfl, ⟨by simpa using he, rfl, by omega, h2⟩, by simp at h3 ⊢; omega⟩
theorem wo_is {a : Int} {l : List Nat} (h : wo a = some l) : ∃ n t, a = ((n : Nat) : Int) ∧ 1 ≤ n ∧ n ≤ 1000000000000 ∧ l = n :: t ∧ IsWay (fun x => x == 1) l ∧ l.length ≤ 1001 := by
  unfold wo at h
  by_cases hc : 1 ≤ a ∧ a ≤ 1000000000000
  · rw [if_pos hc] at h
    obtain ⟨n, rfl⟩ := natOf (a := a) (by omega)
    rw [Int.toNat_natCast] at h
    obtain ⟨t, h1, h2, h3⟩ := wayN_is _ _ _ _ h
    exact ⟨n, t, rfl, by omega, by omega, h1, h2, h3⟩
  · rw [if_neg hc] at h; exact absurd h (by simp)
theorem stepsTo_ev (a : Int) : Ev (fun k => impl_StepsTo.f k a) (snR a) ∧ Ev (fun k => spec_StepsTo.f k a) (snR a) := by
  unfold impl_StepsTo.f spec_StepsTo.f
  rw [stNumber_eq]
  cases hw : wo a with
  | some l =>
    have hs : snR a = ((l.length : Int) - 1, true) := by unfold snR; rw [hw]
    obtain ⟨n, t, rfl, h1, h2, rfl, _, h3⟩ := wo_is hw
    have e1 := toOne_ev (n : Int)
    have e2 := stWay_ev n h1 h2
    rw [hw] at e1 e2
    rw [hs]
    have hl : (ic ([] ++ n :: t)).length = t.length + 1 := by simp [ic_length]
    simp only [List.length_cons] at h3 ⊢
    constructor
    · refine evb e1 (evr ?_)
      simp only [wr]
      rw [hl, w64 (by omega) (by omega)]
      unfold mx
      rw [if_neg (by omega)]
    · refine evc rfl (evp (by simp; omega) (evb e2 ?_))
      simp only [wr]
      refine evp trivial (evr ?_)
      rw [hl, w64 (by omega) (by omega)]
  | none =>
    have hs : snR a = (0, false) := by unfold snR; rw [hw]
    have e1 := toOne_ev a
    rw [hw] at e1
    rw [hs]
    constructor
    · refine evb e1 (evr ?_)
      simp only [wr, List.length_nil]
      rw [w64 (by omega) (by omega)]
      unfold mx
      rw [if_pos (by omega)]
    · by_cases hc : 1 ≤ a ∧ a ≤ 1000000000000
      · obtain ⟨n, rfl⟩ := natOf (a := a) (by omega)
        have e2 := stWay_ev n (by omega) (by omega)
        rw [hw] at e2
        exact evc rfl (evp (by simpa using hc) (evb e2 (evn (by simp [wr]) (Ev.now _))))
      · exact evc rfl (evn (by simpa using hc) (Ev.now _))
/-! The greatest on a way. -/
def mxl (m : Nat) (l : List Nat) : Nat := l.foldl (fun a b => if b > a then b else a) m
theorem mxl_cons (m x : Nat) (l : List Nat) : mxl m (x :: l) = mxl (if x > m then x else m) l := rfl
theorem max_ic (l : List Nat) : ∀ m : Nat, (ic l).foldl max (m : Int) = ((mxl m l : Nat) : Int) := by
  induction l with
  | nil => intro m; rfl
  | cons x l ih =>
    intro m
    rw [ic_cons, List.foldl_cons, mxl_cons, ← ih]
    congr 1
    by_cases h : x > m
    · rw [if_pos h]; omega
    · rw [if_neg h]; omega
theorem great_spec (post : List Nat) : ∀ (pre : List Nat) (m : Nat), pre.length + post.length ≤ 100000 → Ev (fun k => spec_GreatestOn.l0 k true (m : Int) (ic (pre ++ post)) ((ic (pre ++ post)).length : Int) (pre.length : Int)) (((mxl m post : Nat) : Int), true) := by
  induction post with
  | nil =>
    intro pre m h
    refine evs (fun k => by rw [spec_GreatestOn.l0]) ?_
    exact evn (by simp [ic_length]) (Ev.now _)
  | cons x post ih =>
    intro pre m h
    simp only [List.length_cons] at h
    have h2 := ih (pre ++ [x]) (if x > m then x else m) (by simp; omega)
    have hl : (ic (pre ++ x :: post)).length = pre.length + (post.length + 1) := by simp [ic_length]
    rw [show (pre ++ [x]) ++ post = pre ++ x :: post by simp, show (((pre ++ [x]).length : Nat) : Int) = (pre.length : Int) + 1 by simp, hl] at h2
    refine evs (fun k => by rw [spec_GreatestOn.l0]) ?_
    rw [ic_rd, hl, w64 (x := (pre.length : Int) + 1) (by omega) (by omega), mxl_cons]
    have hm : spec_l1Most.f (m : Int) (x : Int) = some (((if x > m then x else m : Nat) : Nat) : Int) := by
      unfold spec_l1Most.f
      by_cases h3 : x > m
      · rw [if_pos h3, if_neg (by omega)]
      · rw [if_neg h3]
        by_cases h4 : m > x
        · rw [if_pos (by omega)]
        · rw [if_neg (by omega), show x = m by omega]
    exact evp (by omega) (evp (by omega) (evp (by omega) (evc hm h2)))
def grR (a : Int) : Int × Bool := match wo a with
  | some l => (((mxl 0 l : Nat) : Int), true)
  | none => (0, false)
theorem greatest_ev (a : Int) : Ev (fun k => impl_GreatestOn.f k a) (grR a) ∧ Ev (fun k => spec_GreatestOn.f k a) (grR a) := by
  unfold impl_GreatestOn.f spec_GreatestOn.f
  rw [stNumber_eq]
  cases hw : wo a with
  | some l =>
    have hs : grR a = (((mxl 0 l : Nat) : Int), true) := by unfold grR; rw [hw]
    obtain ⟨n, t, rfl, h1, h2, rfl, _, h3⟩ := wo_is hw
    have e1 := toOne_ev (n : Int)
    have e2 := stWay_ev n h1 h2
    rw [hw] at e1 e2
    rw [hs]
    simp only [wr, List.nil_append] at e1 e2
    constructor
    · refine evb e1 (evp rfl ?_)
      have hm : slices_Max_int_int.f (ic (n :: t)) = some (((mxl 0 (n :: t) : Nat) : Int)) := by
        unfold slices_Max_int_int.f slices_Max_int_int.most
        rw [if_neg (by simp [ic_length])]
        congr 1
        have := max_ic (n :: t) n
        rw [show ((ic (n :: t)).headD 0) = (n : Int) from rfl, this, mxl_cons, mxl_cons, if_neg (Nat.lt_irrefl n), if_pos (by omega)]
      exact evc hm (Ev.now _)
    · refine evc rfl (evp (by simp; omega) (evb e2 ?_))
      have := great_spec (n :: t) [] 0 (by simp at h3 ⊢; omega)
      simpa using this
  | none =>
    have hs : grR a = (0, false) := by unfold grR; rw [hw]
    have e1 := toOne_ev a
    rw [hw] at e1
    rw [hs]
    simp only [wr] at e1
    constructor
    · exact evb e1 (evn (by simp) (Ev.now _))
    · by_cases hc : 1 ≤ a ∧ a ≤ 1000000000000
      · obtain ⟨n, rfl⟩ := natOf (a := a) (by omega)
        have e2 := stWay_ev n (by omega) (by omega)
        rw [hw] at e2
        simp only [wr] at e2
        refine evc rfl (evp (by simpa using hc) (evb e2 ?_))
        refine evs (fun k => by rw [spec_GreatestOn.l0]) ?_
        exact evn (by simp) (Ev.now _)
      · exact evc rfl (evn (by simpa using hc) (Ev.now _))
/-! One step. -/
def told1 (m : Nat) : Int × Bool := if m ≤ 1000000000000 then ((m : Int), true) else (0, false)
theorem told_eq (m : Nat) : impl_told.f (m : Int) = some (told1 m) := by
  unfold impl_told.f told1
  by_cases h : m ≤ 1000000000000
  · rw [if_pos h, if_neg (by omega)]
  · rw [if_neg h, if_pos (by omega)]
theorem stIf_eq (m : Nat) (h1 : 1 ≤ m) : spec_stIf.f (m : Int) = some (told1 m) := by
  unfold spec_stIf.f told1
  rw [stNumber_eq]
  by_cases h : m ≤ 1000000000000
  · rw [if_pos h]
    show (if decide _ = true then _ else _) = _
    rw [if_pos (by simp; omega)]
  · rw [if_neg h]
    show (if decide _ = true then _ else _) = _
    rw [if_neg (by simp; omega)]
def soR (a : Int) : Int × Bool := if 1 ≤ a ∧ a ≤ 1000000000000 then told1 (stp a.toNat) else (0, false)
theorem stepOf_eq (a : Int) : impl_StepOf.f a = some (soR a) ∧ spec_StepOf.f a = some (soR a) := by
  unfold impl_StepOf.f spec_StepOf.f soR
  rw [isPlace_eq, stNumber_eq]
  by_cases h : 1 ≤ a ∧ a ≤ 1000000000000
  · obtain ⟨n, rfl⟩ := natOf (a := a) (by omega)
    rw [if_pos h, Int.toNat_natCast]
    simp only [Option.bind_some]
    rw [if_pos (by simpa using h), if_pos (by simpa using h), impl_stepWith_nat n (by omega), spec_stStep_nat n (by omega)]
    simp only [Option.bind_some]
    rw [told_eq, stIf_eq _ (stp_pos (by omega))]
    exact ⟨rfl, rfl⟩
  · rw [if_neg h]
    simp only [Option.bind_some]
    rw [if_neg (by simpa using h), if_neg (by simpa using h)]
    exact ⟨rfl, rfl⟩
theorem stepOf_nat {n : Nat} (h1 : 1 ≤ n) (h2 : n ≤ 1000000000000) (h3 : stp n ≤ 1000000000000) : impl_StepOf.f (n : Int) = some (((stp n : Nat) : Int), true) := by
  rw [(stepOf_eq (n : Int)).1]
  unfold soR told1
  rw [if_pos (by omega), Int.toNat_natCast, if_pos h3]
theorem shortStep_eq (a : Int) : ∃ z, impl_ShortStep.f a = some z ∧ spec_ShortStep.f a = some z := by
  unfold impl_ShortStep.f spec_ShortStep.f
  rw [isPlace_eq, stNumber_eq]
  by_cases h : 1 ≤ a ∧ a ≤ 1000000000000
  · obtain ⟨n, rfl⟩ := natOf (a := a) (by omega)
    have e : ∃ m : Nat, 1 ≤ m ∧ impl_short.f (n : Int) = some (m : Int) := by
      unfold impl_short.f
      rw [show (2 : Int) = ((2 : Nat) : Int) from rfl, tmod_cast, tdiv_cast]
      by_cases hc : n % 2 = 0
      · exact ⟨n / 2, by omega, by rw [if_pos (by omega), w64n _ (by omega)]⟩
      · refine ⟨(3 * n + 1) / 2, by omega, ?_⟩
        rw [if_neg (by omega), w64 (x := 3 * (n : Int)) (by omega) (by omega), w64 (x := 3 * (n : Int) + 1) (by omega) (by omega), show 3 * (n : Int) + 1 = ((3 * n + 1 : Nat) : Int) by omega, tdiv_cast, w64n _ (by omega)]
    obtain ⟨m, h1, em⟩ := e
    have em2 : spec_stShort.f (n : Int) = some (m : Int) := em
    simp only [Option.bind_some]
    rw [if_pos (by simpa using h), if_pos (by simpa using h), em, em2]
    simp only [Option.bind_some]
    rw [told_eq, stIf_eq _ h1]
    exact ⟨_, rfl, rfl⟩
  · simp only [Option.bind_some]
    rw [if_neg (by simpa using h), if_neg (by simpa using h)]
    exact ⟨_, rfl, rfl⟩
/-! The numbers before one. -/
def bf (n : Nat) : List Nat := (if n % 6 = 4 then [(n - 1) / 3] else []) ++ (if 2 * n ≤ 1000000000000 then [2 * n] else [])
theorem mem_bf {n x : Nat} (h1 : 1 ≤ n) (h2 : n ≤ 1000000000000) : x ∈ bf n ↔ stp x = n ∧ 1 ≤ x ∧ x ≤ 1000000000000 := by
  unfold bf stp
  rw [List.mem_append]
  constructor
  · rintro (h | h)
    · by_cases hc : n % 6 = 4
      · rw [if_pos hc] at h
        obtain rfl := List.mem_singleton.1 h
        rw [if_neg (by omega)]
        omega
      · rw [if_neg hc] at h; simp at h
    · by_cases hc : 2 * n ≤ 1000000000000
      · rw [if_pos hc] at h
        obtain rfl := List.mem_singleton.1 h
        rw [if_pos (by omega)]
        omega
      · rw [if_neg hc] at h; simp at h
  · rintro ⟨h3, h4, h5⟩
    by_cases hx : x % 2 = 0
    · rw [if_pos hx] at h3
      right
      rw [if_pos (by omega), List.mem_singleton]
      omega
    · rw [if_neg hx] at h3
      left
      rw [if_pos (by omega), List.mem_singleton]
      omega
theorem bf_nodup (n : Nat) (h1 : 1 ≤ n) : (bf n).Nodup := by
  unfold bf
  by_cases hc : n % 6 = 4
  · by_cases h2 : 2 * n ≤ 1000000000000
    · rw [if_pos hc, if_pos h2]
      simp
      omega
    · rw [if_pos hc, if_neg h2]; simp
  · by_cases h2 : 2 * n ≤ 1000000000000
    · rw [if_neg hc, if_pos h2]; simp
    · rw [if_neg hc, if_neg h2]; simp
theorem bf_length (n : Nat) : (bf n).length ≤ 2 := by
  unfold bf
  split <;> split <;> simp
theorem tail_ev (n : Nat) (h1 : 1 ≤ n) (h2 : n ≤ 1000000000000) (k : Nat) (x4 : Int) (L : List Int) (hL : L.length ≤ 5) : impl_beforeStep.j0 (k + 1) (n : Int) L x4 false = some (L ++ if 2 * n ≤ 1000000000000 then [((2 * n : Nat) : Int)] else []) := by
  rw [impl_beforeStep.j0, if_neg (by simp), w64 (x := 2 * (n : Int)) (by omega) (by omega)]
  by_cases h : 2 * n ≤ 1000000000000
  · rw [if_pos (by omega), if_pos h, if_pos (by omega)]
    congr 2
  · rw [if_neg (by omega), if_neg h, List.append_nil]
theorem six_yes {n : Nat} (h1 : (n - 1) % 3 = 0) (h2 : (n - 1) / 3 > 0) (h3 : (n - 1) / 3 % 2 = 1) : n % 6 = 4 := by omega
theorem six_no1 {n : Nat} (h : ¬ (n - 1) % 3 = 0) : n % 6 ≠ 4 := by omega
theorem six_no2 {n : Nat} (h : ¬ (n - 1) / 3 > 0) : n % 6 ≠ 4 := by omega
theorem six_no3 {n : Nat} (h : ¬ (n - 1) / 3 % 2 = 1) : n % 6 ≠ 4 := by omega
theorem bf_yes {n : Nat} (h : n % 6 = 4) : ic (bf n) = [(((n - 1) / 3 : Nat) : Int)] ++ (if 2 * n ≤ 1000000000000 then [((2 * n : Nat) : Int)] else []) := by
  unfold bf
  rw [if_pos h]
  by_cases h2 : 2 * n ≤ 1000000000000
  · rw [if_pos h2, if_pos h2]; rfl
  · rw [if_neg h2, if_neg h2]; rfl
theorem bf_no {n : Nat} (h : n % 6 ≠ 4) : ic (bf n) = [] ++ (if 2 * n ≤ 1000000000000 then [((2 * n : Nat) : Int)] else []) := by
  unfold bf
  rw [if_neg h]
  by_cases h2 : 2 * n ≤ 1000000000000
  · rw [if_pos h2, if_pos h2]; rfl
  · rw [if_neg h2, if_neg h2]; rfl
theorem head_ev1 (n : Nat) (h1 : 1 ≤ n) (h2 : n ≤ 1000000000000) (k : Nat) (m : Int) (L : List Int) (hL : L.length ≤ 5) : impl_beforeStep.j0 (k + 1) (n : Int) L m true = some (L ++ [m] ++ if 2 * n ≤ 1000000000000 then [((2 * n : Nat) : Int)] else []) := by
  have hl : (L ++ [m]).length = L.length + 1 := by rw [List.length_append]; rfl
  rw [impl_beforeStep.j0, if_pos rfl, if_pos (by omega), Option.bind_some, w64 (x := 2 * (n : Int)) (by omega) (by omega), hl]
  by_cases h : 2 * n ≤ 1000000000000
  · rw [if_pos (by omega), if_pos h, if_pos (by omega)]
    congr 2
  · rw [if_neg (by omega), if_neg h, List.append_nil]
theorem head_ev (n : Nat) (h1 : 1 ≤ n) (h2 : n ≤ 1000000000000) (m : Int) : Ev (fun k => impl_beforeStep.j0 k (n : Int) [] m true) ([m] ++ (if 2 * n ≤ 1000000000000 then [((2 * n : Nat) : Int)] else [])) :=
  evs (fun k => by rw [head_ev1 n h1 h2 k m [] (by simp)]; rfl) (Ev.now _)
theorem before_ev (n : Nat) (h1 : 1 ≤ n) (h2 : n ≤ 1000000000000) : Ev (fun k => impl_beforeStep.f k (n : Int)) (ic (bf n)) := by
  have hno : ∀ (x4 : Int), n % 6 ≠ 4 → Ev (fun k => impl_beforeStep.j0 k (n : Int) [] x4 false) (ic (bf n)) := by
    intro x4 hc
    rw [bf_no hc]
    exact evs (fun k => by rw [tail_ev n h1 h2 k x4 [] (by simp)]) (Ev.now _)
  have e0 : wrap64 ((n : Int) - 1) = ((n - 1 : Nat) : Int) := by rw [w64 (by omega) (by omega)]; omega
  have e1 : Int.tmod ((n - 1 : Nat) : Int) 3 = (((n - 1) % 3 : Nat) : Int) := tmod_cast (n - 1) 3
  have e2 : wrap64 (Int.tdiv ((n - 1 : Nat) : Int) 3) = (((n - 1) / 3 : Nat) : Int) := by
    have e : Int.tdiv ((n - 1 : Nat) : Int) 3 = (((n - 1) / 3 : Nat) : Int) := tdiv_cast (n - 1) 3
    rw [e, w64n _ (by omega)]
  have e3 : Int.tmod (((n - 1) / 3 : Nat) : Int) 2 = (((n - 1) / 3 % 2 : Nat) : Int) := tmod_cast ((n - 1) / 3) 2
  unfold impl_beforeStep.f
  simp only [Option.bind_some]
  rw [e0, e1, e2, e3]
  clear e0 e1 e2 e3
  by_cases c1 : (n - 1) % 3 = 0
  · refine evp (by rw [c1]; rfl) ?_
    by_cases c2 : (n - 1) / 3 > 0
    · refine evp (Int.ofNat_lt.2 c2) ?_
      by_cases c3 : (n - 1) / 3 % 2 = 1
      · rw [bf_yes (six_yes c1 c2 c3), c3]
        exact head_ev n h1 h2 _
      · have hb : ((((n - 1) / 3 % 2 : Nat) : Int) == 1) = false := beq_eq_false_iff_ne.mpr (fun h => c3 (Int.ofNat.inj h))
        rw [hb]
        exact hno _ (six_no3 c3)
    · exact evn (fun h => c2 (Int.ofNat_lt.1 h)) (hno _ (six_no2 c2))
  · exact evn (fun h => c1 (Int.ofNat.inj h)) (hno _ (six_no1 c1))
theorem stBefore_eq (n : Nat) (h1 : 1 ≤ n) (h2 : n ≤ 1000000000000) : spec_stBefore.f (n : Int) = some (ic (bf n)) := by
  unfold spec_stBefore.f bf
  rw [show (6 : Int) = ((6 : Nat) : Int) from rfl, tmod_cast, w64 (x := (n : Int) - 1) (by omega) (by omega), show (n : Int) - 1 = ((n - 1 : Nat) : Int) by omega, show (3 : Int) = ((3 : Nat) : Int) from rfl, tdiv_cast, w64n _ (by omega), w64 (x := 2 * (n : Int)) (by omega) (by omega)]
  by_cases c1 : n % 6 = 4
  · rw [if_pos (by omega), if_pos c1, if_pos (by simp)]
    simp only [Option.bind_some]
    by_cases h : 2 * n ≤ 1000000000000
    · rw [if_pos (by omega), if_pos h, if_pos (by simp)]; simp [ic]
    · rw [if_neg (by omega), if_neg h]; simp [ic]
  · rw [if_neg (by omega), if_neg c1]
    by_cases h : 2 * n ≤ 1000000000000
    · rw [if_pos (by omega), if_pos h, if_pos (by simp)]; simp [ic]
    · rw [if_neg (by omega), if_neg h]; simp [ic]
def bsR (a : Int) : List Int × Bool := if 1 ≤ a ∧ a ≤ 1000000000000 then (ic (bf a.toNat), true) else ([], false)
theorem beforeStep_ev (a : Int) : Ev (fun k => impl_BeforeStep.f k a) (bsR a) ∧ spec_BeforeStep.f a = some (bsR a) := by
  unfold impl_BeforeStep.f spec_BeforeStep.f bsR
  rw [isPlace_eq, stNumber_eq]
  simp only [Option.bind_some]
  by_cases h : 1 ≤ a ∧ a ≤ 1000000000000
  · obtain ⟨n, rfl⟩ := natOf (a := a) (by omega)
    rw [if_pos h, Int.toNat_natCast]
    constructor
    · exact evp (by simpa using h) (evb (before_ev n (by omega) (by omega)) (Ev.now _))
    · rw [if_pos (by simpa using h), stBefore_eq n (by omega) (by omega)]
      rfl
  · rw [if_neg h]
    constructor
    · exact evn (by simpa using h) (Ev.now _)
    · rw [if_neg (by simpa using h)]

theorem sort_nat (l : List Nat) : ∃ s : List Nat, ((ic l).mergeSort fun x y => decide (x ≤ y)) = ic s ∧ s.Perm l ∧ s.Pairwise (· ≤ ·) := by
  have hp := List.mergeSort_perm (ic l) (fun x y => decide (x ≤ y))
  have hs : ((ic l).mergeSort fun x y => decide (x ≤ y)).Pairwise (fun x y => decide (x ≤ y) = true) := List.pairwise_mergeSort (fun a b c h1 h2 => by simp at *; omega) (fun a b => by simp; omega) (ic l)
  generalize ((ic l).mergeSort fun x y => decide (x ≤ y)) = m at hp hs
  have hnn : ∀ x ∈ m, 0 ≤ x := fun x hx => by
    have h1 := hp.mem_iff.1 hx
    unfold ic at h1
    obtain ⟨y, _, rfl⟩ := List.mem_map.1 h1
    omega
  have e : m = ic (m.map Int.toNat) := by
    unfold ic
    rw [List.map_map]
    refine (List.map_id' m).symm.trans (List.map_congr_left (fun x hx => ?_))
    have := hnn x hx
    simp only [Function.comp]
    omega
  refine ⟨m.map Int.toNat, e, ?_, ?_⟩
  · have h1 := hp.map Int.toNat
    unfold ic at h1
    rw [List.map_map, show (Int.toNat ∘ fun (x : Nat) => (x : Int)) = id from funext (fun x => Int.toNat_natCast x), List.map_id] at h1
    exact h1
  · rw [List.pairwise_map]
    exact hs.imp (fun h => by simp at h; omega)

/-! Levels of the tree over 1. -/
def Lv : Nat → Nat → Prop
  | 0, x => x = 1
  | k + 1, x => x ≠ 1 ∧ 1 ≤ x ∧ x ≤ 1000000000000 ∧ Lv k (stp x)
theorem lv_in : ∀ {k x : Nat}, Lv k x → 1 ≤ x ∧ x ≤ 1000000000000
  | 0, x, h => by have h2 : x = 1 := h; omega
  | k + 1, x, h => ⟨h.2.1, h.2.2.1⟩
theorem lv_way : ∀ (k x r : Nat), k ≤ r → Lv k x → ∃ l, wayN (fun x => x == 1) r x = some l ∧ l.length = k + 1
  | 0, x, r, _, h => by
    have h2 : x = 1 := h
    subst h2
    refine ⟨[1], ?_, rfl⟩
    cases r <;> (rw [wayN]; rfl)
  | k + 1, x, 0, hr, _ => by omega
  | k + 1, x, r + 1, hr, h => by
    obtain ⟨h1, h2, h3, h4⟩ := h
    obtain ⟨l, e, hl⟩ := lv_way k (stp x) r (by omega) h4
    have hb := lv_in h4
    refine ⟨x :: l, ?_, by simp [hl]⟩
    rw [wayN, if_neg (by simpa using h1), if_neg (by omega), e]
    rfl
theorem way_lv : ∀ (r x : Nat) (l : List Nat), 1 ≤ x → x ≤ 1000000000000 → wayN (fun x => x == 1) r x = some l → Lv (l.length - 1) x
  | 0, x, l, h1, h2, h => by
    rw [wayN] at h
    by_cases hx : x = 1
    · rw [if_pos (by simpa using hx)] at h
      obtain rfl := Option.some.inj h
      exact hx
    · rw [if_neg (by simpa using hx)] at h; exact absurd h (by simp)
  | r + 1, x, l, h1, h2, h => by
    rw [wayN] at h
    by_cases hx : x = 1
    · rw [if_pos (by simpa using hx)] at h
      obtain rfl := Option.some.inj h
      exact hx
    · rw [if_neg (by simpa using hx)] at h
      by_cases hs : stp x > 1000000000000
      · rw [if_pos hs] at h; exact absurd h (by simp)
      · rw [if_neg hs] at h
        obtain ⟨t, ht, rfl⟩ := Option.map_eq_some_iff.1 h
        have h3 := way_lv r (stp x) t (stp_pos h1) (by omega) ht
        obtain ⟨u, rfl, _⟩ := wayN_is _ _ _ _ ht
        exact ⟨hx, h1, h2, h3⟩
theorem snR_lv {k x : Nat} (hk : k ≤ 1000) (h : Lv k x) : snR (x : Int) = ((k : Int), true) := by
  have hb := lv_in h
  obtain ⟨l, e, hl⟩ := lv_way k x 1000 hk h
  have hw : wo (x : Int) = some l := by
    unfold wo
    rw [if_pos (by omega), Int.toNat_natCast]
    exact e
  unfold snR
  rw [hw]
  show ((l.length : Int) - 1, true) = _
  rw [hl]
  simp
theorem snR_some {x : Nat} {l : List Nat} (h : wo (x : Int) = some l) : Lv (l.length - 1) x ∧ 1 ≤ l.length ∧ l.length ≤ 1001 := by
  obtain ⟨n, t, hn, h1, h2, hl, _, h3⟩ := wo_is h
  have hx : n = x := by omega
  subst hx
  have hw := h
  unfold wo at hw
  rw [if_pos (by omega), Int.toNat_natCast] at hw
  exact ⟨way_lv 1000 n l h1 h2 hw, by rw [hl]; simp, h3⟩
theorem sorted_ext : ∀ {l m : List Nat}, l.Pairwise (· < ·) → m.Pairwise (· < ·) → (∀ x, x ∈ l ↔ x ∈ m) → l = m
  | [], [], _, _, _ => rfl
  | [], y :: m, _, _, h => by have := (h y).2 (by simp); simp at this
  | x :: l, [], _, _, h => by have := (h x).1 (by simp); simp at this
  | x :: l, y :: m, hl, hm, h => by
    obtain ⟨l1, l2⟩ := List.pairwise_cons.1 hl
    obtain ⟨m1, m2⟩ := List.pairwise_cons.1 hm
    have hxy : x = y := by
      rcases List.mem_cons.1 ((h x).1 (by simp)) with e | e
      · exact e
      · rcases List.mem_cons.1 ((h y).2 (by simp)) with e2 | e2
        · exact e2.symm
        · have := m1 x e; have := l1 y e2; omega
    subst hxy
    rw [sorted_ext l2 m2 (fun z => ?_)]
    constructor
    · intro hz
      rcases List.mem_cons.1 ((h z).1 (List.mem_cons_of_mem _ hz)) with e | e
      · have := l1 z hz; omega
      · exact e
    · intro hz
      rcases List.mem_cons.1 ((h z).2 (List.mem_cons_of_mem _ hz)) with e | e
      · have := m1 z hz; omega
      · exact e
/-! impl.LevelOf -/
def kp (l : List Nat) : List Nat := l.filter fun x => decide (x ≠ 1)
def nxt (l : List Nat) : List Nat := l.flatMap fun n => kp (bf n)
def lvl : Nat → List Nat
  | 0 => [1]
  | k + 1 => nxt (lvl k)
theorem mem_lvl : ∀ (k x : Nat), x ∈ lvl k ↔ Lv k x
  | 0, x => by simp [lvl, Lv]
  | k + 1, x => by
    simp only [lvl, nxt, kp, List.mem_flatMap, List.mem_filter, Lv, decide_eq_true_eq]
    constructor
    · rintro ⟨n, hn, hx, h1⟩
      have h2 := (mem_lvl k n).1 hn
      have hb := lv_in h2
      obtain ⟨e, h3, h4⟩ := (mem_bf hb.1 hb.2).1 hx
      exact ⟨h1, h3, h4, by rw [e]; exact h2⟩
    · rintro ⟨h1, h2, h3, h4⟩
      have hb := lv_in h4
      exact ⟨stp x, (mem_lvl k _).2 h4, (mem_bf hb.1 hb.2).2 ⟨rfl, h2, h3⟩, h1⟩
theorem nxt_nodup : ∀ (l : List Nat), l.Nodup → (∀ n ∈ l, 1 ≤ n ∧ n ≤ 1000000000000) → (nxt l).Nodup
  | [], _, _ => by simp [nxt]
  | n :: l, hl, hb => by
    obtain ⟨h1, h2⟩ := List.nodup_cons.1 hl
    have hn := hb n (by simp)
    have h3 := nxt_nodup l h2 (fun m hm => hb m (by simp [hm]))
    have e : nxt (n :: l) = kp (bf n) ++ nxt l := by simp [nxt]
    rw [e, List.nodup_append]
    refine ⟨(bf_nodup n hn.1).filter _, h3, ?_⟩
    intro x hx y hy hxy
    subst hxy
    simp only [kp, List.mem_filter] at hx
    simp only [nxt, kp, List.mem_flatMap, List.mem_filter] at hy
    obtain ⟨m, hm, hy, _⟩ := hy
    have hmb := hb m (by simp [hm])
    have e1 := ((mem_bf hn.1 hn.2).1 hx.1).1
    have e2 := ((mem_bf hmb.1 hmb.2).1 hy).1
    rw [e1] at e2
    subst e2
    exact h1 hm
theorem lvl_nodup : ∀ k, (lvl k).Nodup
  | 0 => by simp [lvl]
  | k + 1 => nxt_nodup _ (lvl_nodup k) (fun n hn => lv_in ((mem_lvl k n).1 hn))
theorem nxt_length : ∀ (l : List Nat), (nxt l).length ≤ 2 * l.length
  | [] => by simp [nxt]
  | n :: l => by
    have e : nxt (n :: l) = kp (bf n) ++ nxt l := by simp [nxt]
    have h1 := nxt_length l
    have h2 : (kp (bf n)).length ≤ 2 := Nat.le_trans (List.length_filter_le _ _) (bf_length n)
    rw [e, List.length_append, List.length_cons]
    omega
theorem lvl_length : ∀ k, (lvl k).length ≤ 2 ^ k
  | 0 => by simp [lvl]
  | k + 1 => by
    have h1 := nxt_length (lvl k)
    have h2 := lvl_length k
    rw [lvl, Nat.pow_succ]
    omega
theorem impl_l2 {r : List Int × Bool} (x14 x15 x20 x19 : Int) (x18 : List Int) (w : List Nat) (post : List Nat) : ∀ (pre acc : List Nat), w = pre ++ post → w.length ≤ 1000 → acc.length + post.length ≤ 1000000 →
    Ev (fun k => impl_LevelOf.l1 k (ic (acc ++ kp post)) x14 x15 x18 x19 (wrap64 (x20 + 1))) r → Ev (fun k => impl_LevelOf.l2 k (ic acc) x14 x15 x18 x19 x20 (ic w) ((ic w).length : Int) (pre.length : Int)) r := by
  induction post with
  | nil =>
    intro pre acc hw h1 h2 h
    refine evs (fun k => by rw [impl_LevelOf.l2]) ?_
    exact evn (by simp [hw, ic_length]) (by simpa [kp] using h)
  | cons x post ih =>
    intro pre acc hw h1 h2 h
    have hl : (ic w).length = pre.length + (post.length + 1) := by simp [hw, ic_length]
    have hwl : w.length = pre.length + (post.length + 1) := by simp [hw]
    have hrd : rd (ic w) (pre.length : Int) = (x : Int) := by rw [hw]; exact ic_rd pre post x
    simp only [List.length_cons] at h2
    refine evs (fun k => by rw [impl_LevelOf.l2]) ?_
    rw [hrd, w64 (x := (pre.length : Int) + 1) (by omega) (by omega)]
    refine evp (by omega) (evp (by omega) (evp (by omega) ?_))
    by_cases hx : x = 1
    · have h3 := ih (pre ++ [x]) acc (by simp [hw]) h1 (by omega) (by simpa [kp, hx] using h)
      rw [show (((pre ++ [x]).length : Nat) : Int) = (pre.length : Int) + 1 by simp] at h3
      exact evp (by omega) h3
    · have h3 := ih (pre ++ [x]) (acc ++ [x]) (by simp [hw]) h1 (by simp; omega) (by simpa [kp, hx] using h)
      rw [show (((pre ++ [x]).length : Nat) : Int) = (pre.length : Int) + 1 by simp, ic_append, show ic [x] = [(x : Int)] from rfl] at h3
      exact evn (by omega) (evp (by rw [ic_length]; omega) h3)
theorem impl_l1 {r : List Int × Bool} (x14 x15 : Int) (w : List Nat) (hb : ∀ n ∈ w, 1 ≤ n ∧ n ≤ 1000000000000) (post : List Nat) : ∀ (pre acc : List Nat), w = pre ++ post → w.length ≤ 100000 → acc.length + 2 * post.length ≤ 900000 →
    Ev (fun k => impl_LevelOf.l0 k (ic (acc ++ nxt post)) x14 (wrap64 (x15 + 1))) r → Ev (fun k => impl_LevelOf.l1 k (ic acc) x14 x15 (ic w) ((ic w).length : Int) (pre.length : Int)) r := by
  induction post with
  | nil =>
    intro pre acc hw h1 h2 h
    refine evs (fun k => by rw [impl_LevelOf.l1]) ?_
    exact evn (by simp [hw, ic_length]) (by simpa [nxt] using h)
  | cons x post ih =>
    intro pre acc hw h1 h2 h
    have hl : (ic w).length = pre.length + (post.length + 1) := by simp [hw, ic_length]
    have hwl : w.length = pre.length + (post.length + 1) := by simp [hw]
    have hrd : rd (ic w) (pre.length : Int) = (x : Int) := by rw [hw]; exact ic_rd pre post x
    have hx := hb x (by simp [hw])
    have hk : (kp (bf x)).length ≤ 2 := Nat.le_trans (List.length_filter_le _ _) (bf_length x)
    have hbl := bf_length x
    simp only [List.length_cons] at h2
    have e : nxt (x :: post) = kp (bf x) ++ nxt post := by simp [nxt]
    rw [e, ← List.append_assoc] at h
    have h3 := ih (pre ++ [x]) (acc ++ kp (bf x)) (by simp [hw]) h1 (by simp; omega) h
    rw [show (((pre ++ [x]).length : Nat) : Int) = (pre.length : Int) + 1 by simp] at h3
    refine evs (fun k => by rw [impl_LevelOf.l1]) ?_
    rw [hrd]
    refine evp (by omega) (evp (by omega) (evp (by omega) (evb (before_ev x hx.1 hx.2) ?_)))
    refine impl_l2 x14 x15 (pre.length : Int) ((ic w).length : Int) (ic w) (bf x) (bf x) [] acc rfl (by omega) (by omega) ?_
    rw [w64 (x := (pre.length : Int) + 1) (by omega) (by omega)]
    exact h3
theorem pow15 {k : Nat} (h : k ≤ 15) : 2 ^ k ≤ 32768 := Nat.le_trans (Nat.pow_le_pow_right (by omega) h) (by decide)
theorem impl_l0 (K : Nat) (hK : K ≤ 15) (s : List Nat) (hs : slices_Sort_int_int.f (ic (lvl K)) = some (ic s)) (d : Nat) : ∀ i, i + d = K → Ev (fun k => impl_LevelOf.l0 k (ic (lvl i)) (K : Int) (i : Int)) (ic s, true) := by
  induction d with
  | zero =>
    intro i hi
    obtain rfl : i = K := by omega
    refine evs (fun k => by rw [impl_LevelOf.l0]) ?_
    exact evn (by omega) (evc hs (Ev.now _))
  | succ d ih =>
    intro i hi
    have h1 := ih (i + 1) (by omega)
    have h2 := lvl_length i
    have h3 := pow15 (k := i) (by omega)
    refine evs (fun k => by rw [impl_LevelOf.l0]) ?_
    refine evp (by omega) ?_
    refine impl_l1 (K : Int) (i : Int) (lvl i) (fun n hn => lv_in ((mem_lvl i n).1 hn)) (lvl i) [] [] rfl (by omega) (by simp; omega) ?_
    rw [w64 (x := (i : Int) + 1) (by omega) (by omega)]
    rw [show ((i + 1 : Nat) : Int) = (i : Int) + 1 by omega] at h1
    exact h1
/-! spec.LevelOf -/
def ins (x : Nat) : List Nat → List Nat
  | [] => [x]
  | y :: l => if y < x then y :: ins x l else if y = x then y :: l else x :: y :: l
theorem mem_ins (x y : Nat) : ∀ l, y ∈ ins x l ↔ y = x ∨ y ∈ l
  | [] => by simp [ins]
  | z :: l => by
    rw [ins]
    by_cases h1 : z < x
    · rw [if_pos h1, List.mem_cons, mem_ins x y l, List.mem_cons]
      constructor
      · rintro (h | h | h) <;> simp [h]
      · rintro (h | h | h) <;> simp [h]
    · rw [if_neg h1]
      by_cases h2 : z = x
      · rw [if_pos h2]; subst h2; simp
      · rw [if_neg h2]; simp
theorem ins_sorted (x : Nat) : ∀ l : List Nat, l.Pairwise (· < ·) → (ins x l).Pairwise (· < ·)
  | [], _ => by simp [ins]
  | z :: l, h => by
    obtain ⟨h1, h2⟩ := List.pairwise_cons.1 h
    rw [ins]
    by_cases c1 : z < x
    · rw [if_pos c1, List.pairwise_cons]
      refine ⟨fun y hy => ?_, ins_sorted x l h2⟩
      rcases (mem_ins x y l).1 hy with e | e
      · omega
      · exact h1 y e
    · rw [if_neg c1]
      by_cases c2 : z = x
      · rw [if_pos c2]; exact h
      · rw [if_neg c2, List.pairwise_cons]
        refine ⟨fun y hy => ?_, h⟩
        rcases List.mem_cons.1 hy with e | e
        · omega
        · have := h1 y e; omega
theorem ins_length (x : Nat) : ∀ l, (ins x l).length ≤ l.length + 1
  | [] => by simp [ins]
  | z :: l => by
    have := ins_length x l
    rw [ins]
    split
    · simp; omega
    · split <;> simp
theorem take_pre (pre post : List Nat) : (ic (pre ++ post)).take ((pre.length : Int)).toNat = ic pre := by rw [Int.toNat_natCast, ic_append, List.take_left' (ic_length pre)]
theorem drop_pre (pre post : List Nat) : (ic (pre ++ post)).drop ((pre.length : Int)).toNat = ic post := by rw [Int.toNat_natCast, ic_append, List.drop_left' (ic_length pre)]
theorem put_loop (x : Nat) (post : List Nat) : ∀ pre : List Nat, pre.length + post.length ≤ 1000000 → Ev (fun k => spec_l1Put.l0 k (ic (pre ++ post)) (x : Int) (pre.length : Int)) (ic (pre ++ ins x post)) := by
  induction post with
  | nil =>
    intro pre h
    have hl : (ic (pre ++ [])).length = pre.length := by simp [ic_length]
    refine evs (fun k => by rw [spec_l1Put.l0]) ?_
    rw [take_pre, drop_pre, hl]
    simp only [Option.bind_some, List.nil_append, ic_nil, List.append_nil]
    have h1 : (ic pre ++ [(x : Int)]).length = pre.length + 1 := by simp [ic_length]
    refine evn (by omega) (evp (by omega) (evp (by omega) (evp (by rw [ic_length]; simp; omega) (evp (by rw [ic_length]; omega) (evp (by rw [h1]; simp; omega) (evr ?_))))))
    rw [ic_append]
    rfl
  | cons y post ih =>
    intro pre h
    simp only [List.length_cons] at h
    have hl : (ic (pre ++ y :: post)).length = pre.length + (post.length + 1) := by simp [ic_length]
    refine evs (fun k => by rw [spec_l1Put.l0]) ?_
    rw [ic_rd, take_pre, drop_pre, hl, w64 (x := (pre.length : Int) + 1) (by omega) (by omega)]
    refine evp (by omega) (evp (by omega) ?_)
    rw [ins]
    by_cases c1 : y < x
    · have h2 := ih (pre ++ [y]) (by simp; omega)
      rw [show (((pre ++ [y]).length : Nat) : Int) = (pre.length : Int) + 1 by simp, show (pre ++ [y]) ++ post = pre ++ y :: post by simp, show (pre ++ [y]) ++ ins x post = pre ++ y :: ins x post by simp] at h2
      rw [if_pos c1]
      exact evp (by omega) h2
    · rw [if_neg c1]
      refine evn (by omega) ?_
      by_cases c2 : y = x
      · rw [if_pos c2]
        exact evp (by omega) (Ev.now _)
      · rw [if_neg c2]
        simp only [Option.bind_some, List.nil_append]
        have h1 : (ic pre ++ [(x : Int)]).length = pre.length + 1 := by simp [ic_length]
        have h3 : (ic (y :: post)).length = post.length + 1 := by simp [ic_length]
        refine evn (by omega) (evp (by omega) (evp (by rw [ic_length]; simp; omega) (evp (by rw [ic_length]; omega) (evp (by rw [h1, h3]; omega) (evr ?_)))))
        rw [ic_append, ic_cons x]
        simp
theorem put_ev (x : Nat) (l : List Nat) (h : l.length ≤ 1000000) : Ev (fun k => spec_l1Put.f k (ic l) (x : Int)) (ic (ins x l)) := by
  unfold spec_l1Put.f
  simpa using put_loop x l [] (by simpa using h)
def putAll (S : List Nat) (l : List Nat) : List Nat := l.foldl (fun S x => if x = 1 then S else ins x S) S
theorem mem_putAll (y : Nat) : ∀ (l S : List Nat), y ∈ putAll S l ↔ y ∈ S ∨ (y ≠ 1 ∧ y ∈ l)
  | [], S => by simp [putAll]
  | x :: l, S => by
    have e : putAll S (x :: l) = putAll (if x = 1 then S else ins x S) l := rfl
    rw [e, mem_putAll y l]
    by_cases hx : x = 1
    · rw [if_pos hx]
      subst hx
      constructor
      · rintro (h | ⟨h1, h2⟩)
        · exact Or.inl h
        · exact Or.inr ⟨h1, by simp [h2]⟩
      · rintro (h | ⟨h1, h2⟩)
        · exact Or.inl h
        · rcases List.mem_cons.1 h2 with e | e
          · exact absurd e h1
          · exact Or.inr ⟨h1, e⟩
    · rw [if_neg hx, mem_ins]
      constructor
      · rintro ((h | h) | ⟨h1, h2⟩)
        · exact Or.inr ⟨by omega, by simp [h]⟩
        · exact Or.inl h
        · exact Or.inr ⟨h1, by simp [h2]⟩
      · rintro (h | ⟨h1, h2⟩)
        · exact Or.inl (Or.inr h)
        · rcases List.mem_cons.1 h2 with e | e
          · exact Or.inl (Or.inl e)
          · exact Or.inr ⟨h1, e⟩
theorem putAll_sorted : ∀ (l S : List Nat), S.Pairwise (· < ·) → (putAll S l).Pairwise (· < ·)
  | [], S, h => h
  | x :: l, S, h => by
    have e : putAll S (x :: l) = putAll (if x = 1 then S else ins x S) l := rfl
    rw [e]
    refine putAll_sorted l _ ?_
    split
    · exact h
    · exact ins_sorted x S h
theorem putAll_length : ∀ (l S : List Nat), (putAll S l).length ≤ S.length + l.length
  | [], S => by simp [putAll]
  | x :: l, S => by
    have e : putAll S (x :: l) = putAll (if x = 1 then S else ins x S) l := rfl
    have h1 := putAll_length l (if x = 1 then S else ins x S)
    have h2 := ins_length x S
    rw [e, List.length_cons]
    by_cases hx : x = 1
    · rw [if_pos hx] at h1 ⊢; omega
    · rw [if_neg hx] at h1 ⊢; omega
def putNx (S : List Nat) (l : List Nat) : List Nat := l.foldl (fun S n => putAll S (bf n)) S
theorem mem_putNx (y : Nat) : ∀ (l S : List Nat), y ∈ putNx S l ↔ y ∈ S ∨ (y ≠ 1 ∧ ∃ n ∈ l, y ∈ bf n)
  | [], S => by simp [putNx]
  | n :: l, S => by
    have e : putNx S (n :: l) = putNx (putAll S (bf n)) l := rfl
    rw [e, mem_putNx y l, mem_putAll]
    constructor
    · rintro ((h | ⟨h1, h2⟩) | ⟨h1, m, hm, h2⟩)
      · exact Or.inl h
      · exact Or.inr ⟨h1, n, by simp, h2⟩
      · exact Or.inr ⟨h1, m, by simp [hm], h2⟩
    · rintro (h | ⟨h1, m, hm, h2⟩)
      · exact Or.inl (Or.inl h)
      · rcases List.mem_cons.1 hm with e | e
        · subst e; exact Or.inl (Or.inr ⟨h1, h2⟩)
        · exact Or.inr ⟨h1, m, e, h2⟩
theorem putNx_sorted : ∀ (l S : List Nat), S.Pairwise (· < ·) → (putNx S l).Pairwise (· < ·)
  | [], S, h => h
  | n :: l, S, h => putNx_sorted l _ (putAll_sorted _ _ h)
theorem putNx_length : ∀ (l S : List Nat), (putNx S l).length ≤ S.length + 2 * l.length
  | [], S => by simp [putNx]
  | n :: l, S => by
    have e : putNx S (n :: l) = putNx (putAll S (bf n)) l := rfl
    have h1 := putNx_length l (putAll S (bf n))
    have h2 := putAll_length (bf n) S
    have h3 := bf_length n
    rw [e, List.length_cons]
    omega
def slv : Nat → List Nat
  | 0 => [1]
  | k + 1 => putNx [] (slv k)
theorem slv_sorted : ∀ k, (slv k).Pairwise (· < ·)
  | 0 => by simp [slv]
  | k + 1 => putNx_sorted _ _ (by simp)
theorem mem_slv : ∀ (k x : Nat), x ∈ slv k ↔ Lv k x
  | 0, x => by simp [slv, Lv]
  | k + 1, x => by
    rw [slv, mem_putNx, Lv]
    constructor
    · rintro (h | ⟨h1, n, hn, hx⟩)
      · simp at h
      · have h2 := (mem_slv k n).1 hn
        have hb := lv_in h2
        obtain ⟨e, h3, h4⟩ := (mem_bf hb.1 hb.2).1 hx
        exact ⟨h1, h3, h4, by rw [e]; exact h2⟩
    · rintro ⟨h1, h2, h3, h4⟩
      have hb := lv_in h4
      exact Or.inr ⟨h1, stp x, (mem_slv k _).2 h4, (mem_bf hb.1 hb.2).2 ⟨rfl, h2, h3⟩⟩
theorem slv_length : ∀ k, (slv k).length ≤ 2 ^ k
  | 0 => by simp [slv]
  | k + 1 => by
    have h1 := putNx_length (slv k) []
    have h2 := slv_length k
    rw [slv, Nat.pow_succ]
    simp at h1
    omega
theorem spec_l2 {r : List Int × Bool} (x0 x5 x22 x21 : Int) (x20 : List Int) (w : List Nat) (post : List Nat) : ∀ (pre S : List Nat), w = pre ++ post → w.length ≤ 1000 → S.length + post.length ≤ 1000000 →
    Ev (fun k => spec_LevelOf.l1 k x0 x5 (ic (putAll S post)) x20 x21 (wrap64 (x22 + 1))) r → Ev (fun k => spec_LevelOf.l2 k x0 x5 (ic S) x20 x21 x22 (ic w) ((ic w).length : Int) (pre.length : Int)) r := by
  induction post with
  | nil =>
    intro pre S hw h1 h2 h
    refine evs (fun k => by rw [spec_LevelOf.l2]) ?_
    exact evn (by simp [hw, ic_length]) h
  | cons x post ih =>
    intro pre S hw h1 h2 h
    have hl : (ic w).length = pre.length + (post.length + 1) := by simp [hw, ic_length]
    have hwl : w.length = pre.length + (post.length + 1) := by simp [hw]
    have hrd : rd (ic w) (pre.length : Int) = (x : Int) := by rw [hw]; exact ic_rd pre post x
    have e : putAll S (x :: post) = putAll (if x = 1 then S else ins x S) post := rfl
    rw [e] at h
    simp only [List.length_cons] at h2
    refine evs (fun k => by rw [spec_LevelOf.l2]) ?_
    rw [hrd, w64 (x := (pre.length : Int) + 1) (by omega) (by omega)]
    refine evp (by omega) (evp (by omega) (evp (by omega) ?_))
    by_cases hx : x = 1
    · rw [if_pos hx] at h
      have h3 := ih (pre ++ [x]) S (by simp [hw]) h1 (by omega) h
      rw [show (((pre ++ [x]).length : Nat) : Int) = (pre.length : Int) + 1 by simp] at h3
      exact evp (by omega) h3
    · rw [if_neg hx] at h
      have hil := ins_length x S
      have h3 := ih (pre ++ [x]) (ins x S) (by simp [hw]) h1 (by omega) h
      rw [show (((pre ++ [x]).length : Nat) : Int) = (pre.length : Int) + 1 by simp] at h3
      exact evn (by omega) (evb (put_ev x S (by omega)) h3)
theorem spec_l1 {r : List Int × Bool} (x0 x5 : Int) (w : List Nat) (hb : ∀ n ∈ w, 1 ≤ n ∧ n ≤ 1000000000000) (post : List Nat) : ∀ (pre S : List Nat), w = pre ++ post → w.length ≤ 100000 → S.length + 2 * post.length ≤ 900000 →
    Ev (fun k => spec_LevelOf.l0 k x0 (ic (putNx S post)) (wrap64 (x5 + 1))) r → Ev (fun k => spec_LevelOf.l1 k x0 x5 (ic S) (ic w) ((ic w).length : Int) (pre.length : Int)) r := by
  induction post with
  | nil =>
    intro pre S hw h1 h2 h
    refine evs (fun k => by rw [spec_LevelOf.l1]) ?_
    exact evn (by simp [hw, ic_length]) h
  | cons x post ih =>
    intro pre S hw h1 h2 h
    have hl : (ic w).length = pre.length + (post.length + 1) := by simp [hw, ic_length]
    have hwl : w.length = pre.length + (post.length + 1) := by simp [hw]
    have hrd : rd (ic w) (pre.length : Int) = (x : Int) := by rw [hw]; exact ic_rd pre post x
    have hx := hb x (by simp [hw])
    have hbl := bf_length x
    have hpl := putAll_length (bf x) S
    simp only [List.length_cons] at h2
    have h3 := ih (pre ++ [x]) (putAll S (bf x)) (by simp [hw]) h1 (by omega) h
    rw [show (((pre ++ [x]).length : Nat) : Int) = (pre.length : Int) + 1 by simp] at h3
    refine evs (fun k => by rw [spec_LevelOf.l1]) ?_
    rw [hrd]
    refine evp (by omega) (evp (by omega) (evp (by omega) (evc (stBefore_eq x hx.1 hx.2) ?_)))
    refine spec_l2 x0 x5 (pre.length : Int) ((ic w).length : Int) (ic w) (bf x) (bf x) [] S rfl (by omega) (by omega) ?_
    rw [w64 (x := (pre.length : Int) + 1) (by omega) (by omega)]
    exact h3
theorem spec_l0 (K : Nat) (hK : K ≤ 15) (d : Nat) : ∀ i, i + d = K → Ev (fun k => spec_LevelOf.l0 k (K : Int) (ic (slv i)) (i : Int)) (ic (slv K), true) := by
  induction d with
  | zero =>
    intro i hi
    obtain rfl : i = K := by omega
    refine evs (fun k => by rw [spec_LevelOf.l0]) ?_
    exact evn (by omega) (Ev.now _)
  | succ d ih =>
    intro i hi
    have h1 := ih (i + 1) (by omega)
    have h2 := slv_length i
    have h3 := pow15 (k := i) (by omega)
    refine evs (fun k => by rw [spec_LevelOf.l0]) ?_
    refine evp (by omega) ?_
    have := spec_l1 (r := (ic (slv K), true)) (K : Int) (i : Int) (slv i) (fun n hn => lv_in ((mem_slv i n).1 hn)) (slv i) [] [] rfl (by omega) (by simp; omega) (by
      rw [w64 (x := (i : Int) + 1) (by omega) (by omega)]
      rw [show ((i + 1 : Nat) : Int) = (i : Int) + 1 by omega] at h1
      exact h1)
    exact this
theorem sorted_lvl (K : Nat) (hK : K ≤ 15) : slices_Sort_int_int.f (ic (lvl K)) = some (ic (slv K)) := by
  obtain ⟨s, h1, h2, h3⟩ := sort_nat (lvl K)
  have hl := lvl_length K
  have hp := pow15 hK
  have hs : s.Pairwise (· < ·) := by
    have hn : s.Nodup := h2.nodup_iff.2 (lvl_nodup K)
    exact (List.pairwise_and_iff.2 ⟨h3, hn⟩).imp (fun ⟨a, b⟩ => Nat.lt_of_le_of_ne a b)
  have e : s = slv K := sorted_ext hs (slv_sorted K) (fun x => by rw [h2.mem_iff, mem_lvl, mem_slv])
  unfold slices_Sort_int_int.f
  rw [if_pos (by rw [ic_length]; omega), h1, e]
def lvR (a : Int) : List Int × Bool := if 0 ≤ a ∧ a ≤ 15 then (ic (slv a.toNat), true) else ([], false)
theorem levelOf_ev (a : Int) : Ev (fun k => impl_LevelOf.f k a) (lvR a) ∧ Ev (fun k => spec_LevelOf.f k a) (lvR a) := by
  unfold impl_LevelOf.f spec_LevelOf.f lvR
  rw [impl_in_eq, spec_l1In_eq]
  by_cases h : 0 ≤ a ∧ a ≤ 15
  · obtain ⟨K, rfl⟩ := natOf (a := a) (by omega)
    rw [if_pos h, Int.toNat_natCast]
    have h1 := impl_l0 K (by omega) (slv K) (sorted_lvl K (by omega)) K 0 (by omega)
    have h2 := spec_l0 K (by omega) K 0 (by omega)
    exact ⟨evc rfl (evp (by simpa using h) (by simpa [lvl, ic] using h1)), evc rfl (evp (by simpa using h) (by simpa [slv, ic] using h2))⟩
  · rw [if_neg h]
    exact ⟨evc rfl (evn (by simpa using h) (Ev.now _)), evc rfl (evn (by simpa using h) (Ev.now _))⟩

theorem low_byte (x : Int) : 0 ≤ Go.bits .and .u64 ((IntKind.u64.wrap x) / 1099511627776) 255 ∧ Go.bits .and .u64 ((IntKind.u64.wrap x) / 1099511627776) 255 ≤ 255 := by
  have h0 : 0 ≤ IntKind.u64.wrap x ∧ IntKind.u64.wrap x < 18446744073709551616 := by rw [IntKind.wrap_u64]; omega
  obtain ⟨y, hy⟩ := Int.eq_ofNat_of_zero_le (show 0 ≤ IntKind.u64.wrap x / 1099511627776 by omega)
  rw [hy]
  have h1 := bits_and_u64_nat y 255 (by omega) (by omega)
  have e : y &&& 255 = y % 256 := Nat.and_two_pow_sub_one_eq_mod y 8
  rw [e] at h1
  rw [show ((255 : Int)) = ((255 : Nat) : Int) from rfl, h1]
  omega
theorem next_ok (l : List Int) (hl : ∀ x ∈ l, 0 ≤ x ∧ x ≤ 255) (p s : Int) (h0 : 0 ≤ p) (h1 : p ≤ 1000000000000) :
    ∃ v s' : Int, spec_l1Cur_next.f l p s = some (v, p + 1, s') ∧ 0 ≤ v ∧ v ≤ 255 := by
  unfold spec_l1Cur_next.f
  rw [w64 (x := p + 1) (by omega) (by omega)]
  by_cases hp : p < (l.length : Int)
  · have hm := hl _ (rd_mem l p h0 hp)
    rw [if_pos hp, if_pos h0]
    by_cases hq : p + 1 ≤ (l.length : Int)
    · rw [if_pos hq]
      refine ⟨_, _, rfl, ?_⟩
      rw [w64 (by omega) (by omega)]
      exact hm
    · omega
  · rw [if_neg hp]
    by_cases hq : p + 1 ≤ (l.length : Int)
    · omega
    · rw [if_neg hq]
      refine ⟨_, _, rfl, ?_⟩
      have h := low_byte (IntKind.u64.wrap (IntKind.u64.wrap (s * 6364136223846793005)) + 1442695040888963407)
      rw [w64 (by omega) (by omega)]
      exact h
theorem pick_ok (l : List Int) (hl : ∀ x ∈ l, 0 ≤ x ∧ x ≤ 255) (p s n : Int) (h0 : 0 ≤ p) (h1 : p ≤ 999999999990) (hn : n ≤ 1000000) :
    ∃ v p' s' : Int, spec_l1Cur_pick.f l p s n = some (v, p', s') ∧ 0 ≤ v ∧ v ≤ 1000000 ∧ (v = 0 ∨ v < n) ∧ p ≤ p' ∧ p' ≤ p + 2 := by
  unfold spec_l1Cur_pick.f
  by_cases h : n ≤ 1
  · rw [if_pos h]
    exact ⟨0, p, s, rfl, by omega, by omega, by omega, by omega, by omega⟩
  · rw [if_neg h]
    obtain ⟨v, s1, e1, h2, h3⟩ := next_ok l hl p s h0 (by omega)
    rw [e1]
    simp only [Option.bind_some]
    by_cases h4 : n > 200
    · rw [if_pos h4]
      obtain ⟨v2, s2, e2, h5, h6⟩ := next_ok l hl (p + 1) s1 (by omega) (by omega)
      rw [e2]
      simp only [Option.bind_some]
      rw [if_neg (by omega), w64 (x := v * 256) (by omega) (by omega), w64 (by omega) (by omega)]
      have h7 := Int.tmod_nonneg n (show 0 ≤ v * 256 + v2 by omega)
      have h8 := Int.tmod_lt_of_pos (v * 256 + v2) (show 0 < n by omega)
      exact ⟨_, _, _, rfl, h7, by omega, Or.inr h8, by omega, by omega⟩
    · rw [if_neg h4, if_neg (by omega)]
      have h7 := Int.tmod_nonneg n (show 0 ≤ v by omega)
      have h8 := Int.tmod_lt_of_pos v (show 0 < n by omega)
      exact ⟨_, _, _, rfl, h7, by omega, Or.inr h8, by omega, by omega⟩
theorem among_ok (l : List Int) (hl : ∀ x ∈ l, 0 ≤ x ∧ x ≤ 255) (p s : Int) (m : List Int) (hm : m ≠ []) (hm2 : m.length ≤ 1000000) (h0 : 0 ≤ p) (h1 : p ≤ 999999999990) :
    ∃ v p' s' : Int, spec_l1Cur_among.f l p s m = some (v, p', s') ∧ v ∈ m ∧ p ≤ p' ∧ p' ≤ p + 2 := by
  unfold spec_l1Cur_among.f
  have hpos := List.length_pos_iff.2 hm
  obtain ⟨v, p', s', e1, h2, h3, h4, h5, h6⟩ := pick_ok l hl p s m.length h0 h1 (by omega)
  rw [e1]
  simp only [Option.bind_some]
  rw [if_pos h2, if_pos (by omega)]
  exact ⟨_, _, _, rfl, rd_mem m v h2 (by omega), h5, h6⟩

theorem laws_rSame_loop (post : List Int) : ∀ (pre post' : List Int), post'.length = post.length → (pre ++ post).length ≤ 4611686018427387904 →
    Ev (fun k => laws_rSame.l0 k (pre ++ post) (pre ++ post') ((pre ++ post).length : Int) (pre.length : Int)) (decide (post = post')) := by
  induction post with
  | nil =>
    intro pre post' hl h
    obtain rfl : post' = [] := List.eq_nil_of_length_eq_zero hl
    refine evs (fun k => by rw [laws_rSame.l0]) ?_
    exact evn (by simp) (evr (by simp))
  | cons x post ih =>
    intro pre post' hl h
    obtain ⟨y, post', rfl⟩ : ∃ y z, post' = y :: z := by cases post' with
      | nil => simp at hl
      | cons y z => exact ⟨y, z, rfl⟩
    refine evs (fun k => by rw [laws_rSame.l0]) ?_
    refine evp (by simp; omega) (evp (by omega) (evp (by simp; omega) (evp (by simp; omega) ?_)))
    rw [rd_mid, rd_mid]
    by_cases he : x = y
    · subst he
      refine evp rfl ?_
      have h2 := ih (pre ++ [x]) post' (by simpa using hl) (by simpa using h)
      simp only [List.append_assoc, List.singleton_append] at h2
      rw [w64 (by omega) (by simp at h; omega)]
      simpa using h2
    · exact evn he (evr (by simp [he]))
theorem laws_rSame_ev (l l' : List Int) (h : l.length ≤ 4611686018427387904) : Ev (fun k => laws_rSame.f k l l') (decide (l = l')) := by
  unfold laws_rSame.f
  by_cases hl : l.length = l'.length
  · exact evp (by omega) (by simpa using laws_rSame_loop l [] l' hl.symm (by simpa using h))
  · exact evn (by omega) (evr (by symm; rw [decide_eq_false_iff_not]; exact fun e => hl (by rw [e])))
theorem laws_rSame_self (l : List Int) (h : l.length ≤ 4611686018427387904) : Ev (fun k => laws_rSame.f k l l) true := by simpa using laws_rSame_ev l l h

theorem laws_rHas_loop (x : Int) (whole : List Int) (post : List Int) : ∀ pre : List Int, whole = pre ++ post → whole.length ≤ 4611686018427387904 →
    Ev (fun k => laws_rHas.l0 k x whole (whole.length : Int) (pre.length : Int)) (decide (x ∈ post)) := by
  induction post with
  | nil =>
    intro pre hw h
    refine evs (fun k => by rw [laws_rHas.l0]) ?_
    exact evn (by simp [hw]) (evr (by simp))
  | cons y post ih =>
    intro pre hw h
    have hl : whole.length = pre.length + (post.length + 1) := by simp [hw]
    have hx : rd whole (pre.length : Int) = y := by rw [hw, rd_mid]
    refine evs (fun k => by rw [laws_rHas.l0]) ?_
    rw [hx]
    refine evp (by omega) (evp (by omega) (evp (by omega) ?_))
    by_cases he : y = x
    · exact evp he (evr (by simp [he]))
    · refine evn he ?_
      have h2 := ih (pre ++ [y]) (by simp [hw]) h
      rw [w64 (by omega) (by omega)]
      have e : decide (x ∈ y :: post) = decide (x ∈ post) := by
        have : ¬ x = y := fun e => he e.symm
        simp [this]
      rw [e]
      simpa using h2
theorem laws_rHas_ev (l : List Int) (x : Int) (h : l.length ≤ 4611686018427387904) : Ev (fun k => laws_rHas.f k l x) (decide (x ∈ l)) := by
  unfold laws_rHas.f
  simpa using laws_rHas_loop x l l [] rfl h

theorem drawn_one (l : List Int) (hl : ∀ x ∈ l, 0 ≤ x ∧ x ≤ 255) (p s n : Int) (h0 : 0 ≤ p) (h1 : p ≤ 999999999990) (hn : n ≤ 1000000) : ∃ (v : Bool) (p' s' : Int), spec_l1Cur_one.f l p s n = some (v, p', s') ∧ p ≤ p' ∧ p' ≤ p + 2 := by
  obtain ⟨v1, p1, s1, e1, a1, b1, c1, d1, f1⟩ := pick_ok l hl p s n h0 h1 hn
  refine ⟨v1 == 0, p1, s1, ?_, d1, f1⟩
  unfold spec_l1Cur_one.f
  rw [e1]
  rfl
theorem sureNumber_loop (l : List Int) (hl : ∀ x ∈ l, 0 ≤ x ∧ x ≤ 255) (d : Nat) : ∀ x p s : Int, 0 ≤ p → p + 2 * (d : Int) ≤ 100000000 → ∃ v p' s' : Int, Ev (fun k => spec_l1Cur_sureNumber.l0 k x (d : Int) l p s) (v, p', s') ∧ p ≤ p' ∧ p' ≤ p + 2 * (d : Int) := by
  induction d with
  | zero =>
    intro x p s h0 h1
    exact ⟨x, p, s, evs (fun k => by rw [spec_l1Cur_sureNumber.l0]) (evn (by omega) (Ev.now _)), by omega, by omega⟩
  | succ d ih =>
    intro x p s h0 h1
    obtain ⟨v, p1, s1, e1, _, _, _, h2, h3⟩ := pick_ok l hl p s 10 h0 (by omega) (by omega)
    obtain ⟨v', p2, s2, e2, h4, h5⟩ := ih (wrap64 (wrap64 (x * 10) + v)) p1 s1 (by omega) (by omega)
    refine ⟨v', p2, s2, evs (fun k => by rw [spec_l1Cur_sureNumber.l0]) (evp (by omega) ?_), by omega, by omega⟩
    simp only [e1, Option.bind_some]
    rw [w64 (x := (((d + 1 : Nat)) : Int) - 1) (by omega) (by omega), show (((d + 1 : Nat)) : Int) - 1 = (d : Int) by omega]
    exact e2
theorem sureNumber_ok (l : List Int) (hl : ∀ x ∈ l, 0 ≤ x ∧ x ≤ 255) (p s : Int) (h0 : 0 ≤ p) (h1 : p ≤ 90000000) : ∃ v p' s' : Int, Ev (fun k => spec_l1Cur_sureNumber.f k l p s) (v, p', s') ∧ p ≤ p' ∧ p' ≤ p + 30 := by
  obtain ⟨v1, p1, s1, e1, a1, b1, c1, d1, f1⟩ := pick_ok l hl p s 8 (by omega) (by omega) (by omega)
  simp only [spec_l1Cur_sureNumber.f, e1, Option.bind_some]
  by_cases h0 : v1 = 0
  · obtain ⟨v2, p2, s2, e2, a2, b2, c2, d2, f2⟩ := pick_ok l hl p1 s1 256 (by omega) (by omega) (by omega)
    refine ⟨v2, p2, s2, evp h0 ?_, by omega, by omega⟩
    simp only [e2, Option.bind_some]
    exact Ev.now _
  · by_cases h1 : v1 = 1
    · obtain ⟨v, p2, s2, e2, _, h2, h3⟩ := among_ok l hl p1 s1 [0, 1, 9, 10, 99, 100, 153, 370, 1000, 6174, 9999, 999999999999, 1000000000000] (by simp) (by simp) (by omega) (by omega)
      refine ⟨v, p2, s2, evn h0 (evp h1 ?_), by omega, by omega⟩
      simp only [e2, Option.bind_some]
      exact Ev.now _
    · by_cases h2 : v1 = 2
      · obtain ⟨v2, p2, s2, e2, a2, b2, c2, d2, f2⟩ := pick_ok l hl p1 s1 256 (by omega) (by omega) (by omega)
        obtain ⟨v3, p3, s3, e3, a3, b3, c3, d3, f3⟩ := pick_ok l hl p2 s2 256 (by omega) (by omega) (by omega)
        refine ⟨wrap64 (v2 * v3), p3, s3, evn h0 (evn h1 (evp h2 ?_)), by omega, by omega⟩
        simp only [e2, e3, Option.bind_some]
        exact Ev.now _
      · obtain ⟨v2, p2, s2, e2, a2, b2, c2, d2, f2⟩ := pick_ok l hl p1 s1 11 (by omega) (by omega) (by omega)
        obtain ⟨d, rfl⟩ := natOf (a := v2) a2
        obtain ⟨v3, p3, s3, e3, h4, h5⟩ := sureNumber_loop l hl (1 + d) 0 p2 s2 (by omega) (by omega)
        refine ⟨v3, p3, s3, evn h0 (evn h1 (evn h2 ?_)), by omega, by omega⟩
        simp only [e2, Option.bind_some]
        rw [w64 (x := (1 : Int) + (d : Int)) (by omega) (by omega)]
        simpa using e3
theorem drawStep_ok (l : List Int) (hl : ∀ x ∈ l, 0 ≤ x ∧ x ≤ 255) : ∃ a : Int, Ev (fun k => spec_DrawStepOf.f k l) a := by
  have st : ∃ a p' s' : Int, Ev (fun k => spec_l1Cur_stepped.f k l 0 0) (a, p', s') := by
    obtain ⟨v, p1, s1, e1, d1, f1⟩ := drawn_one l hl 0 0 16 (by omega) (by omega) (by omega)
    by_cases g : v = true
    · obtain ⟨a, p2, s2, e2, _, d2, f2⟩ := among_ok l hl p1 s1 [0, (-1), 1000000000000, 1000000000001, 4611686018427387904] (by simp) (by simp) (by omega) (by omega)
      refine ⟨a, p2, s2, ?_⟩
      unfold spec_l1Cur_stepped.f
      exact evc e1 (evp g (evc e2 (Ev.now _)))
    · obtain ⟨x1, p2, s2, e2, _, _, _, d2, f2⟩ := pick_ok l hl p1 s1 200 (by omega) (by omega) (by omega)
      obtain ⟨x2, p3, s3, e3, _, _, _, d3, f3⟩ := pick_ok l hl p2 s2 250 (by omega) (by omega) (by omega)
      obtain ⟨x3, p4, s4, e4, d4, f4⟩ := sureNumber_ok l hl p3 s3 (by omega) (by omega)
      obtain ⟨x4, p5, s5, e5, d5, f5⟩ := sureNumber_ok l hl p4 s4 (by omega) (by omega)
      obtain ⟨y, hy⟩ : ∃ y, spec_l1Most.f 1 x4 = some y := by unfold spec_l1Most.f; split <;> exact ⟨_, rfl⟩
      obtain ⟨a, p6, s6, e6, _, d6, f6⟩ := among_ok l hl p5 s5 [1, 2, 3, 7, 27, 97, 703, 6171, wrap64 (1 + x1), wrap64 (1 + x2), wrap64 (1 + (Int.tmod x3 1000000)), y] (by simp) (by simp) (by omega) (by omega)
      refine ⟨a, p6, s6, ?_⟩
      unfold spec_l1Cur_stepped.f
      exact evc e1 (evn g (evc e2 (evc e3 (evb e4 (evb e5 (evc hy (evc e6 (Ev.now _))))))))
  obtain ⟨a, p, s, e⟩ := st
  refine ⟨a, ?_⟩
  unfold spec_DrawStepOf.f
  exact evb e (Ev.now _)
theorem rdD (l : List Nat) (i : Nat) : rd (ic l) (i : Int) = ((l.getD i 0 : Nat) : Int) := by
  simp only [rd, Int.toNat_natCast, ic, List.getD_eq_getElem?_getD, List.getElem?_map]
  cases l[i]? <;> simp
theorem rising_loop (l : List Nat) (hl : l.length ≤ 1000000) (hr : ∀ i, i + 1 < l.length → l.getD i 0 < l.getD (i + 1) 0) (r : Nat) : ∀ i : Nat, i + 1 + r = l.length → Ev (fun k => laws_rRising.l0 k (ic l) ((i : Int) + 1)) true := by
  induction r with
  | zero =>
    intro i h
    refine evs (fun k => by rw [laws_rRising.l0]) ?_
    exact evn (by rw [ic_length]; omega) (Ev.now _)
  | succ r ih =>
    intro i h
    have h1 := ih (i + 1) (by omega)
    have h2 := hr i (by omega)
    rw [show ((i + 1 : Nat) : Int) = (i : Int) + 1 by omega] at h1
    refine evs (fun k => by rw [laws_rRising.l0]) ?_
    rw [ic_length, w64 (x := (i : Int) + 1 - 1) (by omega) (by omega), w64 (x := (i : Int) + 1 + 1) (by omega) (by omega), show (i : Int) + 1 - 1 = (i : Int) by omega, show (i : Int) + 1 = ((i + 1 : Nat) : Int) by omega, rdD, rdD]
    rw [show ((i : Int) + 1 + 1) = ((i + 1 : Nat) : Int) + 1 by omega] at h1
    exact evp (by omega) (evp (by omega) (evp (by omega) (evp (by omega) (evn (by omega) h1))))
theorem rising_ev (l : List Nat) (hl : l.length ≤ 1000000) (hs : l.Pairwise (· < ·)) : Ev (fun k => laws_rRising.f k (ic l)) true := by
  have hr : ∀ i, i + 1 < l.length → l.getD i 0 < l.getD (i + 1) 0 := by
    intro i hi
    have := List.pairwise_iff_getElem.1 hs i (i + 1) (by omega) hi (by omega)
    simpa [List.getD_eq_getElem?_getD, List.getElem?_eq_getElem hi, List.getElem?_eq_getElem (show i < l.length by omega)] using this
  unfold laws_rRising.f
  by_cases h : l = []
  · subst h
    refine evs (fun k => by rw [laws_rRising.l0]) ?_
    exact evn (by simp [ic]) (Ev.now _)
  · have := List.length_pos_iff.2 h
    exact rising_loop l hl hr (l.length - 1) 0 (by omega)
/-! Falling below. -/
def fbN (o : Option (List Nat)) (j : Int) : Int × Bool := match o with
  | some l => (j + (l.length : Int) - 1, true)
  | none => (0, false)
theorem fbN_map (o : Option (List Nat)) (n : Nat) (j : Int) : fbN (o.map (n :: ·)) j = fbN o (j + 1) := by
  cases o with
  | none => rfl
  | some l =>
    simp only [Option.map_some, fbN, List.length_cons]
    congr 1
    omega
theorem spec_falls (n : Nat) (hn : 2 ≤ n) : ∀ (r x j : Nat), 1 ≤ x → x ≤ 1000000000000 → j + r = 1000 → Ev (fun k => spec_FallsBelow.l0 k (n : Int) (x : Int) (j : Int)) (fbN (wayN (fun y => decide (y < n)) r x) (j : Int)) := by
  intro r
  induction r with
  | zero =>
    intro x j h1 h2 hj
    refine evs (fun k => by rw [spec_FallsBelow.l0]) ?_
    by_cases hx : x < n
    · rw [wayN, if_pos (by simpa using hx)]
      exact evn (by omega) (evr (by simp [fbN]))
    · rw [wayN, if_neg (by simpa using hx)]
      refine evp (by omega) (evc (spec_stStep_nat x h2) (evc (stNumber_eq _) ?_))
      by_cases hs : (1 : Int) ≤ ((stp x : Nat) : Int) ∧ ((stp x : Nat) : Int) ≤ 1000000000000
      · rw [w64 (x := (j : Int) + 1) (by omega) (by omega)]
        exact evp (by simpa using hs) (evp (by omega) (Ev.now _))
      · exact evn (by simpa using hs) (Ev.now _)
  | succ r ih =>
    intro x j h1 h2 hj
    refine evs (fun k => by rw [spec_FallsBelow.l0]) ?_
    by_cases hx : x < n
    · rw [wayN, if_pos (by simpa using hx)]
      exact evn (by omega) (evr (by simp [fbN]))
    · rw [wayN, if_neg (by simpa using hx)]
      have hp := stp_pos h1
      refine evp (by omega) (evc (spec_stStep_nat x h2) (evc (stNumber_eq _) ?_))
      rw [w64 (x := (j : Int) + 1) (by omega) (by omega)]
      by_cases hs : stp x > 1000000000000
      · rw [if_pos hs]
        exact evn (by simp; omega) (Ev.now _)
      · rw [if_neg hs, fbN_map]
        have h3 := ih (stp x) (j + 1) hp (by omega) (by omega)
        rw [show ((j + 1 : Nat) : Int) = (j : Int) + 1 by omega] at h3
        exact evp (by simp; omega) (evn (by omega) h3)
def fbO (a : Int) : Option (List Nat) := if 2 ≤ a ∧ a ≤ 1000000000000 then wayN (fun y => decide (y < a.toNat)) 1000 a.toNat else none
theorem falls_ev (a : Int) : Ev (fun k => impl_FallsBelow.f k a) (fbN (fbO a) 0) ∧ Ev (fun k => spec_FallsBelow.f k a) (fbN (fbO a) 0) := by
  unfold impl_FallsBelow.f spec_FallsBelow.f fbO
  rw [impl_in_eq, spec_l1In_eq]
  by_cases h : 2 ≤ a ∧ a ≤ 1000000000000
  · obtain ⟨n, rfl⟩ := natOf (a := a) (by omega)
    rw [if_pos h, Int.toNat_natCast]
    have h1 := impl_way_ev (fun y => decide (y < n)) (fun x => decide (x < (n : Int))) (fun m => by
      by_cases hm : m < n
      · rw [decide_eq_true hm, decide_eq_true (by omega)]
      · rw [decide_eq_false hm, decide_eq_false (by omega)]) 1000 n [] (by omega) (by omega) (by simp)
    have h2 := spec_falls n (by omega) 1000 n 0 (by omega) (by omega) (by omega)
    refine ⟨evc rfl (evp (by simpa using h) (evb (a := wr [] (wayN (fun y => decide (y < n)) 1000 n)) (by simpa [ic] using h1) ?_)), evc rfl (evp (by simpa using h) (by simpa using h2))⟩
    cases hw : wayN (fun y => decide (y < n)) 1000 n with
    | none =>
      refine evr ?_
      simp only [wr, fbN, List.length_nil]
      rw [w64 (by omega) (by omega)]
      unfold mx
      rw [if_pos (by omega)]
    | some l =>
      obtain ⟨t, rfl, _, hl⟩ := wayN_is _ _ _ _ hw
      refine evr ?_
      simp only [List.length_cons] at hl
      have hlen : (ic ([] ++ n :: t)).length = t.length + 1 := by simp [ic_length]
      simp only [wr, fbN]
      rw [hlen, w64 (by omega) (by omega)]
      unfold mx
      rw [if_neg (by omega)]
      simp
  · rw [if_neg h]
    exact ⟨evc rfl (evn (by simpa using h) (Ev.now _)), evc rfl (evn (by simpa using h) (Ev.now _))⟩
theorem falls_law (n : Nat) (l : List Nat) (hl : l.length ≤ 1001) (post : List Nat) : ∀ (pre : List Nat) (x : Nat) (t : List Nat), l = pre ++ post → post = x :: t → 1 ≤ x → x ≤ 1000000000000 → IsWay (fun y => decide (y < n)) post →
    Ev (fun k => laws_FnStepsToOne.l4 k (n : Int) ((l.length : Int) - 1) (x : Int) (pre.length : Int)) true := by
  induction post with
  | nil => intro pre x t _ h; exact absurd h (by simp)
  | cons y post ih =>
    intro pre x t hw he h1 h2 hI
    injection he with e1 e2
    subst e1
    subst e2
    have hll : l.length = pre.length + (post.length + 1) := by simp [hw]
    refine evs (fun k => by rw [laws_FnStepsToOne.l4]) ?_
    cases post with
    | nil =>
      have h3 : decide (y < n) = true := hI
      have h4 : y < n := by simpa using h3
      simp only [List.length_nil] at hll
      exact evn (by omega) (evr (by simp; omega))
    | cons m rest =>
      obtain ⟨h3, h4, h5, h6⟩ := hI
      have h3' : ¬ y < n := by simpa using h3
      simp only [List.length_cons] at hll
      have hp := stp_pos h1
      have h7 := ih (pre ++ [y]) m rest (by simp [hw]) rfl (by omega) h5 h6
      rw [show (((pre ++ [y]).length : Nat) : Int) = (pre.length : Int) + 1 by simp] at h7
      refine evp (by omega) (evn (by omega) (evc (stepOf_nat h1 h2 (by omega)) (evp rfl ?_)))
      rw [w64 (x := (pre.length : Int) + 1) (by omega) (by omega), ← h4]
      exact h7
theorem last_law (l1 : List Int) (hl1 : ∀ x ∈ l1, 0 ≤ x ∧ x ≤ 255) (x37 x42 : Int) (x317 : List Int) (x318 : Int) (x319 : Int) (hx : ¬ x319 < x318) : Ev (fun k => laws_FnStepsToOne.l3 k l1 x37 x42 x317 x318 x319) true := by
  obtain ⟨a, ha⟩ := drawStep_ok l1 hl1
  obtain ⟨z, hz1, hz2⟩ := shortStep_eq a
  obtain ⟨b1, b2⟩ := beforeStep_ev a
  obtain ⟨f1, f2⟩ := falls_ev a
  have hbl : (bsR a).1.length ≤ 2 := by
    unfold bsR
    split
    · simp only [ic_length]; exact bf_length _
    · simp
  refine evs (fun k => by rw [laws_FnStepsToOne.l3]) (evn hx ?_)
  refine evb ha (evc (stepOf_eq a).1 (evc (stepOf_eq a).2 (evc hz1 (evc hz2 (evb b1 (evc b2 (evb f1 (evb f2 ?_))))))))
  refine evn (by simp) (evp rfl (evn (by simp) (evp rfl (evn (by simp) (evb (laws_rSame_self _ (by omega)) (evp rfl (evn (by simp) ?_)))))))
  refine evs (fun k => by rw [laws_FnStepsToOne.j11]) (evn (by simp) ?_)
  cases hf : fbO a with
  | none => exact evn (by simp [fbN]) (Ev.now _)
  | some l =>
    unfold fbO at hf
    by_cases h : 2 ≤ a ∧ a ≤ 1000000000000
    · rw [if_pos h] at hf
      obtain ⟨n, rfl⟩ := natOf (a := a) (by omega)
      rw [Int.toNat_natCast] at hf
      obtain ⟨t, e, hI, hl⟩ := wayN_is _ _ _ _ hf
      have := falls_law n l hl l [] n t rfl e (by omega) (by omega) hI
      refine evp (by simp [fbN]) ?_
      simpa [fbN] using this
    · rw [if_neg h] at hf; exact absurd hf (by simp)
/-! Records. -/
def sv (x : Nat) : Nat := match wo (x : Int) with
  | some l => l.length
  | none => 0
theorem snR_sv {x : Nat} (h : 1 ≤ sv x) : snR (x : Int) = ((sv x : Int) - 1, true) := by
  unfold sv at h ⊢
  unfold snR
  cases hw : wo (x : Int) with
  | none => rw [hw] at h; simp at h
  | some l => rfl
theorem sv_le (x : Nat) : sv x ≤ 1001 := by
  unfold sv
  cases hw : wo (x : Int) with
  | none => simp
  | some l => exact (snR_some hw).2.2
theorem steps_sv (x : Nat) : ∃ b, snR (x : Int) = ((if 1 ≤ sv x then (sv x : Int) - 1 else 0), b) := by
  by_cases h : 1 ≤ sv x
  · exact ⟨true, by rw [if_pos h, snR_sv h]⟩
  · refine ⟨false, ?_⟩
    rw [if_neg h]
    unfold sv at h
    unfold snR
    cases hw : wo (x : Int) with
    | none => rfl
    | some l => rw [hw] at h; have := (snR_some hw).2.1; exact absurd this h
theorem way_sv (x : Nat) : ∃ b, wr [] (wo (x : Int)) = ((wr [] (wo (x : Int))).1, b) ∧ (wr [] (wo (x : Int))).1.length = sv x := by
  unfold sv
  cases wo (x : Int) with
  | none => exact ⟨false, rfl, rfl⟩
  | some l => exact ⟨true, rfl, by simp [wr, ic_length]⟩
def Rec (R : List Nat) (g x : Nat) : Prop := R.Pairwise (fun a b => a < b ∧ sv a < sv b) ∧ ∀ a ∈ R, 1 ≤ a ∧ a < x ∧ 1 ≤ sv a ∧ sv a ≤ g
theorem rec_more {R : List Nat} {g x : Nat} (h : Rec R g x) : Rec R g (x + 1) := ⟨h.1, fun a ha => by have := h.2 a ha; omega⟩
theorem rec_add {R : List Nat} {g x : Nat} (h : Rec R g x) (hx : 1 ≤ x) (hg : sv x > g) : Rec (R ++ [x]) (sv x) (x + 1) := by
  refine ⟨List.pairwise_append.2 ⟨h.1, by simp, fun a ha b hb => ?_⟩, fun a ha => ?_⟩
  · obtain rfl := List.mem_singleton.1 hb
    have := h.2 a ha
    omega
  · rcases List.mem_append.1 ha with ha | ha
    · have := h.2 a ha; omega
    · obtain rfl := List.mem_singleton.1 ha
      omega
theorem records_loop (m : Nat) (hm : m ≤ 2000) (d : Nat) : ∀ (x g : Nat) (R : List Nat), 2 ≤ x → 1 ≤ g → g ≤ 1001 → x + d = m + 1 → R.length < x → Rec R g x →
    ∃ (R' : List Nat) (g' : Nat), R'.length ≤ m ∧ Rec R' g' (m + 1) ∧ Ev (fun k => impl_RecordsUpTo.l0 k (m : Int) (ic R) ((g : Int) - 1) (x : Int)) (ic R', true) ∧ Ev (fun k => spec_RecordsUpTo.l0 k (m : Int) (ic R) (g : Int) (x : Int)) (ic R', true) := by
  induction d with
  | zero =>
    intro x g R hx hg hg2 hxd hR hrec
    refine ⟨R, g, by omega, by rw [show m + 1 = x by omega]; exact hrec, evs (fun k => by rw [impl_RecordsUpTo.l0]) (evn (by omega) (Ev.now _)), evs (fun k => by rw [spec_RecordsUpTo.l0]) (evn (by omega) (Ev.now _))⟩
  | succ d ih =>
    intro x g R hx hg hg2 hxd hR hrec
    obtain ⟨b1, hb1⟩ := steps_sv x
    have e1 := (stepsTo_ev (x : Int)).1
    obtain ⟨b2, hb2, hb3⟩ := way_sv x
    have e2 := stWay_ev x (by omega) (by omega)
    rw [hb1] at e1
    rw [hb2] at e2
    have hsl := sv_le x
    have hRl : (ic R).length = R.length := ic_length R
    by_cases hc : sv x > g
    · obtain ⟨R', g', r1, r2, r3, r4⟩ := ih (x + 1) (sv x) (R ++ [x]) (by omega) (by omega) hsl (by omega) (by simp; omega) (rec_add hrec (by omega) hc)
      rw [ic_append, show ic [x] = [(x : Int)] from rfl, show ((x + 1 : Nat) : Int) = (x : Int) + 1 by omega] at r3 r4
      refine ⟨R', g', r1, r2, evs (fun k => by rw [impl_RecordsUpTo.l0]) ?_, evs (fun k => by rw [spec_RecordsUpTo.l0]) ?_⟩
      · rw [w64 (x := (x : Int) + 1) (by omega) (by omega)]
        refine evp (by omega) (evb e1 ?_)
        simp only [if_pos (show 1 ≤ sv x by omega)]
        exact evp (by omega) (evp (by omega) r3)
      · rw [w64 (x := (x : Int) + 1) (by omega) (by omega)]
        refine evp (by omega) (evb e2 ?_)
        simp only [hb3]
        exact evp (by omega) (evp (by omega) r4)
    · obtain ⟨R', g', r1, r2, r3, r4⟩ := ih (x + 1) g R (by omega) (by omega) hg2 (by omega) (by omega) (rec_more hrec)
      rw [show ((x + 1 : Nat) : Int) = (x : Int) + 1 by omega] at r3 r4
      refine ⟨R', g', r1, r2, evs (fun k => by rw [impl_RecordsUpTo.l0]) ?_, evs (fun k => by rw [spec_RecordsUpTo.l0]) ?_⟩
      · rw [w64 (x := (x : Int) + 1) (by omega) (by omega)]
        refine evp (by omega) (evb e1 (evn ?_ r3))
        simp only
        split <;> omega
      · rw [w64 (x := (x : Int) + 1) (by omega) (by omega)]
        refine evp (by omega) (evb e2 (evn ?_ r4))
        simp only [hb3]
        omega
theorem wo_one : wo 1 = some [1] := by
  unfold wo
  rw [if_pos (by omega)]
  show wayN (fun x => x == 1) 1000 1 = some [1]
  rw [wayN]
  rfl
theorem sv_one : sv 1 = 1 := by
  unfold sv
  rw [show ((1 : Nat) : Int) = 1 from rfl, wo_one]
  rfl
theorem records_ev (a : Int) : ∃ (R : List Nat) (b : Bool) (g m : Nat), R.length ≤ 2000 ∧ Rec R g (m + 1) ∧ (R = [] ∨ a = (m : Int)) ∧ Ev (fun k => impl_RecordsUpTo.f k a) (ic R, b) ∧ Ev (fun k => spec_RecordsUpTo.f k a) (ic R, b) := by
  unfold impl_RecordsUpTo.f spec_RecordsUpTo.f
  rw [impl_in_eq, spec_l1In_eq]
  by_cases h : 1 ≤ a ∧ a ≤ 2000
  · obtain ⟨m, rfl⟩ := natOf (a := a) (by omega)
    have hr1 : Rec [1] 1 2 := ⟨by simp, fun a ha => by
      obtain rfl := List.mem_singleton.1 ha
      rw [sv_one]
      omega⟩
    obtain ⟨R, g, r1, r2, r3, r4⟩ := records_loop m (by omega) (m - 1) 2 1 [1] (by omega) (by omega) (by omega) (by omega) (by simp) hr1
    have hs1 : snR 1 = (0, true) := by unfold snR; rw [wo_one]; rfl
    have e1 := (stepsTo_ev 1).1
    have e2 := stWay_ev 1 (by omega) (by omega)
    rw [hs1] at e1
    rw [show ((1 : Nat) : Int) = 1 from rfl, wo_one] at e2
    refine ⟨R, true, g, m, by omega, r2, Or.inr rfl, evc rfl (evp (by simpa using h) ?_), evc rfl (evp (by simpa using h) ?_)⟩
    · refine evs (fun k => by rw [impl_RecordsUpTo.l0]) ?_
      rw [w64 (x := (1 : Int) + 1) (by omega) (by omega)]
      exact evp (by omega) (evb e1 (evp (by simp) (evp (by simp) (by simpa [ic] using r3))))
    · refine evs (fun k => by rw [spec_RecordsUpTo.l0]) ?_
      rw [w64 (x := (1 : Int) + 1) (by omega) (by omega)]
      exact evp (by omega) (evb e2 (evp (by simp [wr, ic]) (evp (by simp) (by simpa [ic, wr] using r4))))
  · exact ⟨[], false, 0, 0, by simp, ⟨by simp, by simp⟩, Or.inl rfl, evc rfl (evn (by simpa using h) (Ev.now _)), evc rfl (evn (by simpa using h) (Ev.now _))⟩
theorem records_law (l1 : List Int) (hl1 : ∀ x ∈ l1, 0 ≤ x ∧ x ≤ 255) (m : Nat) (R : List Nat) (hlen : R.length ≤ 2000) (post : List Nat) : ∀ (pre : List Nat) (b : Int), R = pre ++ post → post.Pairwise (fun a b => a < b ∧ sv a < sv b) → (∀ y ∈ post, 1 ≤ sv y ∧ b < (sv y : Int) - 1 ∧ y ≤ m) →
    Ev (fun k => laws_FnStepsToOne.l3 k l1 (m : Int) b (ic R) ((ic R).length : Int) (pre.length : Int)) true := by
  induction post with
  | nil =>
    intro pre b hw _ _
    exact last_law l1 hl1 _ _ _ _ _ (by simp [hw, ic_length])
  | cons x post ih =>
    intro pre b hw hp hb
    have hl : (ic R).length = pre.length + (post.length + 1) := by simp [hw, ic_length]
    have hrl : R.length = pre.length + (post.length + 1) := by simp [hw]
    have hrd : rd (ic R) (pre.length : Int) = (x : Int) := by rw [hw]; exact ic_rd pre post x
    obtain ⟨hp1, hp2⟩ := List.pairwise_cons.1 hp
    obtain ⟨h1, h2, h3⟩ := hb x (by simp)
    have e1 := (stepsTo_ev (x : Int)).1
    rw [snR_sv h1] at e1
    have h4 := ih (pre ++ [x]) ((sv x : Int) - 1) (by simp [hw]) hp2 (fun y hy => by
      have := hp1 y hy
      have := hb y (by simp [hy])
      omega)
    rw [show (((pre ++ [x]).length : Nat) : Int) = (pre.length : Int) + 1 by simp] at h4
    refine evs (fun k => by rw [laws_FnStepsToOne.l3]) ?_
    rw [hrd, w64 (x := (pre.length : Int) + 1) (by omega) (by omega)]
    exact evp (by omega) (evp (by omega) (evp (by omega) (evb e1 (evp rfl (evn (by simp; omega) (evn (by omega) h4))))))
theorem j8_law (l1 : List Int) (hl1 : ∀ x ∈ l1, 0 ≤ x ∧ x ≤ 255) : Ev (fun k => laws_FnStepsToOne.j8 k l1) true := by
  obtain ⟨a, p, s, e, _⟩ := among_ok l1 hl1 0 0 [1, 2, 10, 100, 500, 2000, 2001, 0] (by simp) (by simp) (by omega) (by omega)
  have hd : spec_DrawRecordsUpTo.f l1 = some a := by unfold spec_DrawRecordsUpTo.f; rw [e]; rfl
  obtain ⟨R, b, g, m, h1, h2, h3, h4, h5⟩ := records_ev a
  have hsort : R.Pairwise (· < ·) := h2.1.imp (fun h => h.1)
  refine evs (fun k => by rw [laws_FnStepsToOne.j8]) (evc hd (evb h4 (evb h5 ?_)))
  refine evn (by simp) (evb (laws_rSame_self _ (by simp only [ic_length]; omega)) (evp rfl (evb (rising_ev R (by omega) hsort) ?_)))
  refine evs (fun k => by rw [laws_FnStepsToOne.j9]) (evn (by simp) ?_)
  rcases h3 with rfl | rfl
  · exact last_law l1 hl1 _ _ _ _ _ (by simp [ic])
  · have := records_law l1 hl1 m R h1 R [] (-1) rfl h2.1 (fun y hy => by have := h2.2 y hy; omega)
    simpa using this
/-! Levels. -/
def cz : Nat → Nat → Bool
  | 0, _ => false
  | r + 1, n => n == 1 || (Nat.ble (stp n) 1000000000000 && cz r (stp n))
theorem cz_way : ∀ (r n r' : Nat), r ≤ r' + 1 → cz r n = true → (wayN (fun x => x == 1) r' n).isSome = true
  | 0, _, _, _, h => by simp [cz] at h
  | r + 1, n, r', hr, h => by
    rw [cz, Bool.or_eq_true, Bool.and_eq_true, Nat.ble_eq] at h
    by_cases hn : n = 1
    · subst hn
      cases r' <;> (rw [wayN]; rfl)
    · have h1 := h.resolve_left (by simpa using hn)
      cases r' with
      | zero =>
        have : r = 0 := by omega
        subst this
        exact absurd h1.2 (by simp [cz])
      | succ r' =>
        rw [wayN, if_neg (by simpa using hn), if_neg (by omega), Option.isSome_map]
        exact cz_way r (stp n) r' (by omega) h1.2
theorem small_all : (List.range 256).all (fun i => cz 150 (i + 1)) = true := by kernel_rfl
theorem small_way {x : Nat} (h1 : 1 ≤ x) (h2 : x ≤ 256) : ∃ l, wo (x : Int) = some l := by
  have := List.all_eq_true.1 small_all (x - 1) (List.mem_range.2 (by omega))
  rw [show x - 1 + 1 = x by omega] at this
  have h := cz_way 150 x 1000 (by omega) this
  unfold wo
  rw [if_pos (by omega), Int.toNat_natCast]
  exact Option.isSome_iff_exists.1 h
theorem small_law (l1 : List Int) (hl1 : ∀ x ∈ l1, 0 ≤ x ∧ x ≤ 255) (K : Nat) (hK : K ≤ 8) (d : Nat) : ∀ x : Nat, 1 ≤ x → x + d = 257 → Ev (fun k => laws_FnStepsToOne.l2 k l1 (K : Int) (ic (slv K)) (x : Int)) true := by
  have hsl := slv_length K
  have hp := pow15 (k := K) (by omega)
  induction d with
  | zero =>
    intro x h1 h2
    exact evs (fun k => by rw [laws_FnStepsToOne.l2]) (evn (by omega) (j8_law l1 hl1))
  | succ d ih =>
    intro x h1 h2
    have h3 := ih (x + 1) (by omega) (by omega)
    obtain ⟨l, hw⟩ := small_way h1 (by omega)
    obtain ⟨h4, h5, h6⟩ := snR_some hw
    have hs : snR (x : Int) = ((l.length : Int) - 1, true) := by unfold snR; rw [hw]
    have e1 := (stepsTo_ev (x : Int)).1
    rw [hs] at e1
    have e2 := laws_rHas_ev (ic (slv K)) (x : Int) (by rw [ic_length]; omega)
    have hmem : ((x : Int) ∈ ic (slv K)) ↔ Lv K x := by
      rw [← mem_slv]
      unfold ic
      constructor
      · intro h
        obtain ⟨y, hy, e⟩ := List.mem_map.1 h
        have : y = x := by omega
        exact this ▸ hy
      · intro h
        exact List.mem_map.2 ⟨x, h, rfl⟩
    have hcmp : ((((l.length : Int) - 1 == (K : Int)) != decide ((x : Int) ∈ ic (slv K))) = true) = False := by
      apply eq_false
      by_cases hc : l.length - 1 = K
      · have h7 : Lv K x := hc ▸ h4
        rw [decide_eq_true (hmem.2 h7), show ((l.length : Int) - 1 == (K : Int)) = true from beq_iff_eq.mpr (by omega)]
        simp
      · have h7 : ¬ Lv K x := by
          intro h8
          have h9 := snR_lv (by omega) h8
          rw [hs] at h9
          have := congrArg Prod.fst h9
          simp only at this
          omega
        rw [decide_eq_false (fun h => h7 (hmem.1 h)), show ((l.length : Int) - 1 == (K : Int)) = false from beq_eq_false_iff_ne.mpr (by omega)]
        simp
    rw [show ((x + 1 : Nat) : Int) = (x : Int) + 1 by omega] at h3
    refine evs (fun k => by rw [laws_FnStepsToOne.l2]) ?_
    rw [w64 (x := (x : Int) + 1) (by omega) (by omega)]
    exact evp (by omega) (evb e1 (evp rfl (evb e2 (evn (by rw [hcmp]; exact id) h3))))
theorem level_loop (l1 : List Int) (x25 : Int) (K : Nat) (hK : K ≤ 15) (hx : x25 = (K : Int)) (x27 : Bool) (w : List Nat) (hw1 : ∀ x ∈ w, Lv K x) (hw2 : w.length ≤ 100000)
    (hend : Ev (fun k => if x27 = true then laws_FnStepsToOne.j6 k l1 x25 (ic w) (decide (x25 ≤ 8)) else laws_FnStepsToOne.j6 k l1 x25 (ic w) false) true) (post : List Nat) : ∀ pre : List Nat, w = pre ++ post →
    Ev (fun k => laws_FnStepsToOne.l1 k l1 x25 (ic w) x27 (ic w) ((ic w).length : Int) (pre.length : Int)) true := by
  induction post with
  | nil =>
    intro pre hw
    refine evs (fun k => by rw [laws_FnStepsToOne.l1]) ?_
    exact evn (by simp [hw, ic_length]) hend
  | cons x post ih =>
    intro pre hw
    have hl : (ic w).length = pre.length + (post.length + 1) := by simp [hw, ic_length]
    have hwl : w.length = pre.length + (post.length + 1) := by simp [hw]
    have hrd : rd (ic w) (pre.length : Int) = (x : Int) := by rw [hw]; exact ic_rd pre post x
    have e1 := (stepsTo_ev (x : Int)).1
    rw [snR_lv (by omega) (hw1 x (by simp [hw]))] at e1
    have h4 := ih (pre ++ [x]) (by simp [hw])
    rw [show (((pre ++ [x]).length : Nat) : Int) = (pre.length : Int) + 1 by simp] at h4
    refine evs (fun k => by rw [laws_FnStepsToOne.l1]) ?_
    rw [hrd, w64 (x := (pre.length : Int) + 1) (by omega) (by omega)]
    exact evp (by omega) (evp (by omega) (evp (by omega) (evb e1 (evp rfl (evp (by rw [hx]) h4)))))
theorem j3_law (l1 : List Int) (hl1 : ∀ x ∈ l1, 0 ≤ x ∧ x ≤ 255) : Ev (fun k => laws_FnStepsToOne.j3 k l1) true := by
  obtain ⟨a, p, s, e, _⟩ := among_ok l1 hl1 0 0 [0, 1, 2, 3, 5, 8, 12, 15, 16, (-1)] (by simp) (by simp) (by omega) (by omega)
  have hd : spec_DrawLevelOf.f l1 = some a := by unfold spec_DrawLevelOf.f; rw [e]; rfl
  obtain ⟨h1, h2⟩ := levelOf_ev a
  have hno : ∀ (x : Int) (R : List Int), Ev (fun k => laws_FnStepsToOne.j6 k l1 x R false) true := fun x R => evs (fun k => by rw [laws_FnStepsToOne.j6]) (evn (by simp) (j8_law l1 hl1))
  by_cases h : 0 ≤ a ∧ a ≤ 15
  · obtain ⟨K, rfl⟩ := natOf (a := a) (by omega)
    have hR : lvR (K : Int) = (ic (slv K), true) := by unfold lvR; rw [if_pos h, Int.toNat_natCast]
    have hsl := slv_length K
    have hp := pow15 (k := K) (by omega)
    rw [hR] at h1 h2
    refine evs (fun k => by rw [laws_FnStepsToOne.j3]) (evc hd (evb h1 (evb h2 ?_)))
    refine evn (by simp) (evb (laws_rSame_self _ (by simp only [ic_length]; omega)) (evp rfl (evb (rising_ev (slv K) (by omega) (slv_sorted K)) ?_)))
    refine evs (fun k => by rw [laws_FnStepsToOne.j4]) (evn (by simp) ?_)
    refine level_loop l1 (K : Int) K (by omega) rfl true (slv K) (fun x hx => (mem_slv K x).1 hx) (by omega) (evp rfl ?_) (slv K) [] rfl
    by_cases h8 : K ≤ 8
    · rw [show decide ((K : Int) ≤ 8) = true from decide_eq_true (by omega)]
      have h9 := small_law l1 hl1 K h8 256 1 (by omega) (by omega)
      refine evs (fun k => by rw [laws_FnStepsToOne.j6]) (evp rfl ?_)
      simpa using h9
    · rw [show decide ((K : Int) ≤ 8) = false from decide_eq_false (by omega)]
      exact hno _ _
  · have hR : lvR a = ([], false) := by unfold lvR; rw [if_neg h]
    rw [hR] at h1 h2
    refine evs (fun k => by rw [laws_FnStepsToOne.j3]) (evc hd (evb h1 (evb h2 ?_)))
    refine evn (by simp) (evb (laws_rSame_self _ (by simp)) (evp rfl (evb (rising_ev [] (by simp) (by simp)) ?_)))
    refine evs (fun k => by rw [laws_FnStepsToOne.j4]) (evn (by simp) ?_)
    exact evs (fun k => by rw [laws_FnStepsToOne.l1]) (evn (by simp) (evn (by simp) (hno _ _)))
/-! Ways. -/
theorem isWay_last (e : Nat → Bool) : ∀ l : List Nat, IsWay e l → ∃ pre x, l = pre ++ [x] ∧ e x = true
  | [], h => h.elim
  | [n], h => ⟨[], n, rfl, h⟩
  | n :: m :: l, h => by
    obtain ⟨pre, x, e1, e2⟩ := isWay_last e (m :: l) h.2.2.2
    exact ⟨n :: pre, x, by rw [e1]; rfl, e2⟩
theorem way_law (l1 : List Int) (x5 x10 x14 : Int) (w : List Nat) (hw2 : w.length ≤ 1001) (M : Nat)
    (hend : Ev (fun k => laws_FnStepsToOne.l0 k l1 x5 (ic w) x10 x14 (M : Int) (ic w) ((ic w).length : Int) ((ic w).length : Int)) true) (post : List Nat) : ∀ (pre : List Nat) (m x : Nat) (t : List Nat), w = pre ++ post → post = x :: t → 1 ≤ x → x ≤ 1000000000000 → IsWay (fun y => y == 1) post → mxl m post = M →
    Ev (fun k => laws_FnStepsToOne.l0 k l1 x5 (ic w) x10 x14 (m : Int) (ic w) ((ic w).length : Int) (pre.length : Int)) true := by
  induction post with
  | nil => intro pre m x t _ h; exact absurd h (by simp)
  | cons y post ih =>
    intro pre m x t hw he h1 h2 hI hM
    injection he with e1 e2
    subst e1
    subst e2
    have hl : (ic w).length = pre.length + (post.length + 1) := by simp [hw, ic_length]
    have hwl : w.length = pre.length + (post.length + 1) := by simp [hw]
    have hrd : rd (ic w) (pre.length : Int) = (y : Int) := by rw [hw]; exact ic_rd pre post y
    rw [mxl_cons] at hM
    have hj : Ev (fun k => laws_FnStepsToOne.j2 k l1 x5 (ic w) x10 x14 (((if y > m then y else m : Nat) : Nat) : Int) (pre.length : Int) (y : Int) (ic w) ((ic w).length : Int) (pre.length : Int)) true := by
      refine evs (fun k => by rw [laws_FnStepsToOne.j2]) ?_
      rw [w64 (x := (pre.length : Int) + 1) (by omega) (by omega)]
      cases post with
      | nil =>
        simp only [List.length_nil, Nat.zero_add] at hl
        rw [show (mxl (if y > m then y else m) []) = (if y > m then y else m) from rfl] at hM
        rw [hM]
        have h3 := hend
        rw [hl, show ((pre.length + 1 : Nat) : Int) = (pre.length : Int) + 1 by omega] at h3
        rw [hl]
        exact evn (by omega) h3
      | cons z rest =>
        obtain ⟨h3, h4, h5, h6⟩ := hI
        have h3' : y ≠ 1 := by simpa using h3
        simp only [List.length_cons] at hl hwl
        have hz1 := stp_pos h1
        have h7 := ih (pre ++ [y]) (if y > m then y else m) z rest (by simp [hw]) rfl (by omega) h5 h6 hM
        rw [show (((pre ++ [y]).length : Nat) : Int) = (pre.length : Int) + 1 by simp] at h7
        have hrd2 : rd (ic w) ((pre.length : Int) + 1) = (z : Int) := by
          have := ic_rd (pre ++ [y]) rest z
          rw [hw]
          simpa using this
        have hso := stepOf_nat h1 h2 (by omega)
        have hbs : bsR ((stp y : Nat) : Int) = (ic (bf (stp y)), true) := by
          unfold bsR
          rw [if_pos (by omega), Int.toNat_natCast]
        have e3 := (beforeStep_ev ((stp y : Nat) : Int)).1
        rw [hbs] at e3
        have hin : (y : Int) ∈ ic (bf (stp y)) := List.mem_map.2 ⟨y, (mem_bf hz1 (by omega)).2 ⟨rfl, h1, h2⟩, rfl⟩
        have e4 := laws_rHas_ev (ic (bf (stp y))) (y : Int) (by rw [ic_length]; have := bf_length (stp y); omega)
        rw [decide_eq_true hin] at e4
        refine evp (by omega) (evc hso (evb e3 (evp rfl (evp (by omega) (evp ?_ (evp rfl (evb e4 (evp rfl (evn (by omega) h7)))))))))
        rw [hrd2, h4]
    refine evs (fun k => by rw [laws_FnStepsToOne.l0]) ?_
    rw [hrd]
    refine evp (by omega) (evp (by omega) (evp (by omega) ?_))
    by_cases hc : y > m
    · rw [if_pos hc] at hj
      exact evp (by omega) hj
    · rw [if_neg hc] at hj
      exact evn (by omega) hj
theorem FnStepsToOne : laws_FnStepsToOne.Pure := by
  intro l0 l1 _ _ w0 _ _ w1
  have hb : ∀ l : List Int, (∀ x ∈ l, (Lit.int .u8 x).wf = true) → ∀ x ∈ l, 0 ≤ x ∧ x ≤ 255 := by
    intro l h x hx
    have := h x hx
    simpa [Lit.wf, IntKind.min, IntKind.max, IntKind.signed, IntKind.bits] using this
  have hl0 := hb l0 w0
  have hl1 := hb l1 w1
  refine Ev.rounds (g := fun k => laws_FnStepsToOne.f k l0 l1) ?_
  unfold laws_FnStepsToOne.f
  obtain ⟨t, ht⟩ : ∃ t, laws_big.f l0 l1 = some t := by
    unfold laws_big.f
    split <;> exact ⟨_, rfl⟩
  rw [ht]
  simp only [Option.bind_some]
  cases t with
  | true => exact evp rfl (Ev.now _)
  | false =>
    refine evn (by simp) ?_
    obtain ⟨a, ha⟩ := drawStep_ok l0 hl0
    have ha2 : Ev (fun k => spec_DrawWayToOne.f k l0) a := by
      unfold spec_DrawWayToOne.f
      exact evb ha (Ev.now _)
    obtain ⟨a1, a2⟩ := wayToOne_ev a
    obtain ⟨a3, a4⟩ := stepsTo_ev a
    obtain ⟨a5, a6⟩ := greatest_ev a
    have hlast := j3_law l1 hl1
    cases hw : wo a with
    | none =>
      have hs : snR a = (0, false) := by unfold snR; rw [hw]
      have hg : grR a = (0, false) := by unfold grR; rw [hw]
      rw [hw] at a1 a2
      rw [hs] at a3 a4
      rw [hg] at a5 a6
      refine evb ha2 (evb a1 (evb a2 (evb a3 (evb a4 (evb a5 (evb a6 ?_))))))
      refine evn (by simp [wr]) (evb (laws_rSame_self _ (by simp [wr])) (evp rfl (evn (by simp) (evp rfl (evn (by simp) (evp rfl (evn (by simp [wr]) ?_)))))))
      refine evs (fun k => by rw [laws_FnStepsToOne.j0]) (evn (by simp [wr]) (evn (by simp [wr]) hlast))
    | some l =>
      obtain ⟨n, t, hn, n1, n2, e, hI, hlen⟩ := wo_is hw
      have hs : snR a = ((l.length : Int) - 1, true) := by unfold snR; rw [hw]
      have hg : grR a = (((mxl 0 l : Nat) : Int), true) := by unfold grR; rw [hw]
      rw [hw] at a1 a2
      rw [hs] at a3 a4
      rw [hg] at a5 a6
      have hicl : (ic ([] ++ l)).length = l.length := by rw [List.nil_append, ic_length]
      refine evb ha2 (evb a1 (evb a2 (evb a3 (evb a4 (evb a5 (evb a6 ?_))))))
      refine evn (by simp [wr]) (evb (laws_rSame_self _ (by simp only [wr]; omega)) (evp rfl (evn (by simp) (evp rfl (evn (by simp) (evp rfl (evn (by simp [wr]) ?_)))))))
      refine evs (fun k => by rw [laws_FnStepsToOne.j0]) (evn (by simp [wr]) (evp (by simp [wr]) ?_))
      simp only [wr, List.nil_append]
      have hend : Ev (fun k => laws_FnStepsToOne.l0 k l1 a (ic l) ((l.length : Int) - 1) ((mxl 0 l : Nat) : Int) ((mxl 0 l : Nat) : Int) (ic l) ((ic l).length : Int) ((ic l).length : Int)) true := by
        obtain ⟨pre, x, e1, e2⟩ := isWay_last _ l hI
        have hx : x = 1 := by simpa using e2
        have hpl : l.length = pre.length + 1 := by rw [e1]; simp
        have hr0 : rd (ic l) 0 = a := by rw [e, hn]; rfl
        have hr1 : rd (ic l) ((l.length : Int) - 1) = 1 := by
          have := ic_rd pre [] x
          rw [← e1, hx] at this
          rw [show (l.length : Int) - 1 = (pre.length : Int) by omega]
          simpa using this
        refine evs (fun k => by rw [laws_FnStepsToOne.l0]) (evn (by omega) ?_)
        rw [ic_length, w64 (x := (l.length : Int) - 1) (by omega) (by omega), w64 (x := (l.length : Int) - 1 + 1) (by omega) (by omega), hr0, hr1]
        exact evp (by omega) (evp rfl (evp (by omega) (evp (by omega) (evp rfl (evp (by omega) (evp rfl hlast))))))
      have := way_law l1 a ((l.length : Int) - 1) ((mxl 0 l : Nat) : Int) l hlen (mxl 0 l) hend l [] 0 n t rfl e n1 n2 hI rfl
      simpa using this

end Go.Proofs.Ytclnhbppcmcalaa.Pure
