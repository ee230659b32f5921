/- For all codes: what a list says is unsaid to it again, and runs go on by saying. -/
import Derived.Test.YtiheocddlopfcaaPFnWordsSayx8
import Derived.Test.YtiheocddlopfcaaWMore
set_option linter.unusedVariables false
set_option linter.unusedSimpArgs false
namespace Go.Proofs.Ytiheocddlopfcaa.Pure
open Go.RowKit Go.Proofs.Ytiheocddlopfcaa.PFnWordsSay Go.Proofs.YtiheocddlopfcaaW.PrintWords Go.Proofs.YtiheocddlopfcaaW.PrintLast

theorem w64 {x : Int} (h1 : -9223372036854775808 ≤ x) (h2 : x ≤ 9223372036854775807) : wrap64 x = x := by unfold wrap64; omega

theorem w64n (n : Nat) (h : n ≤ 9223372036854775807) : wrap64 (n : Int) = (n : Int) := w64 (by omega) (by omega)

theorem evp {α : Type} {c : Prop} [Decidable c] {a b : Nat → Option α} {r : α} (h : c) (k : Ev a r) : Ev (fun n => if c then a n else b n) r := Ev.congr (fun _ => if_pos h) k
theorem evn {α : Type} {c : Prop} [Decidable c] {a b : Nat → Option α} {r : α} (h : ¬ c) (k : Ev b r) : Ev (fun n => if c then a n else b n) r := Ev.congr (fun _ => if_neg h) k
theorem evr {α : Type} {x r : α} (h : x = r) : Ev (fun _ => some x) r := h ▸ Ev.now x
theorem evb {α β : Type} {g : Nat → Option α} {f : Nat → α → Option β} {a : α} {r : β} (h : Ev g a) (k : Ev (fun n => f n a) r) : Ev (fun n => (g n).bind fun x => f n x) r := Ev.bind h k
theorem evc {α β : Type} {x : Option α} {a : α} {f : Nat → α → Option β} {r : β} (h : x = some a) (k : Ev (fun n => f n a) r) : Ev (fun n => x.bind fun y => f n y) r := by subst h; exact k
theorem evs {α : Type} {g f : Nat → Option α} {r : α} (h : ∀ k, g (k + 1) = f k) (k : Ev f r) : Ev g r := Ev.step h k
theorem evu {α : Type} {g : Nat → Option α} {r s : α} (h : Ev g r) (k : Ev g s) : r = s := by
  obtain ⟨K, h⟩ := h
  obtain ⟨L, k⟩ := k
  have := (h (K + L) (by omega)).symm.trans (k (K + L) (by omega))
  injection this

theorem rd_mid (pre post : List Int) (x : Int) : rd (pre ++ x :: post) (pre.length : Int) = x := by simp [rd]
theorem rd_mid' (pre post : List Int) (x i : Int) (h : i = pre.length) : rd (pre ++ x :: post) i = x := by subst h; exact rd_mid pre post x
theorem set_mid {α : Type} (pre post : List α) (x y : α) : (pre ++ x :: post).set pre.length y = pre ++ y :: post := by simp
theorem set_midI {α : Type} (pre post : List α) (x y : α) (i : Int) (h : i = pre.length) : (pre ++ x :: post).set i.toNat y = pre ++ y :: post := by subst h; simp
theorem rd_nat (xs : List Int) (i : Nat) : rd xs (i : Int) = xs.getD i 0 := by simp [rd]
theorem rd_get (xs : List Int) (i : Nat) (h : i < xs.length) : rd xs (i : Int) = xs[i] := by simp [rd, h]
theorem rd_mem (xs : List Int) (i : Int) (h0 : 0 ≤ i) (h : i < xs.length) : rd xs i ∈ xs := by
  have hi : i.toNat < xs.length := by omega
  simp only [rd, List.getD_eq_getElem?_getD, List.getElem?_eq_getElem hi, Option.getD_some]
  exact List.getElem_mem hi
/-- m, m + 1, .. -/
def iota (m : Int) : Nat → List Int
  | 0 => []
  | n + 1 => m :: iota (m + 1) n
theorem iota_length (m : Int) (n : Nat) : (iota m n).length = n := by induction n generalizing m with
  | zero => rfl
  | succ n ih => simp [iota, ih]
/-- A list is cut in two. -/
theorem cut_at {α : Type} (xs : List α) (i : Nat) (h : i < xs.length) : ∃ pre x post, xs = pre ++ x :: post ∧ pre.length = i := by
  refine ⟨xs.take i, xs[i], xs.drop (i + 1), ?_, by simp; omega⟩
  simp
theorem wf64 {x : Int} (h : (Lit.int .i64 x).wf = true) : -9223372036854775808 ≤ x ∧ x ≤ 9223372036854775807 := by
  have h2 : (decide (IntKind.i64.min ≤ x) && decide (x ≤ IntKind.i64.max)) = true := h
  rw [show IntKind.i64.min = -9223372036854775808 from rfl, show IntKind.i64.max = 9223372036854775807 from rfl] at h2
  simpa using h2

/-- Within a stretch of n numbers x. -/
def sayS : List Int → Int → Nat → Option (List Int)
  | [], x, n => if n > 9 then none else some [(n : Int), x]
  | y :: t, x, n => if y = x then sayS t x (n + 1) else if n > 9 then none else (sayS t y 1).map fun o => (n : Int) :: x :: o
def sayC : List Int → Option (List Int)
  | [] => some []
  | x :: t => sayS t x 1
def sayFin (out : List Int) : Option (List Int) → List Int × Bool
  | none => ([], false)
  | some o => (out ++ o, decide (((out ++ o).length : Int) ≤ 400))
theorem sayS_length (l : List Int) : ∀ (x : Int) (n : Nat) (o : List Int), sayS l x n = some o → o.length ≤ 2 * (l.length + 1) := by
  induction l with
  | nil =>
    intro x n o h
    simp only [sayS] at h
    split at h
    · cases h
    · injection h with h
      subst h
      simp
  | cons y t ih =>
    intro x n o h
    simp only [sayS] at h
    split at h
    · have := ih _ _ _ h
      simp only [List.length_cons]
      omega
    · split at h
      · cases h
      · obtain ⟨o', h1, rfl⟩ := Option.map_eq_some_iff.1 h
        have := ih _ _ _ h1
        simp only [List.length_cons]
        omega
theorem sayC_length (l : List Int) (o : List Int) (h : sayC l = some o) : o.length ≤ 2 * l.length := by
  cases l with
  | nil =>
    simp only [sayC] at h
    injection h with h
    subst h
    simp
  | cons x t => simpa using sayS_length t x 1 o h

def unsayL : List Int → List Int
  | v :: y :: t => List.replicate v.toNat y ++ unsayL t
  | _ => []
/-- Even length, and no two of its second numbers behind one another are the same. -/
def altL : Option Int → List Int → Bool
  | _, [] => true
  | _, [_] => false
  | p, _ :: y :: t => decide (p ≠ some y) && altL (some y) t
theorem sayS_alt (l : List Int) : ∀ (x : Int) (n : Nat) (o : List Int), sayS l x n = some o → ∃ m t, o = ((m : Nat) : Int) :: x :: t ∧ n ≤ m ∧ m ≤ 9 ∧ altL (some x) t = true ∧ List.replicate m x ++ unsayL t = List.replicate n x ++ l ∧ (∀ z ∈ t, (1 ≤ z ∧ z ≤ 9) ∨ z ∈ l) := by
  induction l with
  | nil =>
    intro x n o h
    simp only [sayS] at h
    split at h
    · cases h
    · injection h with h
      subst h
      exact ⟨n, [], rfl, Nat.le_refl _, by omega, rfl, by simp [unsayL], by simp⟩
  | cons y l ih =>
    intro x n o h
    simp only [sayS] at h
    split at h
    · rename_i he
      subst he
      obtain ⟨m, t, h1, h2, h3, h4, h5, h6⟩ := ih _ _ _ h
      refine ⟨m, t, h1, by omega, h3, h4, ?_, fun z hz => ?_⟩
      · rw [h5, List.replicate_succ']
        simp
      · rcases h6 z hz with h7 | h7
        · exact Or.inl h7
        · exact Or.inr (List.mem_cons_of_mem _ h7)
    · rename_i he
      split at h
      · cases h
      · obtain ⟨o', h1, rfl⟩ := Option.map_eq_some_iff.1 h
        obtain ⟨m, t, g1, g2, g3, g4, g5, g6⟩ := ih _ _ _ h1
        subst g1
        refine ⟨n, (m : Int) :: y :: t, rfl, Nat.le_refl _, by omega, ?_, ?_, fun z hz => ?_⟩
        · simp only [altL, g4, Bool.and_true, decide_eq_true_eq]
          intro e
          injection e with e
          exact he e.symm
        · simp only [unsayL, Int.toNat_natCast, g5]
          simp
        · rcases List.mem_cons.1 hz with rfl | hz
          · exact Or.inl ⟨by omega, by omega⟩
          · rcases List.mem_cons.1 hz with rfl | hz
            · exact Or.inr (by simp)
            · rcases g6 z hz with h7 | h7
              · exact Or.inl h7
              · exact Or.inr (List.mem_cons_of_mem _ h7)
theorem say_unsay {l o : List Int} (h : sayC l = some o) : unsayL o = l ∧ altL none o = true ∧ ∀ z ∈ o, (1 ≤ z ∧ z ≤ 9) ∨ z ∈ l := by
  cases l with
  | nil =>
    simp only [sayC] at h
    injection h with h
    subst h
    exact ⟨rfl, rfl, by simp⟩
  | cons x l =>
    obtain ⟨m, t, h1, h2, h3, h4, h5, h6⟩ := sayS_alt l x 1 o h
    subst h1
    refine ⟨?_, ?_, fun z hz => ?_⟩
    · simp only [unsayL, Int.toNat_natCast, h5]
      simp
    · simp only [altL, h4, Bool.and_true, decide_eq_true_eq]
      intro e
      cases e
    · rcases List.mem_cons.1 hz with rfl | hz
      · exact Or.inl ⟨by omega, by omega⟩
      · rcases List.mem_cons.1 hz with rfl | hz
        · exact Or.inr (by simp)
        · rcases h6 z hz with h7 | h7
          · exact Or.inl h7
          · exact Or.inr (List.mem_cons_of_mem _ h7)
theorem unsay_sayS (t : List Int) (ht : ∀ z ∈ t, 1 ≤ z ∧ z ≤ 9) : ∀ (y : Int) (m k : Nat), altL (some y) t = true → k + m ≤ 9 → sayS (List.replicate m y ++ unsayL t) y k = some (((k + m : Nat) : Int) :: y :: t) := by
  induction t using unsayL.induct with
  | case1 v z t ih =>
    intro y m
    induction m with
    | zero =>
      intro k ha hk
      simp only [altL, Bool.and_eq_true, decide_eq_true_eq] at ha
      have hv := ht v (by simp)
      obtain ⟨w, hw⟩ : ∃ w : Nat, v = ((w + 1 : Nat) : Int) := ⟨v.toNat - 1, by omega⟩
      subst hw
      have h1 := ih (fun x hx => ht x (by simp [hx])) z w 1 ha.2 (by omega)
      have hne : ¬ z = y := fun e => ha.1 (by rw [e])
      simp only [List.replicate_zero, List.nil_append, unsayL, Int.toNat_natCast, List.replicate_succ, List.cons_append, sayS, if_neg hne, Nat.add_zero]
      rw [if_neg (by omega), h1, Nat.add_comm 1 w]
      rfl
    | succ m ihm =>
      intro k ha hk
      have h1 := ihm (k + 1) ha (by omega)
      rw [List.replicate_succ, List.cons_append]
      simp only [sayS, if_true]
      rw [h1, show k + 1 + m = k + (m + 1) by omega]
  | case2 t hn =>
    intro y m
    have ht0 : ∀ k : Nat, altL (some y) t = true → t = [] := by
      intro k ha
      cases t with
      | nil => rfl
      | cons a t =>
        cases t with
        | nil => simp [altL] at ha
        | cons b t => exact absurd rfl (hn a b t)
    induction m with
    | zero =>
      intro k ha hk
      rw [ht0 k ha]
      have : ¬ k > 9 := by omega
      simp [unsayL, sayS, this]
    | succ m ihm =>
      intro k ha hk
      have h1 := ihm (k + 1) ha (by omega)
      rw [List.replicate_succ, List.cons_append]
      simp only [sayS, if_true]
      rw [h1, show k + 1 + m = k + (m + 1) by omega]
theorem unsay_say {l : List Int} (hl : ∀ z ∈ l, 1 ≤ z ∧ z ≤ 9) (ha : altL none l = true) : sayC (unsayL l) = some l := by
  cases l with
  | nil => rfl
  | cons v l =>
    cases l with
    | nil => simp [altL] at ha
    | cons y t =>
      simp only [altL, Bool.and_eq_true, decide_eq_true_eq] at ha
      have hv := hl v (by simp)
      obtain ⟨w, hw⟩ : ∃ w : Nat, v = ((w + 1 : Nat) : Int) := ⟨v.toNat - 1, by omega⟩
      subst hw
      have h1 := unsay_sayS t (fun x hx => hl x (by simp [hx])) y w 1 ha.2 (by omega)
      simp only [unsayL, Int.toNat_natCast, List.replicate_succ, List.cons_append, sayC]
      rw [h1, Nat.add_comm 1 w]
theorem unsayL_mem (l : List Int) : ∀ z ∈ unsayL l, z ∈ l := by
  induction l using unsayL.induct with
  | case1 v y t ih =>
    intro z hz
    simp only [unsayL] at hz
    rcases List.mem_append.1 hz with h | h
    · have := (List.mem_replicate.1 h).2
      subst this
      simp
    · have := ih z h
      simp [this]
  | case2 t hn =>
    intro z hz
    unfold unsayL at hz
    split at hz
    · exact absurd rfl (hn _ _ _)
    · simp at hz

theorem sayS_big (l : List Int) : ∀ (x : Int) (n : Nat), n > 9 → sayS l x n = none := by
  induction l with
  | nil => intro x n h; simp [sayS, h]
  | cons y t ih =>
    intro x n h
    simp only [sayS]
    split
    · exact ih x (n + 1) (by omega)
    · rfl
def longC (l : List Int) : Bool := (sayC l).isNone
/-- The lists behind one: None where one has a longer stretch or is too long. -/
def runS : Nat → List Int → Option (List (List Int))
  | 0, cur => if longC cur = true then none else some []
  | n + 1, cur => match sayC cur with
    | none => none
    | some o => if o.length ≤ 400 then (runS n o).map fun r => o :: r else none
theorem runS_long (n : Nat) (cur : List Int) (h : longC cur = true) : runS n cur = none := by
  cases n with
  | zero => simp [runS, h]
  | succ n =>
    have : sayC cur = none := by simpa [longC] using h
    simp [runS, this]
theorem runS_length (n : Nat) : ∀ (cur : List Int) (r : List (List Int)), runS n cur = some r → r.length = n ∧ ∀ x ∈ r, x.length ≤ 400 := by
  induction n with
  | zero =>
    intro cur r h
    simp only [runS] at h
    split at h
    · cases h
    · injection h with h
      subst h
      simp
  | succ n ih =>
    intro cur r h
    simp only [runS] at h
    cases hs : sayC cur with
    | none => rw [hs] at h; cases h
    | some o =>
      rw [hs] at h
      simp only at h
      split at h
      · rename_i h4
        obtain ⟨r', h1, rfl⟩ := Option.map_eq_some_iff.1 h
        obtain ⟨h2, h3⟩ := ih o r' h1
        refine ⟨by simp [h2], fun x hx => ?_⟩
        rcases List.mem_cons.1 hx with rfl | hx
        · exact h4
        · exact h3 x hx
      · cases h
def runFin (rows : List (List Int)) (cur : List Int) : Option (List (List Int)) → List (List Int) × Bool
  | none => ([], false)
  | some r => (rows ++ cur :: r, true)

theorem impl_in_eq (a b c : Int) : impl_in.f a b c = some (decide (b ≤ a ∧ a ≤ c)) := by
  unfold impl_in.f
  by_cases h : b ≤ a <;> simp [h]
theorem spec_l1In_eq (a b c : Int) : spec_l1In.f a b c = some (decide (b ≤ a ∧ a ≤ c)) := by
  unfold spec_l1In.f
  by_cases h : b ≤ a <;> simp [h]

theorem pigeon (n : Nat) : ∀ f : Nat → Nat, (∀ i, i ≤ n → f i < n) → ∃ i j, i < j ∧ j ≤ n ∧ f i = f j := by
  induction n with
  | zero => intro f h; exact absurd (h 0 (Nat.le_refl _)) (by omega)
  | succ n ih =>
    intro f h
    by_cases hc : ∃ i, i ≤ n ∧ f i = f (n + 1)
    · obtain ⟨i, hi, he⟩ := hc
      exact ⟨i, n + 1, by omega, Nat.le_refl _, he⟩
    · have hv := h (n + 1) (Nat.le_refl _)
      have hne : ∀ i, i ≤ n → f i ≠ f (n + 1) := fun i hi he => hc ⟨i, hi, he⟩
      obtain ⟨i, j, hij, hj, he⟩ := ih (fun i => if f i = n then f (n + 1) else f i) (fun i hi => by
        have h1 := h i (by omega)
        have h2 := hne i hi
        show (if f i = n then f (n + 1) else f i) < n
        split <;> omega)
      refine ⟨i, j, hij, by omega, ?_⟩
      have h1 := hne i (by omega)
      have h2 := hne j hj
      (try simp only at he)
      split at he <;> split at he <;> omega
theorem least_of {P : Nat → Prop} (h : ∃ k, P k) : ∃ k, P k ∧ ∀ j, j < k → ¬ P j := by
  obtain ⟨k, hk⟩ := h
  induction k using Nat.strongRecOn with
  | _ k ih =>
    by_cases hc : ∃ j, j < k ∧ P j
    · obtain ⟨j, hj, hp⟩ := hc
      exact ih j hj hp
    · exact ⟨k, hk, fun j hj hp => hc ⟨j, hj, hp⟩⟩
theorem mod_of_dvd_sub {a n : Nat} (h1 : 1 ≤ a) (h : n ∣ a - 1) : a % n = 1 % n := by
  obtain ⟨q, hq⟩ := h
  have : a = n * q + 1 := by omega
  rw [this, Nat.mul_add_mod]
theorem pow_back (b n : Nat) (hb : 0 < b) (hn : 0 < n) (hc : Nat.Coprime n b) : ∃ k, 1 ≤ k ∧ k ≤ n ∧ b ^ k % n = 1 % n := by
  obtain ⟨i, j, hij, hj, he⟩ := pigeon n (fun i => b ^ i % n) (fun i _ => Nat.mod_lt _ hn)
  refine ⟨j - i, by omega, by omega, mod_of_dvd_sub (Nat.pow_pos hb) ?_⟩
  have h1 := Nat.sub_mod_eq_zero_of_mod_eq he.symm
  have h2 := Nat.dvd_of_mod_eq_zero h1
  have h3 : b ^ j - b ^ i = b ^ i * (b ^ (j - i) - 1) := by
    rw [Nat.mul_sub, ← Nat.pow_add, Nat.mul_one]
    congr 2
    omega
  rw [h3] at h2
  exact Nat.Coprime.dvd_of_dvd_mul_left (Nat.Coprime.pow_right _ hc) h2
theorem tmod_cast (a b : Nat) : Int.tmod (a : Int) (b : Int) = ((a % b : Nat) : Int) := (Int.ofNat_tmod a b).symm
theorem tdiv_cast (a b : Nat) : Int.tdiv (a : Int) (b : Int) = ((a / b : Nat) : Int) := (Int.ofNat_tdiv a b).symm
theorem natOf {a : Int} (h : 0 ≤ a) : ∃ n : Nat, a = (n : Int) := ⟨a.toNat, by omega⟩

theorem l1All_loop (lo hi : Int) (whole : List Int) (post : List Int) : ∀ pre : List Int, whole = pre ++ post → whole.length ≤ 4611686018427387904 →
    Ev (fun k => spec_l1All.l0 k lo hi whole (whole.length : Int) (pre.length : Int)) (post.all fun x => decide (lo ≤ x ∧ x ≤ hi)) := by
  induction post with
  | nil =>
    intro pre hw h
    refine evs (fun k => by rw [spec_l1All.l0]) ?_
    exact evn (by simp [hw]) (evr (by simp))
  | cons y post ih =>
    intro pre hw h
    have hl : whole.length = pre.length + (post.length + 1) := by simp [hw]
    have hx : rd whole (pre.length : Int) = y := by rw [hw, rd_mid]
    refine evs (fun k => by rw [spec_l1All.l0]) ?_
    rw [hx]
    simp only [spec_l1In_eq, Option.bind_some, decide_eq_true_eq]
    refine evp (by omega) (evp (by omega) (evp (by omega) ?_))
    by_cases he : lo ≤ y ∧ y ≤ hi
    · refine evp he ?_
      have h2 := ih (pre ++ [y]) (by simp [hw]) h
      rw [w64 (by omega) (by omega)]
      have e : ((y :: post).all fun x => decide (lo ≤ x ∧ x ≤ hi)) = (post.all fun x => decide (lo ≤ x ∧ x ≤ hi)) := by
        rw [List.all_cons, decide_eq_true he, Bool.true_and]
      rw [e]
      simpa using h2
    · refine evn he (evr ?_)
      rw [List.all_cons, decide_eq_false he, Bool.false_and]
theorem l1All_ev (l : List Int) (lo hi : Int) (h : l.length ≤ 4611686018427387904) : Ev (fun k => spec_l1All.f k l lo hi) (l.all fun x => decide (lo ≤ x ∧ x ≤ hi)) := by
  unfold spec_l1All.f
  simpa using l1All_loop lo hi l l [] rfl h

def goodC (l : List Int) : Bool := decide (l.length ≤ 400) && l.all fun x => decide (1 ≤ x ∧ x ≤ 9)
theorem teGood_ev (l : List Int) (h : l.length ≤ 4611686018427387904) : Ev (fun k => spec_teGood.f k l) (goodC l) := by
  unfold spec_teGood.f goodC
  by_cases hl : (l.length : Int) ≤ 400
  · refine evp hl (evb (l1All_ev l 1 9 h) (evr ?_))
    rw [decide_eq_true (by omega : l.length ≤ 400), Bool.true_and]
  · refine evn hl (evr ?_)
    rw [decide_eq_false (by omega : ¬ l.length ≤ 400), Bool.false_and]
theorem isSaid_eq (l : List Int) : impl_isSaid.f l = some (goodC l) := by
  unfold impl_isSaid.f impl_areIn.f goodC
  have e : decide ((0 : Int) ≤ (l.length : Int) ∧ (l.length : Int) ≤ 400) = decide (l.length ≤ 400) := by
    by_cases h : l.length ≤ 400
    · rw [decide_eq_true h, decide_eq_true (by omega)]
    · rw [decide_eq_false h, decide_eq_false (by omega)]
  rw [e]
  rfl
theorem goodC_len {l : List Int} (h : goodC l = true) : l.length ≤ 400 := by
  unfold goodC at h
  simp only [Bool.and_eq_true, decide_eq_true_eq] at h
  exact h.1

theorem rep_at (pre rest : List Int) (x : Int) (n : Nat) (hn : 1 ≤ n) : rd (pre ++ (List.replicate n x ++ rest)) (pre.length : Int) = x := by
  obtain ⟨n, rfl⟩ : ∃ m, n = m + 1 := ⟨n - 1, by omega⟩
  rw [List.replicate_succ, List.cons_append, rd_mid]
theorem rep_next (pre rest : List Int) (x y : Int) (n : Nat) : rd (pre ++ (List.replicate n x ++ y :: rest)) ((pre.length : Int) + (n : Int)) = y := by
  have e : pre ++ (List.replicate n x ++ y :: rest) = (pre ++ List.replicate n x) ++ y :: rest := by simp
  rw [e]
  exact rd_mid' _ _ _ _ (by simp)
theorem teSay_loop (whole : List Int) (hlen : whole.length ≤ 1000000) (rest : List Int) : ∀ (pre : List Int) (x : Int) (n : Nat) (out : List Int), whole = pre ++ (List.replicate n x ++ rest) → 1 ≤ n → out.length ≤ 2 * pre.length →
    Ev (fun k => spec_teSay.l1 k whole out (pre.length : Int) (n : Int)) (sayFin out (sayS rest x n)) := by
  induction rest with
  | nil =>
    intro pre x n out hw hn ho
    have hl : whole.length = pre.length + n := by simp [hw]
    have hx : rd whole (pre.length : Int) = x := by rw [hw]; exact rep_at pre [] x n hn
    refine evs (fun k => by rw [spec_teSay.l1]) ?_
    rw [hx, w64 (x := (pre.length : Int) + (n : Int)) (by omega) (by omega)]
    refine evn (by omega) ?_
    by_cases h9 : n > 9
    · exact evp (by omega) (evr (by simp [sayS, h9, sayFin]))
    · refine evn (by omega) (evp (by omega) (evp (by omega) ?_))
      simp only [Option.bind_some]
      refine evp (by simp <;> omega) (evs (fun k => by rw [spec_teSay.l0]) ?_)
      exact evn (by omega) (evr (by simp [sayS, h9, sayFin]))
  | cons y t ih =>
    intro pre x n out hw hn ho
    have hl : whole.length = pre.length + (n + (t.length + 1)) := by simp [hw]
    have hx : rd whole (pre.length : Int) = x := by rw [hw]; exact rep_at pre _ x n hn
    have hy : rd whole ((pre.length : Int) + (n : Int)) = y := by rw [hw]; exact rep_next pre t x y n
    refine evs (fun k => by rw [spec_teSay.l1]) ?_
    rw [w64 (x := (pre.length : Int) + (n : Int)) (by omega) (by omega), hx, hy]
    refine evp (by omega) (evp (by omega) (evp (by omega) (evp (by omega) ?_)))
    by_cases he : y = x
    · subst he
      refine evp rfl ?_
      rw [w64 (x := (n : Int) + 1) (by omega) (by omega)]
      have h := ih pre y (n + 1) out (by rw [hw, List.replicate_succ']; simp) (by omega) ho
      simpa [sayS] using h
    · refine evn he ?_
      by_cases h9 : n > 9
      · exact evp (by omega) (evr (by simp [sayS, he, h9, sayFin]))
      · refine evn (by omega) ?_
        simp only [Option.bind_some]
        refine evp (by simp <;> omega) (evs (fun k => by rw [spec_teSay.l0]) (evp (by omega) (evs (fun k => by rw [spec_teSay.l1]) ?_)))
        rw [Int.add_zero, w64 (x := (pre.length : Int) + (n : Int)) (by omega) (by omega), hy, w64 (x := (0 : Int) + 1) (by omega) (by omega)]
        refine evp (by omega) (evp (by omega) (evp (by omega) (evp (by omega) (evp rfl ?_))))
        have h := ih (pre ++ List.replicate n x) y 1 (out ++ [(n : Int), x]) (by rw [hw]; simp) (by omega) (by simp <;> omega)
        have e : sayFin (out ++ [(n : Int), x]) (sayS t y 1) = sayFin out (sayS (y :: t) x n) := by
          simp only [sayS, if_neg he, if_neg h9]
          cases sayS t y 1 <;> simp [sayFin]
        rw [e] at h
        simpa using h
theorem teSay_ev (l : List Int) (h : l.length ≤ 1000000) : Ev (fun k => spec_teSay.f k l) (sayFin [] (sayC l)) := by
  unfold spec_teSay.f
  refine evs (fun k => by rw [spec_teSay.l0]) ?_
  cases l with
  | nil => exact evn (by simp) (evr (by simp [sayC, sayFin]))
  | cons x t =>
    refine evp (by simp <;> omega) (evs (fun k => by rw [spec_teSay.l1]) ?_)
    have hx : rd (x :: t) (0 : Int) = x := by simp [rd]
    simp only [List.length_cons] at h
    rw [Int.add_zero, w64 (x := (0 : Int)) (by omega) (by omega), hx, w64 (x := (0 : Int) + 1) (by omega) (by omega)]
    refine evp (by simp <;> omega) (evp (by omega) (evp (by omega) (evp (by simp <;> omega) (evp rfl ?_))))
    have h2 := teSay_loop (x :: t) (by simpa using h) t [] x 1 [] (by simp) (by omega) (by simp)
    simpa [sayC] using h2
theorem said_loop (whole : List Int) (hlen : whole.length ≤ 1000000) (rest : List Int) : ∀ (pre : List Int) (x : Int) (n : Nat) (out : List Int), whole = pre ++ (List.replicate n x ++ rest) → 1 ≤ n → out.length ≤ 2 * pre.length →
    Ev (fun k => impl_said.l1 k whole out (pre.length : Int) (n : Int)) (sayFin out (sayS rest x n)) := by
  induction rest with
  | nil =>
    intro pre x n out hw hn ho
    have hl : whole.length = pre.length + n := by simp [hw]
    have hx : rd whole (pre.length : Int) = x := by rw [hw]; exact rep_at pre [] x n hn
    refine evs (fun k => by rw [impl_said.l1]) ?_
    rw [hx, w64 (x := (pre.length : Int) + (n : Int)) (by omega) (by omega)]
    refine evn (by omega) ?_
    by_cases h9 : n > 9
    · exact evp (by omega) (evr (by simp [sayS, h9, sayFin]))
    · refine evn (by omega) (evp (by omega) (evp (by omega) ?_))
      simp only [Option.bind_some]
      refine evp (by simp <;> omega) (evs (fun k => by rw [impl_said.l0]) ?_)
      exact evn (by omega) (evr (by simp [sayS, h9, sayFin]))
  | cons y t ih =>
    intro pre x n out hw hn ho
    have hl : whole.length = pre.length + (n + (t.length + 1)) := by simp [hw]
    have hx : rd whole (pre.length : Int) = x := by rw [hw]; exact rep_at pre _ x n hn
    have hy : rd whole ((pre.length : Int) + (n : Int)) = y := by rw [hw]; exact rep_next pre t x y n
    refine evs (fun k => by rw [impl_said.l1]) ?_
    rw [w64 (x := (pre.length : Int) + (n : Int)) (by omega) (by omega), hx, hy]
    refine evp (by omega) (evp (by omega) (evp (by omega) (evp (by omega) ?_)))
    by_cases he : y = x
    · subst he
      refine evp rfl ?_
      rw [w64 (x := (n : Int) + 1) (by omega) (by omega)]
      have h := ih pre y (n + 1) out (by rw [hw, List.replicate_succ']; simp) (by omega) ho
      simpa [sayS] using h
    · refine evn he ?_
      by_cases h9 : n > 9
      · exact evp (by omega) (evr (by simp [sayS, he, h9, sayFin]))
      · refine evn (by omega) ?_
        simp only [Option.bind_some]
        refine evp (by simp <;> omega) (evs (fun k => by rw [impl_said.l0]) (evp (by omega) ?_))
        have h := ih (pre ++ List.replicate n x) y 1 (out ++ [(n : Int), x]) (by rw [hw]; simp) (by omega) (by simp <;> omega)
        have e : sayFin (out ++ [(n : Int), x]) (sayS t y 1) = sayFin out (sayS (y :: t) x n) := by
          simp only [sayS, if_neg he, if_neg h9]
          cases sayS t y 1 <;> simp [sayFin]
        rw [e] at h
        simpa using h
theorem said_ev (l : List Int) (h : l.length ≤ 1000000) : Ev (fun k => impl_said.f k l) (sayFin [] (sayC l)) := by
  unfold impl_said.f
  refine evs (fun k => by rw [impl_said.l0]) ?_
  cases l with
  | nil => exact evn (by simp) (evr (by simp [sayC, sayFin]))
  | cons x t =>
    refine evp (by simp <;> omega) ?_
    have h2 := said_loop (x :: t) h t [] x 1 [] (by simp) (by omega) (by simp)
    simpa [sayC] using h2

theorem unsay_inner (l : List Int) (i : Nat) (y : Int) (v : Nat) (hi : i + 1 < l.length) (hlen : l.length ≤ 400) (hy : rd l ((i + 1 : Nat) : Int) = y) (hv : rd l (i : Int) = (v : Int)) (hv9 : v ≤ 9) (r : List Int × Bool) (c : Nat) :
    ∀ (t : Nat) (out : List Int), t + c = v → out.length + c ≤ 100000 → Ev (fun k => spec_UnsayWord.l0 k l (out ++ List.replicate c y) ((i + 2 : Nat) : Int)) r → Ev (fun k => spec_UnsayWord.l1 k l out (i : Int) (t : Int)) r := by
  have e1 : wrap64 ((i : Int) + 1) = ((i + 1 : Nat) : Int) := by rw [w64 (by omega) (by omega)]; omega
  have e3 : wrap64 ((i : Int) + 2) = ((i + 2 : Nat) : Int) := by rw [w64 (by omega) (by omega)]; omega
  induction c with
  | zero =>
    intro t out ht ho h
    refine evs (fun k => by rw [spec_UnsayWord.l1]) ?_
    rw [hv, e3]
    refine evp (by omega) (evp (by omega) (evn (by omega) ?_))
    simpa using h
  | succ c ih =>
    intro t out ht ho h
    have e4 : wrap64 ((t : Int) + 1) = ((t + 1 : Nat) : Int) := by rw [w64 (by omega) (by omega)]; omega
    refine evs (fun k => by rw [spec_UnsayWord.l1]) ?_
    rw [hv, e1, e4, hy]
    refine evp (by omega) (evp (by omega) (evp (by omega) (evp (by omega) (evp (by omega) (evp (by omega) ?_)))))
    refine ih (t + 1) (out ++ [y]) (by omega) (by simp; omega) ?_
    rw [List.append_assoc, List.singleton_append, ← List.replicate_succ]
    exact h
theorem repeat_one (y : Int) (v : Nat) (h : v ≤ 9) : slices_Repeat_int_int.f [y] (v : Int) = some (List.replicate v y) := by
  unfold slices_Repeat_int_int.f
  rw [if_pos (by rfl), if_pos (by omega), Int.toNat_natCast]
  simp [rd]
theorem unsay_loop (l : List Int) (hlen : l.length ≤ 400) (hg : ∀ x ∈ l, 1 ≤ x ∧ x ≤ 9) (d : Nat) : ∀ (i : Nat) (out : List Int), i + 2 * d = l.length → out.length ≤ 9 * i →
    ∃ r : List Int × Bool, r.1.length ≤ 100000 ∧ Ev (fun k => spec_UnsayWord.l0 k l out (i : Int)) r ∧ Ev (fun k => impl_UnsayWord.l0 k l out (i : Int)) r := by
  induction d with
  | zero =>
    intro i out hi ho
    by_cases h4 : (out.length : Int) > 400
    · refine ⟨([], false), by simp, ?_, ?_⟩
      · refine evs (fun k => by rw [spec_UnsayWord.l0]) ?_
        exact evn (by omega) (evp h4 (Ev.now _))
      · refine evs (fun k => by rw [impl_UnsayWord.l0]) ?_
        exact evn (by omega) (evp h4 (Ev.now _))
    · refine ⟨(out, true), by simp only; omega, ?_, ?_⟩
      · refine evs (fun k => by rw [spec_UnsayWord.l0]) ?_
        exact evn (by omega) (evn h4 (Ev.now _))
      · refine evs (fun k => by rw [impl_UnsayWord.l0]) ?_
        exact evn (by omega) (evn h4 (Ev.now _))
  | succ d ih =>
    intro i out hi ho
    have e1 : wrap64 ((i : Int) + 1) = ((i + 1 : Nat) : Int) := by rw [w64 (by omega) (by omega)]; omega
    have e3 : wrap64 ((i : Int) + 2) = ((i + 2 : Nat) : Int) := by rw [w64 (by omega) (by omega)]; omega
    have hv := hg _ (rd_mem l (i : Int) (by omega) (by omega))
    obtain ⟨v, hv2⟩ := natOf (a := rd l (i : Int)) (by omega)
    obtain ⟨y, hy⟩ : ∃ y, rd l ((i + 1 : Nat) : Int) = y := ⟨_, rfl⟩
    rw [hv2] at hv
    obtain ⟨r, hr, h1, h2⟩ := ih (i + 2) (out ++ List.replicate v y) (by omega) (by simp; omega)
    have h3 := unsay_inner l i y v (by omega) hlen hy hv2 (by omega) r v 0 out (by omega) (by omega) h1
    by_cases h0 : (i : Int) > 0
    · have e2 : wrap64 ((i : Int) - 1) = ((i - 1 : Nat) : Int) := by rw [w64 (by omega) (by omega)]; omega
      by_cases he : y = rd l ((i - 1 : Nat) : Int)
      · refine ⟨([], false), by simp, ?_, ?_⟩
        · refine evs (fun k => by rw [spec_UnsayWord.l0]) ?_
          rw [e1, e2, hy, ← he]
          refine evp (by omega) (evp h0 (evp (by omega) (evp (by omega) (evp (by omega) (evp (by omega) ?_)))))
          refine evs (fun k => by rw [spec_UnsayWord.j2]) ?_
          exact evp (by simp) (Ev.now _)
        · refine evs (fun k => by rw [impl_UnsayWord.l0]) ?_
          rw [e1, e2, hy]
          exact evp (by omega) (evp h0 (evp (by omega) (evp (by omega) (evp (by omega) (evp (by omega) (evp he (Ev.now _)))))))
      · refine ⟨r, hr, ?_, ?_⟩
        · refine evs (fun k => by rw [spec_UnsayWord.l0]) ?_
          rw [e1, e2, hy]
          refine evp (by omega) (evp h0 (evp (by omega) (evp (by omega) (evp (by omega) (evp (by omega) ?_)))))
          refine evs (fun k => by rw [spec_UnsayWord.j2]) ?_
          exact evn (by simpa using he) h3
        · refine evs (fun k => by rw [impl_UnsayWord.l0]) ?_
          rw [e1, e2, e3, hy, hv2, repeat_one y v (by omega)]
          refine evp (by omega) (evp h0 (evp (by omega) (evp (by omega) (evp (by omega) (evp (by omega) (evn he (evp (by omega) ?_)))))))
          exact evp (by simp; omega) h2
    · refine ⟨r, hr, ?_, ?_⟩
      · refine evs (fun k => by rw [spec_UnsayWord.l0]) ?_
        refine evp (by omega) (evn h0 ?_)
        refine evs (fun k => by rw [spec_UnsayWord.j2]) ?_
        exact evn (by simp) h3
      · refine evs (fun k => by rw [impl_UnsayWord.l0]) ?_
        rw [e1, e3, hy, hv2, repeat_one y v (by omega)]
        refine evp (by omega) (evn h0 (evp (by omega) (evp (by omega) (evp (by omega) ?_))))
        exact evp (by simp; omega) h2
theorem unsay_both (l : List Int) (hl : l.length ≤ 1048576) : ∃ r : List Int × Bool, r.1.length ≤ 100000 ∧ Ev (fun k => spec_UnsayWord.f k l) r ∧ Ev (fun k => impl_UnsayWord.f k l) r := by
  have no : Ev (fun k => spec_UnsayWord.j0 k l true) ([], false) ∧ Ev (fun k => impl_UnsayWord.j0 k l true) ([], false) := by
    constructor
    · refine evs (fun k => by rw [spec_UnsayWord.j0]) ?_
      exact evp rfl (Ev.now _)
    · refine evs (fun k => by rw [impl_UnsayWord.j0]) ?_
      exact evp rfl (Ev.now _)
  simp only [spec_UnsayWord.f, impl_UnsayWord.f, isSaid_eq, Option.bind_some]
  by_cases hg : goodC l = true
  · by_cases hp : ((l.length : Int) % 2) = 1
    · have hb : (((l.length : Int) % 2) == 1) = true := by simpa using hp
      rw [hb]
      exact ⟨([], false), by simp, evb (teGood_ev l (by omega)) (evp hg no.1), evp hg no.2⟩
    · have hb : (((l.length : Int) % 2) == 1) = false := by simpa using hp
      rw [hb]
      have hall : ∀ x ∈ l, 1 ≤ x ∧ x ≤ 9 := by
        unfold goodC at hg
        simp only [Bool.and_eq_true, List.all_eq_true, decide_eq_true_eq] at hg
        exact hg.2
      obtain ⟨r, hr, h1, h2⟩ := unsay_loop l (goodC_len hg) hall (l.length / 2) 0 [] (by omega) (by simp)
      refine ⟨r, hr, evb (teGood_ev l (by omega)) (evp hg ?_), evp hg ?_⟩
      · refine evs (fun k => by rw [spec_UnsayWord.j0]) ?_
        exact evn (by simp) h1
      · refine evs (fun k => by rw [impl_UnsayWord.j0]) ?_
        exact evn (by simp) h2
  · exact ⟨([], false), by simp, evb (teGood_ev l (by omega)) (evn hg no.1), evn hg no.2⟩

def unsayFin (p : Option Int) (t out : List Int) : List Int × Bool := if altL p t = true ∧ (out ++ unsayL t).length ≤ 400 then (out ++ unsayL t, true) else ([], false)
theorem drop_two (l : List Int) (i : Nat) (h : i + 1 < l.length) : l.drop i = rd l (i : Int) :: rd l ((i + 1 : Nat) : Int) :: l.drop (i + 2) := by
  rw [rd_get l i (by omega), rd_get l (i + 1) h, List.drop_eq_getElem_cons (by omega), List.drop_eq_getElem_cons h]
theorem unsay_loop2 (l : List Int) (hlen : l.length ≤ 400) (hg : ∀ x ∈ l, 1 ≤ x ∧ x ≤ 9) (d : Nat) : ∀ (i : Nat) (out : List Int) (p : Option Int), i + 2 * d = l.length → out.length ≤ 9 * i → (i = 0 → p = none) → (0 < i → p = some (rd l ((i - 1 : Nat) : Int))) →
    Ev (fun k => spec_UnsayWord.l0 k l out (i : Int)) (unsayFin p (l.drop i) out) ∧ Ev (fun k => impl_UnsayWord.l0 k l out (i : Int)) (unsayFin p (l.drop i) out) := by
  induction d with
  | zero =>
    intro i out p hi ho _ _
    have hd : l.drop i = [] := List.drop_of_length_le (by omega)
    have hf : unsayFin p (l.drop i) out = if (out.length : Int) > 400 then ([], false) else (out, true) := by
      rw [hd]
      unfold unsayFin
      simp only [altL, unsayL, List.append_nil, true_and]
      by_cases h : (out.length : Int) > 400
      · rw [if_pos h, if_neg (by omega)]
      · rw [if_neg h, if_pos (by omega)]
    rw [hf]
    by_cases h4 : (out.length : Int) > 400
    · rw [if_pos h4]
      constructor
      · refine evs (fun k => by rw [spec_UnsayWord.l0]) ?_
        exact evn (by omega) (evp h4 (Ev.now _))
      · refine evs (fun k => by rw [impl_UnsayWord.l0]) ?_
        exact evn (by omega) (evp h4 (Ev.now _))
    · rw [if_neg h4]
      constructor
      · refine evs (fun k => by rw [spec_UnsayWord.l0]) ?_
        exact evn (by omega) (evn h4 (Ev.now _))
      · refine evs (fun k => by rw [impl_UnsayWord.l0]) ?_
        exact evn (by omega) (evn h4 (Ev.now _))
  | succ d ih =>
    intro i out p hi ho hp0 hp1
    have e1 : wrap64 ((i : Int) + 1) = ((i + 1 : Nat) : Int) := by rw [w64 (by omega) (by omega)]; omega
    have e3 : wrap64 ((i : Int) + 2) = ((i + 2 : Nat) : Int) := by rw [w64 (by omega) (by omega)]; omega
    have hv := hg _ (rd_mem l (i : Int) (by omega) (by omega))
    have hd2 := drop_two l i (by omega)
    obtain ⟨v, hv2⟩ := natOf (a := rd l (i : Int)) (by omega)
    obtain ⟨y, hy⟩ : ∃ y, rd l ((i + 1 : Nat) : Int) = y := ⟨_, rfl⟩
    rw [hv2] at hv
    rw [hv2, hy] at hd2
    obtain ⟨h1, h2⟩ := ih (i + 2) (out ++ List.replicate v y) (some y) (by omega) (by simp; omega) (fun h => by omega) (fun _ => by rw [show i + 2 - 1 = i + 1 by omega, hy])
    have hfin : p ≠ some y → unsayFin (some y) (l.drop (i + 2)) (out ++ List.replicate v y) = unsayFin p (l.drop i) out := by
      intro hne
      rw [hd2]
      unfold unsayFin
      simp only [altL, unsayL, decide_eq_true hne, Bool.true_and, Int.toNat_natCast, List.append_assoc]
    have hbad : p = some y → unsayFin p (l.drop i) out = ([], false) := by
      intro he
      rw [hd2]
      unfold unsayFin
      rw [if_neg]
      rintro ⟨ha, _⟩
      simp only [altL, Bool.and_eq_true, decide_eq_true_eq] at ha
      exact ha.1 he
    have h3 := unsay_inner l i y v (by omega) hlen hy hv2 (by omega) _ v 0 out (by omega) (by omega) h1
    by_cases h0 : (i : Int) > 0
    · have e2 : wrap64 ((i : Int) - 1) = ((i - 1 : Nat) : Int) := by rw [w64 (by omega) (by omega)]; omega
      have hp := hp1 (by omega)
      by_cases he : y = rd l ((i - 1 : Nat) : Int)
      · rw [hbad (by rw [hp, he])]
        constructor
        · refine evs (fun k => by rw [spec_UnsayWord.l0]) ?_
          rw [e1, e2, hy, ← he]
          refine evp (by omega) (evp h0 (evp (by omega) (evp (by omega) (evp (by omega) (evp (by omega) ?_)))))
          refine evs (fun k => by rw [spec_UnsayWord.j2]) ?_
          exact evp (by simp) (Ev.now _)
        · refine evs (fun k => by rw [impl_UnsayWord.l0]) ?_
          rw [e1, e2, hy]
          exact evp (by omega) (evp h0 (evp (by omega) (evp (by omega) (evp (by omega) (evp (by omega) (evp he (Ev.now _)))))))
      · have hne : p ≠ some y := by
          rw [hp]
          intro e
          injection e with e
          exact he e.symm
        rw [hfin hne] at h2 h3
        refine ⟨?_, ?_⟩
        · refine evs (fun k => by rw [spec_UnsayWord.l0]) ?_
          rw [e1, e2, hy]
          refine evp (by omega) (evp h0 (evp (by omega) (evp (by omega) (evp (by omega) (evp (by omega) ?_)))))
          refine evs (fun k => by rw [spec_UnsayWord.j2]) ?_
          exact evn (by simpa using he) h3
        · refine evs (fun k => by rw [impl_UnsayWord.l0]) ?_
          rw [e1, e2, e3, hy, hv2, repeat_one y v (by omega)]
          refine evp (by omega) (evp h0 (evp (by omega) (evp (by omega) (evp (by omega) (evp (by omega) (evn he (evp (by omega) ?_)))))))
          exact evp (by simp; omega) h2
    · have hne : p ≠ some y := by rw [hp0 (by omega)]; simp
      rw [hfin hne] at h2 h3
      refine ⟨?_, ?_⟩
      · refine evs (fun k => by rw [spec_UnsayWord.l0]) ?_
        refine evp (by omega) (evn h0 ?_)
        refine evs (fun k => by rw [spec_UnsayWord.j2]) ?_
        exact evn (by simp) h3
      · refine evs (fun k => by rw [impl_UnsayWord.l0]) ?_
        rw [e1, e3, hy, hv2, repeat_one y v (by omega)]
        refine evp (by omega) (evn h0 (evp (by omega) (evp (by omega) (evp (by omega) ?_))))
        exact evp (by simp; omega) h2
/-- What UnsayWord tells. -/
def unsayR (l : List Int) : List Int × Bool := if goodC l = true ∧ altL none l = true ∧ (unsayL l).length ≤ 400 then (unsayL l, true) else ([], false)
theorem altL_even (l : List Int) : ∀ p, altL p l = true → l.length % 2 = 0 := by
  induction l using unsayL.induct with
  | case1 v y t ih =>
    intro p h
    simp only [altL, Bool.and_eq_true] at h
    have := ih _ h.2
    simp only [List.length_cons]
    omega
  | case2 t hn =>
    intro p h
    cases t with
    | nil => rfl
    | cons a t =>
      cases t with
      | nil => simp [altL] at h
      | cons b t => exact absurd rfl (hn a b t)
theorem goodC_all {l : List Int} (hg : goodC l = true) : ∀ x ∈ l, 1 ≤ x ∧ x ≤ 9 := by
  unfold goodC at hg
  simp only [Bool.and_eq_true, List.all_eq_true, decide_eq_true_eq] at hg
  exact hg.2
theorem unsay_full (l : List Int) (hl : l.length ≤ 1048576) : Ev (fun k => spec_UnsayWord.f k l) (unsayR l) ∧ Ev (fun k => impl_UnsayWord.f k l) (unsayR l) := by
  have no : Ev (fun k => spec_UnsayWord.j0 k l true) ([], false) ∧ Ev (fun k => impl_UnsayWord.j0 k l true) ([], false) := by
    constructor
    · refine evs (fun k => by rw [spec_UnsayWord.j0]) ?_
      exact evp rfl (Ev.now _)
    · refine evs (fun k => by rw [impl_UnsayWord.j0]) ?_
      exact evp rfl (Ev.now _)
  simp only [spec_UnsayWord.f, impl_UnsayWord.f, isSaid_eq, Option.bind_some]
  by_cases hg : goodC l = true
  · by_cases hp : ((l.length : Int) % 2) = 1
    · have hb : (((l.length : Int) % 2) == 1) = true := by simpa using hp
      have hr : unsayR l = ([], false) := by
        unfold unsayR
        rw [if_neg]
        rintro ⟨_, ha, _⟩
        have := altL_even l _ ha
        omega
      rw [hb, hr]
      exact ⟨evb (teGood_ev l (by omega)) (evp hg no.1), evp hg no.2⟩
    · have hb : (((l.length : Int) % 2) == 1) = false := by simpa using hp
      rw [hb]
      have hr : unsayR l = unsayFin none l [] := by
        unfold unsayR unsayFin
        simp [hg]
      obtain ⟨h1, h2⟩ := unsay_loop2 l (goodC_len hg) (goodC_all hg) (l.length / 2) 0 [] none (by omega) (by simp) (fun _ => rfl) (fun h => by omega)
      rw [List.drop_zero, ← hr] at h1 h2
      refine ⟨evb (teGood_ev l (by omega)) (evp hg ?_), evp hg ?_⟩
      · refine evs (fun k => by rw [spec_UnsayWord.j0]) ?_
        exact evn (by simp) h1
      · refine evs (fun k => by rw [impl_UnsayWord.j0]) ?_
        exact evn (by simp) h2
  · have hr : unsayR l = ([], false) := by
      unfold unsayR
      rw [if_neg]
      rintro ⟨h, _⟩
      exact hg h
    rw [hr]
    exact ⟨evb (teGood_ev l (by omega)) (evn hg no.1), evn hg no.2⟩

theorem l1Own_ev (l : List Int) (h : l.length ≤ 1000000) : spec_l1Own.f l = some l := by
  unfold spec_l1Own.f
  simp only [Option.bind_some, List.nil_append, List.length_nil]
  rw [if_pos (by omega)]
theorem clone_ev (l : List Int) (h : l.length ≤ 1000000) : slices_Clone_int_int.f l = some l := by
  unfold slices_Clone_int_int.f
  rw [if_pos (by omega)]


theorem rd_L1_mid (rows r : List (List Int)) (cur : List Int) : rd_L2 (rows ++ cur :: r) (rows.length : Int) = cur := by simp [rd_L2]
theorem teLong_loop (whole : List Int) (hlen : whole.length ≤ 1000000) (rest : List Int) : ∀ (p : List Int) (x : Int) (n : Nat), whole = (p ++ [x]) ++ rest → n ≤ 9 →
    Ev (fun k => spec_teLong.l0 k whole (n : Int) whole (whole.length : Int) ((p.length : Int) + 1)) (sayS rest x n).isNone := by
  induction rest with
  | nil =>
    intro p x n hw hn
    refine evs (fun k => by rw [spec_teLong.l0]) ?_
    have : ¬ n > 9 := by omega
    exact evn (by simp [hw]) (evr (by simp [sayS, this]))
  | cons y t ih =>
    intro p x n hw hn
    have hl : whole.length = p.length + 1 + (t.length + 1) := by simp [hw]; omega
    have hy : rd whole ((p.length : Int) + 1) = y := by rw [hw]; exact rd_mid' _ _ _ _ (by simp)
    have hx : rd whole (p.length : Int) = x := by
      have e : whole = p ++ x :: (y :: t) := by simp [hw]
      rw [e]
      exact rd_mid _ _ _
    refine evs (fun k => by rw [spec_teLong.l0]) ?_
    rw [w64 (x := (p.length : Int) + 1 - 1) (by omega) (by omega), show (p.length : Int) + 1 - 1 = (p.length : Int) by omega, hx, hy]
    refine evp (by omega) (evp (by omega) (evp (by omega) (evp (by omega) (evp (by omega) (evp (by omega) (evs (fun k => by rw [spec_teLong.j1]) ?_))))))
    rw [w64 (x := (n : Int) + 1) (by omega) (by omega), w64 (x := (p.length : Int) + 1 + 1) (by omega) (by omega)]
    by_cases he : y = x
    · subst he
      refine evp (by simp) ?_
      simp only [sayS, if_true]
      by_cases h9 : n + 1 > 9
      · exact evp (by omega) (evr (by rw [sayS_big _ _ _ h9]; rfl))
      · refine evn (by omega) ?_
        have h := ih (p ++ [y]) y (n + 1) (by simp [hw]) (by omega)
        simpa using h
    · have he2 : ¬ x = y := fun e => he e.symm
      refine evn (by simp [he2]) ?_
      have h9 : ¬ n > 9 := by omega
      have h := ih (p ++ [x]) y 1 (by simp [hw]) (by omega)
      simp only [sayS, if_neg he, if_neg h9, Option.isNone_map]
      simpa using h
theorem teLong_ev (l : List Int) (h : l.length ≤ 1000000) : Ev (fun k => spec_teLong.f k l) (longC l) := by
  unfold spec_teLong.f
  refine evs (fun k => by rw [spec_teLong.l0]) ?_
  cases l with
  | nil => exact evn (by simp) (evr (by simp [longC, sayC]))
  | cons x t =>
    simp only [List.length_cons] at h
    refine evp (by simp <;> omega) (evp (by omega) (evp (by simp <;> omega) (evn (by omega) (evs (fun k => by rw [spec_teLong.j1]) (evn (by simp) ?_)))))
    rw [w64 (x := (0 : Int) + 1) (by omega) (by omega)]
    have h2 := teLong_loop (x :: t) (by simpa using h) t [] x 1 (by simp) (by omega)
    simpa [longC, sayC] using h2
theorem fits_loop (whole : List Int) (hlen : whole.length ≤ 1000000) (rest : List Int) : ∀ (p : List Int) (x : Int) (n : Nat), whole = (p ++ [x]) ++ rest → n ≤ 9 →
    Ev (fun k => impl_fits.l0 k whole (n : Int) whole (whole.length : Int) ((p.length : Int) + 1)) (!(sayS rest x n).isNone) := by
  induction rest with
  | nil =>
    intro p x n hw hn
    refine evs (fun k => by rw [impl_fits.l0]) ?_
    have : ¬ n > 9 := by omega
    exact evn (by simp [hw]) (evr (by simp [sayS, this]))
  | cons y t ih =>
    intro p x n hw hn
    have hl : whole.length = p.length + 1 + (t.length + 1) := by simp [hw]; omega
    have hy : rd whole ((p.length : Int) + 1) = y := by rw [hw]; exact rd_mid' _ _ _ _ (by simp)
    have hx : rd whole (p.length : Int) = x := by
      have e : whole = p ++ x :: (y :: t) := by simp [hw]
      rw [e]
      exact rd_mid _ _ _
    refine evs (fun k => by rw [impl_fits.l0]) ?_
    rw [w64 (x := (p.length : Int) + 1 - 1) (by omega) (by omega), show (p.length : Int) + 1 - 1 = (p.length : Int) by omega, hx, hy]
    refine evp (by omega) (evp (by omega) (evp (by omega) (evp (by omega) (evp (by omega) (evp (by omega) (evs (fun k => by rw [impl_fits.j1]) ?_))))))
    rw [w64 (x := (n : Int) + 1) (by omega) (by omega), w64 (x := (p.length : Int) + 1 + 1) (by omega) (by omega)]
    by_cases he : y = x
    · subst he
      refine evp (by simp) ?_
      simp only [sayS, if_true]
      by_cases h9 : n + 1 > 9
      · exact evp (by omega) (evr (by rw [sayS_big _ _ _ h9]; rfl))
      · refine evn (by omega) ?_
        have h := ih (p ++ [y]) y (n + 1) (by simp [hw]) (by omega)
        simpa using h
    · have he2 : ¬ x = y := fun e => he e.symm
      refine evn (by simp [he2]) ?_
      have h9 : ¬ n > 9 := by omega
      have h := ih (p ++ [x]) y 1 (by simp [hw]) (by omega)
      simp only [sayS, if_neg he, if_neg h9, Option.isNone_map]
      simpa using h
theorem fits_ev (l : List Int) (h : l.length ≤ 1000000) : Ev (fun k => impl_fits.f k l) (!longC l) := by
  unfold impl_fits.f
  refine evs (fun k => by rw [impl_fits.l0]) ?_
  cases l with
  | nil => exact evn (by simp) (evr (by simp [longC, sayC]))
  | cons x t =>
    simp only [List.length_cons] at h
    refine evp (by simp <;> omega) (evp (by omega) (evp (by simp <;> omega) (evn (by omega) (evs (fun k => by rw [impl_fits.j1]) (evn (by simp) ?_)))))
    rw [w64 (x := (0 : Int) + 1) (by omega) (by omega)]
    have h2 := fits_loop (x :: t) (by simpa using h) t [] x 1 (by simp) (by omega)
    simpa [longC, sayC] using h2
theorem teRun_loop (steps : Nat) (hs : steps ≤ 30) (d : Nat) : ∀ (rows : List (List Int)) (cur : List Int), rows.length + d = steps → cur.length ≤ 400 →
    Ev (fun k => spec_teRun.l0 k (steps : Int) (rows ++ [cur]) (rows.length : Int)) (runFin rows cur (runS d cur)) := by
  induction d with
  | zero =>
    intro rows cur hd hc
    have hr : rd_L2 (rows ++ [cur]) (rows.length : Int) = cur := rd_L1_mid rows [] cur
    have e : (steps : Int) = (rows.length : Int) := by omega
    refine evs (fun k => by rw [spec_teRun.l0]) ?_
    rw [e, hr]
    refine evn (by omega) (evp (by omega) (evp (by simp <;> omega) (evb (teLong_ev cur (by omega)) ?_)))
    by_cases hl : longC cur = true
    · exact evp hl (evr (by simp [runS, hl, runFin]))
    · exact evn hl (evr (by simp [runS, hl, runFin]))
  | succ d ih =>
    intro rows cur hd hc
    have hr : rd_L2 (rows ++ [cur]) (rows.length : Int) = cur := rd_L1_mid rows [] cur
    refine evs (fun k => by rw [spec_teRun.l0]) ?_
    rw [hr]
    refine evp (by omega) (evp (by omega) (evp (by simp <;> omega) (evb (teSay_ev cur (by omega)) ?_)))
    cases hsay : sayC cur with
    | none => exact evn (by simp [sayFin]) (evr (by simp [runS, hsay, runFin]))
    | some o =>
      by_cases h4 : o.length ≤ 400
      · refine evp (by simp [sayFin]; omega) (evp (by simp <;> omega) ?_)
        rw [w64 (by omega) (by omega)]
        have h := ih (rows ++ [cur]) o (by simp <;> omega) h4
        have e : runFin (rows ++ [cur]) o (runS d o) = runFin rows cur (runS (d + 1) cur) := by
          simp only [runS, hsay, if_pos h4]
          cases runS d o <;> simp [runFin]
        rw [e] at h
        simpa [sayFin] using h
      · exact evn (by simp [sayFin]; omega) (evr (by simp [runS, hsay, h4, runFin]))
theorem implRun_loop (steps : Nat) (hs : steps ≤ 30) (d : Nat) : ∀ (rows : List (List Int)) (cur : List Int), rows.length + d = steps → cur.length ≤ 400 → longC cur = false →
    Ev (fun k => impl_SayRun.l0 k (rows ++ [cur]) (steps : Int) (rows.length : Int)) (runFin rows cur (runS d cur)) := by
  induction d with
  | zero =>
    intro rows cur hd hc hl
    refine evs (fun k => by rw [impl_SayRun.l0]) ?_
    exact evn (by omega) (evr (by simp [runS, hl, runFin]))
  | succ d ih =>
    intro rows cur hd hc hl
    have hr : rd_L2 (rows ++ [cur]) (rows.length : Int) = cur := rd_L1_mid rows [] cur
    refine evs (fun k => by rw [impl_SayRun.l0]) ?_
    rw [hr]
    refine evp (by omega) (evp (by omega) (evp (by simp <;> omega) (evb (said_ev cur (by omega)) ?_)))
    cases hsay : sayC cur with
    | none => exact evn (by simp [sayFin]) (evr (by simp [runS, hsay, runFin]))
    | some o =>
      by_cases h4 : o.length ≤ 400
      · refine evp (by simp [sayFin]; omega) (evb (fits_ev _ (by simp [sayFin]; omega)) ?_)
        have e0 : ([] ++ o : List Int) = o := rfl
        simp only [sayFin, e0]
        by_cases hlo : longC o = true
        · exact evn (by simp [hlo]) (evr (by simp [runS, hsay, h4, runFin, runS_long d o hlo]))
        · refine evp (by simp [hlo]) (evp (by simp <;> omega) ?_)
          rw [w64 (by omega) (by omega)]
          have h := ih (rows ++ [cur]) o (by simp <;> omega) h4 (by simpa using hlo)
          have e : runFin (rows ++ [cur]) o (runS d o) = runFin rows cur (runS (d + 1) cur) := by
            simp only [runS, hsay, if_pos h4]
            cases runS d o <;> simp [runFin]
          rw [e] at h
          simpa using h
      · exact evn (by simp [sayFin]; omega) (evr (by simp [runS, hsay, h4, runFin]))
theorem teRun_ev (l : List Int) (steps : Nat) (hs : steps ≤ 30) (hl : l.length ≤ 400) : Ev (fun k => spec_teRun.f k l (steps : Int)) (runFin [] l (runS steps l)) := by
  unfold spec_teRun.f
  simp only [l1Own_ev l (by omega), Option.bind_some]
  simpa using teRun_loop steps hs steps [] l (by simp) hl
/-- What SayRun tells. -/
def sayRunC (l : List Int) (steps : Int) : List (List Int) × Bool := if goodC l = true then (if 0 ≤ steps ∧ steps ≤ 30 then runFin [] l (runS steps.toNat l) else ([], false)) else ([], false)
theorem implSayRun_ev (l : List Int) (steps : Int) (hl : l.length ≤ 1000000000) : Ev (fun k => impl_SayRun.f k l steps) (sayRunC l steps) := by
  unfold impl_SayRun.f sayRunC
  simp only [isSaid_eq, impl_in_eq, Option.bind_some, decide_eq_true_eq]
  have no : Ev (fun k => impl_SayRun.j0 k l steps true) (([] : List (List Int)), false) := evs (fun k => by rw [impl_SayRun.j0]) (evp rfl (Ev.now _))
  by_cases hg : goodC l = true
  · have hlen := goodC_len hg
    by_cases hs : 0 ≤ steps ∧ steps ≤ 30
    · rw [if_pos hg, if_pos hs]
      obtain ⟨n, rfl⟩ := natOf (a := steps) (by omega)
      refine evp hg (evp hs (evb (fits_ev l (by omega)) ?_))
      by_cases hlo : longC l = true
      · rw [Int.toNat_natCast, runS_long n l hlo]
        simpa [hlo, runFin] using no
      · refine evs (fun k => by rw [impl_SayRun.j0]) (evn (by simpa using hlo) ?_)
        simp only [clone_ev l (by omega), Option.bind_some]
        rw [Int.toNat_natCast]
        simpa using implRun_loop n (by omega) n [] l (by simp) hlen (by simpa using hlo)
    · rw [if_pos hg, if_neg hs]
      exact evp hg (evn hs no)
  · rw [if_neg hg]
    exact evn hg no

theorem specLen_loop (whole : List (List Int)) (post : List (List Int)) : ∀ (pre : List (List Int)) (out : List Int), whole = pre ++ post → whole.length ≤ 1000000 → out.length ≤ pre.length →
    Ev (fun k => spec_LengthsOfSay.l0 k out whole (whole.length : Int) (pre.length : Int)) (out ++ post.map (fun x => (x.length : Int)), true) := by
  induction post with
  | nil =>
    intro pre out hw h ho
    refine evs (fun k => by rw [spec_LengthsOfSay.l0]) ?_
    exact evn (by simp [hw]) (evr (by simp))
  | cons x post ih =>
    intro pre out hw h ho
    have hl : whole.length = pre.length + (post.length + 1) := by simp [hw]
    have hx : rd_L2 whole (pre.length : Int) = x := by rw [hw]; exact rd_L1_mid pre post x
    refine evs (fun k => by rw [spec_LengthsOfSay.l0]) ?_
    rw [hx, w64 (by omega) (by omega)]
    refine evp (by omega) (evp (by omega) (evp (by omega) (evp (by omega) ?_)))
    have h2 := ih (pre ++ [x]) (out ++ [(x.length : Int)]) (by simp [hw]) h (by simp <;> omega)
    simpa using h2
theorem implLen_loop (whole : List (List Int)) (post : List (List Int)) : ∀ (pre : List (List Int)) (out : List Int), whole = pre ++ post → whole.length ≤ 1000000 → out.length ≤ pre.length →
    Ev (fun k => impl_LengthsOfSay.l0 k out whole (whole.length : Int) (pre.length : Int)) (out ++ post.map (fun x => (x.length : Int)), true) := by
  induction post with
  | nil =>
    intro pre out hw h ho
    refine evs (fun k => by rw [impl_LengthsOfSay.l0]) ?_
    exact evn (by simp [hw]) (evr (by simp))
  | cons x post ih =>
    intro pre out hw h ho
    have hl : whole.length = pre.length + (post.length + 1) := by simp [hw]
    have hx : rd_L2 whole (pre.length : Int) = x := by rw [hw]; exact rd_L1_mid pre post x
    refine evs (fun k => by rw [impl_LengthsOfSay.l0]) ?_
    rw [hx, w64 (by omega) (by omega)]
    refine evp (by omega) (evp (by omega) (evp (by omega) (evp (by omega) ?_)))
    have h2 := ih (pre ++ [x]) (out ++ [(x.length : Int)]) (by simp [hw]) h (by simp <;> omega)
    simpa using h2
def lengthsC (l : List Int) (steps : Int) : List Int × Bool := if (sayRunC l steps).2 = true then ((sayRunC l steps).1.map (fun x => (x.length : Int)), true) else ([], false)
theorem sayRunC_len (l : List Int) (steps : Int) : (sayRunC l steps).1.length ≤ 31 := by
  unfold sayRunC
  split
  · split
    · cases h : runS steps.toNat l with
      | none => simp [runFin]
      | some r =>
        have := (runS_length _ _ _ h).1
        simp [runFin]
        omega
    · simp
  · simp
theorem lengthsC_len (l : List Int) (steps : Int) : (lengthsC l steps).1.length ≤ 31 := by
  have := sayRunC_len l steps
  unfold lengthsC
  split
  · simpa using this
  · simp
theorem specLengths_ev (l : List Int) (steps : Int) (hl : l.length ≤ 1000000000) : Ev (fun k => spec_LengthsOfSay.f k l steps) (lengthsC l steps) := by
  have hlen31 := sayRunC_len l steps
  unfold spec_LengthsOfSay.f lengthsC
  simp only [spec_l1In_eq, Option.bind_some]
  have no : Ev (fun k => spec_LengthsOfSay.j0 k l steps true) (([] : List Int), false) := evs (fun k => by rw [spec_LengthsOfSay.j0]) (evp rfl (Ev.now _))
  refine evb (teGood_ev l (by omega)) ?_
  by_cases hg : goodC l = true
  · have hlen := goodC_len hg
    refine evp hg ?_
    by_cases hs : 0 ≤ steps ∧ steps ≤ 30
    · obtain ⟨n, rfl⟩ := natOf (a := steps) (by omega)
      have hrun := teRun_ev l n (by omega) hlen
      have e : sayRunC l (n : Int) = runFin [] l (runS n l) := by unfold sayRunC; rw [if_pos hg, if_pos hs, Int.toNat_natCast]
      rw [e] at hlen31 ⊢
      refine evs (fun k => by rw [spec_LengthsOfSay.j0]) (evn (by simp [hs]) (evb hrun ?_))
      by_cases hr : (runFin [] l (runS n l)).2 = true
      · rw [if_pos hr]
        refine evp hr ?_
        simpa using specLen_loop (runFin [] l (runS n l)).1 (runFin [] l (runS n l)).1 [] [] rfl (by omega) (by simp)
      · rw [if_neg hr]
        exact evn hr (Ev.now _)
    · have e : sayRunC l steps = ([], false) := by unfold sayRunC; rw [if_pos hg, if_neg hs]
      rw [e]
      simpa [hs] using no
  · have e : sayRunC l steps = ([], false) := by unfold sayRunC; rw [if_neg hg]
    rw [e]
    exact evn hg (by simpa using no)
theorem implLengths_ev (l : List Int) (steps : Int) (hl : l.length ≤ 1000000000) : Ev (fun k => impl_LengthsOfSay.f k l steps) (lengthsC l steps) := by
  have hlen31 := sayRunC_len l steps
  unfold impl_LengthsOfSay.f lengthsC
  refine evb (implSayRun_ev l steps hl) ?_
  by_cases hr : (sayRunC l steps).2 = true
  · rw [if_pos hr]
    refine evp hr ?_
    simpa using implLen_loop (sayRunC l steps).1 (sayRunC l steps).1 [] [] rfl (by omega) (by simp)
  · rw [if_neg hr]
    exact evn hr (Ev.now _)

theorem low_byte (x : Int) : 0 ≤ Go.bits .and .u64 ((IntKind.u64.wrap x) / 1099511627776) 255 ∧ Go.bits .and .u64 ((IntKind.u64.wrap x) / 1099511627776) 255 ≤ 255 := by
  have h0 : 0 ≤ IntKind.u64.wrap x ∧ IntKind.u64.wrap x < 18446744073709551616 := by rw [IntKind.wrap_u64]; omega
  obtain ⟨y, hy⟩ := Int.eq_ofNat_of_zero_le (show 0 ≤ IntKind.u64.wrap x / 1099511627776 by omega)
  rw [hy]
  have h1 := bits_and_u64_nat y 255 (by omega) (by omega)
  have e : y &&& 255 = y % 256 := Nat.and_two_pow_sub_one_eq_mod y 8
  rw [e] at h1
  rw [show ((255 : Int)) = ((255 : Nat) : Int) from rfl, h1]
  omega
theorem next_ok (l : List Int) (hl : ∀ x ∈ l, 0 ≤ x ∧ x ≤ 255) (p s : Int) (h0 : 0 ≤ p) (h1 : p ≤ 1000000000000) :
    ∃ v s' : Int, spec_l1Cur_next.f l p s = some (v, p + 1, s') ∧ 0 ≤ v ∧ v ≤ 255 := by
  unfold spec_l1Cur_next.f
  rw [w64 (x := p + 1) (by omega) (by omega)]
  by_cases hp : p < (l.length : Int)
  · have hm := hl _ (rd_mem l p h0 hp)
    rw [if_pos hp, if_pos h0]
    by_cases hq : p + 1 ≤ (l.length : Int)
    · rw [if_pos hq]
      refine ⟨_, _, rfl, ?_⟩
      rw [w64 (by omega) (by omega)]
      exact hm
    · omega
  · rw [if_neg hp]
    by_cases hq : p + 1 ≤ (l.length : Int)
    · omega
    · rw [if_neg hq]
      refine ⟨_, _, rfl, ?_⟩
      have h := low_byte (IntKind.u64.wrap (IntKind.u64.wrap (s * 6364136223846793005)) + 1442695040888963407)
      rw [w64 (by omega) (by omega)]
      exact h
theorem pick_ok (l : List Int) (hl : ∀ x ∈ l, 0 ≤ x ∧ x ≤ 255) (p s n : Int) (h0 : 0 ≤ p) (h1 : p ≤ 999999999990) (hn : n ≤ 1000000) :
    ∃ v p' s' : Int, spec_l1Cur_pick.f l p s n = some (v, p', s') ∧ 0 ≤ v ∧ v ≤ 1000000 ∧ (v = 0 ∨ v < n) ∧ p ≤ p' ∧ p' ≤ p + 2 := by
  unfold spec_l1Cur_pick.f
  by_cases h : n ≤ 1
  · rw [if_pos h]
    exact ⟨0, p, s, rfl, by omega, by omega, by omega, by omega, by omega⟩
  · rw [if_neg h]
    obtain ⟨v, s1, e1, h2, h3⟩ := next_ok l hl p s h0 (by omega)
    rw [e1]
    simp only [Option.bind_some]
    by_cases h4 : n > 200
    · rw [if_pos h4]
      obtain ⟨v2, s2, e2, h5, h6⟩ := next_ok l hl (p + 1) s1 (by omega) (by omega)
      rw [e2]
      simp only [Option.bind_some]
      rw [if_neg (by omega), w64 (x := v * 256) (by omega) (by omega), w64 (by omega) (by omega)]
      have h7 := Int.tmod_nonneg n (show 0 ≤ v * 256 + v2 by omega)
      have h8 := Int.tmod_lt_of_pos (v * 256 + v2) (show 0 < n by omega)
      exact ⟨_, _, _, rfl, h7, by omega, Or.inr h8, by omega, by omega⟩
    · rw [if_neg h4, if_neg (by omega)]
      have h7 := Int.tmod_nonneg n (show 0 ≤ v by omega)
      have h8 := Int.tmod_lt_of_pos v (show 0 < n by omega)
      exact ⟨_, _, _, rfl, h7, by omega, Or.inr h8, by omega, by omega⟩
theorem among_ok (l : List Int) (hl : ∀ x ∈ l, 0 ≤ x ∧ x ≤ 255) (p s : Int) (m : List Int) (hm : m ≠ []) (hm2 : m.length ≤ 1000000) (h0 : 0 ≤ p) (h1 : p ≤ 999999999990) :
    ∃ v p' s' : Int, spec_l1Cur_among.f l p s m = some (v, p', s') ∧ v ∈ m ∧ p ≤ p' ∧ p' ≤ p + 2 := by
  unfold spec_l1Cur_among.f
  have hpos := List.length_pos_iff.2 hm
  obtain ⟨v, p', s', e1, h2, h3, h4, h5, h6⟩ := pick_ok l hl p s m.length h0 h1 (by omega)
  rw [e1]
  simp only [Option.bind_some]
  rw [if_pos h2, if_pos (by omega)]
  exact ⟨_, _, _, rfl, rd_mem m v h2 (by omega), h5, h6⟩

theorem said_l1 (l : List Int) (hl : ∀ x ∈ l, 0 ≤ x ∧ x ≤ 255) (d : Nat) : ∀ (L : List Int) (p s : Int), 0 ≤ p → p + 2 * (d : Int) ≤ 1000000 → L.length + d = 402 → ∃ (R : List Int) (p' s' : Int), Ev (fun k => spec_l1Cur_said.l1 k L l p s) (R, p', s') ∧ R.length ≤ 402 ∧ p ≤ p' ∧ p' ≤ p + 2 * ((d : Int) + 1) := by
  induction d with
  | zero =>
    intro L p s h0 h1 hL
    obtain ⟨v, p1, s1, e1, a1, _, c1, d1, f1⟩ := pick_ok l hl p s 2 h0 (by omega) (by omega)
    refine ⟨L, p1, s1, evs (fun k => by rw [spec_l1Cur_said.l1]) ?_, by omega, d1, by omega⟩
    simp only [e1, Option.bind_some]
    rw [w64 (x := (400 : Int) + v) (by omega) (by omega)]
    exact evn (by omega) (Ev.now _)
  | succ d ih =>
    intro L p s h0 h1 hL
    obtain ⟨v, p1, s1, e1, a1, _, c1, d1, f1⟩ := pick_ok l hl p s 2 h0 (by omega) (by omega)
    by_cases h : (L.length : Int) < 400 + v
    · obtain ⟨R, p2, s2, e2, h3, h4, h5⟩ := ih (L ++ [1 + ((L.length : Int) % 2)]) p1 s1 (by omega) (by omega) (by simp; omega)
      refine ⟨R, p2, s2, evs (fun k => by rw [spec_l1Cur_said.l1]) ?_, h3, by omega, by omega⟩
      simp only [e1, Option.bind_some]
      rw [w64 (x := (400 : Int) + v) (by omega) (by omega)]
      exact evp h (evp (by omega) e2)
    · refine ⟨L, p1, s1, evs (fun k => by rw [spec_l1Cur_said.l1]) ?_, by omega, d1, by omega⟩
      simp only [e1, Option.bind_some]
      rw [w64 (x := (400 : Int) + v) (by omega) (by omega)]
      exact evn h (Ev.now _)
theorem said_l0 (l : List Int) (hl : ∀ x ∈ l, 0 ≤ x ∧ x ≤ 255) (d : Nat) : ∀ (L : List Int) (p s : Int), 0 ≤ p → p + 2 * (d : Int) ≤ 1000 → L.length + d ≤ 20 → ∃ (R : List Int) (p' s' : Int), Ev (fun k => spec_l1Cur_said.l0 k L (d : Int) l p s) (R, p', s') ∧ R.length ≤ 402 ∧ p ≤ p' ∧ p' ≤ p + 2 * (d : Int) + 2000 := by
  induction d with
  | zero =>
    intro L p s h0 h1 hL
    obtain ⟨v, p1, s1, e1, a1, _, c1, d1, f1⟩ := pick_ok l hl p s 14 h0 (by omega) (by omega)
    by_cases g0 : v = 0
    · obtain ⟨x, p2, s2, e2, _, h2, h3⟩ := among_ok l hl p1 s1 [0, 10, (-1), 4611686018427387904] (by simp) (by simp) (by omega) (by omega)
      refine ⟨L ++ [x], p2, s2, evs (fun k => by rw [spec_l1Cur_said.l0]) (evn (by omega) ?_), by simp; omega, by omega, by omega⟩
      simp only [e1, e2, Option.bind_some]
      exact evp g0 (evp (by omega) (Ev.now _))
    · by_cases g1 : v = 1
      · obtain ⟨R, p2, s2, e2, h2, h3, h4⟩ := said_l1 l hl (402 - L.length) L p1 s1 (by omega) (by omega) (by omega)
        refine ⟨R, p2, s2, evs (fun k => by rw [spec_l1Cur_said.l0]) (evn (by omega) ?_), h2, by omega, by omega⟩
        simp only [e1, Option.bind_some]
        exact evn g0 (evp g1 e2)
      · by_cases g2 : v = 2
        · refine ⟨[1, 1, 1, 1, 1, 1, 1, 1, 1, 1], p1, s1, evs (fun k => by rw [spec_l1Cur_said.l0]) (evn (by omega) ?_), by simp, by omega, by omega⟩
          simp only [e1, Option.bind_some]
          exact evn g0 (evn g1 (evp g2 (Ev.now _)))
        · refine ⟨L, p1, s1, evs (fun k => by rw [spec_l1Cur_said.l0]) (evn (by omega) ?_), by omega, by omega, by omega⟩
          simp only [e1, Option.bind_some]
          exact evn g0 (evn g1 (evn g2 (Ev.now _)))
  | succ d ih =>
    intro L p s h0 h1 hL
    obtain ⟨x, p1, s1, e1, _, h2, h3⟩ := among_ok l hl p s [1, 1, 1, 2, 2, 3, 9] (by simp) (by simp) h0 (by omega)
    obtain ⟨R, p2, s2, e2, g1, g2, g3⟩ := ih (L ++ [x]) p1 s1 (by omega) (by omega) (by simp; omega)
    refine ⟨R, p2, s2, evs (fun k => by rw [spec_l1Cur_said.l0]) (evp (by omega) ?_), g1, by omega, by omega⟩
    simp only [e1, Option.bind_some]
    rw [w64 (x := (((d + 1 : Nat)) : Int) - 1) (by omega) (by omega), show (((d + 1 : Nat)) : Int) - 1 = (d : Int) by omega]
    exact evp (by omega) e2
theorem drawSaid_ok (l : List Int) (hl : ∀ x ∈ l, 0 ≤ x ∧ x ≤ 255) (p s : Int) (h0 : 0 ≤ p) (h1 : p ≤ 900) : ∃ (R : List Int) (p' s' : Int), Ev (fun k => spec_l1Cur_said.f k l p s) (R, p', s') ∧ R.length ≤ 402 ∧ p ≤ p' ∧ p' ≤ p + 3000 := by
  obtain ⟨v, p1, s1, e1, a1, _, c1, d1, f1⟩ := pick_ok l hl p s 9 h0 (by omega) (by omega)
  obtain ⟨d, rfl⟩ := natOf (a := v) a1
  obtain ⟨R, p2, s2, e2, g1, g2, g3⟩ := said_l0 l hl d [] p1 s1 (by omega) (by omega) (by simp; omega)
  refine ⟨R, p2, s2, ?_, g1, by omega, by omega⟩
  simp only [spec_l1Cur_said.f, e1, Option.bind_some]
  exact e2

theorem laws_qSame_loop (post : List Int) : ∀ (pre post' : List Int), post'.length = post.length → (pre ++ post).length ≤ 4611686018427387904 →
    Ev (fun k => laws_qSame.l0 k (pre ++ post) (pre ++ post') ((pre ++ post).length : Int) (pre.length : Int)) (decide (post = post')) := by
  induction post with
  | nil =>
    intro pre post' hl h
    obtain rfl : post' = [] := List.eq_nil_of_length_eq_zero hl
    refine evs (fun k => by rw [laws_qSame.l0]) ?_
    exact evn (by simp) (evr (by simp))
  | cons x post ih =>
    intro pre post' hl h
    obtain ⟨y, post', rfl⟩ : ∃ y z, post' = y :: z := by cases post' with
      | nil => simp at hl
      | cons y z => exact ⟨y, z, rfl⟩
    refine evs (fun k => by rw [laws_qSame.l0]) ?_
    refine evp (by simp; omega) (evp (by omega) (evp (by simp; omega) (evp (by simp; omega) ?_)))
    rw [rd_mid, rd_mid]
    by_cases he : x = y
    · subst he
      refine evp rfl ?_
      have h2 := ih (pre ++ [x]) post' (by simpa using hl) (by simpa using h)
      simp only [List.append_assoc, List.singleton_append] at h2
      rw [w64 (by omega) (by simp at h; omega)]
      simpa using h2
    · exact evn he (evr (by simp [he]))
theorem laws_qSame_ev (l l' : List Int) (h : l.length ≤ 4611686018427387904) : Ev (fun k => laws_qSame.f k l l') (decide (l = l')) := by
  unfold laws_qSame.f
  by_cases hl : l.length = l'.length
  · exact evp (by omega) (by simpa using laws_qSame_loop l [] l' hl.symm (by simpa using h))
  · exact evn (by omega) (evr (by symm; rw [decide_eq_false_iff_not]; exact fun e => hl (by rw [e])))
theorem laws_qSame_self (l : List Int) (h : l.length ≤ 4611686018427387904) : Ev (fun k => laws_qSame.f k l l) true := by simpa using laws_qSame_ev l l h

/-- What SayWord tells. -/
def sayR (w : List Int) : List Int × Bool := if goodC w = true then (if (sayFin [] (sayC w)).2 = true then ((sayFin [] (sayC w)).1, true) else ([], false)) else ([], false)
theorem say_ev (w : List Int) (hw : w.length ≤ 1000000) : Ev (fun k => spec_SayWord.f k w) (sayR w) ∧ Ev (fun k => impl_SayWord.f k w) (sayR w) := by
  simp only [spec_SayWord.f, impl_SayWord.f, isSaid_eq, Option.bind_some]
  unfold sayR
  by_cases hg : goodC w = true
  · rw [if_pos hg]
    by_cases hf : (sayFin [] (sayC w)).2 = true
    · rw [if_pos hf]
      exact ⟨evb (teGood_ev w (by omega)) (evp hg (evb (teSay_ev w hw) (evp hf (Ev.now _)))), evp hg (evb (said_ev w hw) (evp hf (Ev.now _)))⟩
    · rw [if_neg hf]
      exact ⟨evb (teGood_ev w (by omega)) (evp hg (evb (teSay_ev w hw) (evn hf (Ev.now _)))), evp hg (evb (said_ev w hw) (evn hf (Ev.now _)))⟩
  · rw [if_neg hg]
    exact ⟨evb (teGood_ev w (by omega)) (evn hg (Ev.now _)), evn hg (Ev.now _)⟩
theorem sayR_some {w o : List Int} (hg : goodC w = true) (h : sayC w = some o) (h4 : o.length ≤ 400) : sayR w = (o, true) := by
  unfold sayR
  rw [if_pos hg, h]
  simp [sayFin]
  omega
theorem sayR_yes {w : List Int} (h : (sayR w).2 = true) : goodC w = true ∧ ∃ o, sayC w = some o ∧ o.length ≤ 400 ∧ sayR w = (o, true) := by
  by_cases hg : goodC w = true
  · refine ⟨hg, ?_⟩
    cases hs : sayC w with
    | none =>
      unfold sayR at h
      rw [if_pos hg, hs] at h
      simp [sayFin] at h
    | some o =>
      have h4 : o.length ≤ 400 := by
        unfold sayR at h
        rw [if_pos hg, hs] at h
        by_cases h4 : o.length ≤ 400
        · exact h4
        · have e : (sayFin [] (some o)).2 = false := decide_eq_false (by simp; omega)
          rw [if_neg (by rw [e]; simp)] at h
          simp at h
      exact ⟨o, rfl, h4, sayR_some hg hs h4⟩
  · unfold sayR at h
    rw [if_neg hg] at h
    simp at h
theorem sayR_len (w : List Int) : (sayR w).1.length ≤ 400 := by
  by_cases h : (sayR w).2 = true
  · obtain ⟨_, o, _, h4, e⟩ := sayR_yes h
    rw [e]
    exact h4
  · unfold sayR at h ⊢
    split
    · rename_i hg
      rw [if_pos hg] at h
      split
      · rename_i hf
        rw [if_pos hf] at h
        exact absurd rfl h
      · simp
    · simp
theorem goodC_of {o : List Int} (h4 : o.length ≤ 400) (h : ∀ z ∈ o, 1 ≤ z ∧ z ≤ 9) : goodC o = true := by
  unfold goodC
  simp only [Bool.and_eq_true, List.all_eq_true, decide_eq_true_eq]
  exact ⟨h4, h⟩
theorem said_good {w o : List Int} (hg : goodC w = true) (h : sayC w = some o) (h4 : o.length ≤ 400) : goodC o = true := by
  refine goodC_of h4 fun z hz => ?_
  rcases (say_unsay h).2.2 z hz with h1 | h1
  · exact h1
  · exact goodC_all hg z h1
theorem unsayR_said {w o : List Int} (hg : goodC w = true) (h : sayC w = some o) (h4 : o.length ≤ 400) : unsayR o = (w, true) := by
  obtain ⟨h1, h2, _⟩ := say_unsay h
  have := goodC_len hg
  unfold unsayR
  rw [if_pos ⟨said_good hg h h4, h2, by rw [h1]; exact this⟩, h1]
theorem unsayR_len (l : List Int) : (unsayR l).1.length ≤ 400 := by
  unfold unsayR
  split
  · rename_i h
    exact h.2.2
  · simp
theorem rows_loop (whole : List (List Int)) (hr : ∀ x ∈ whole, x.length ≤ 1000000) (post : List (List Int)) : ∀ pre : List (List Int), whole = pre ++ post → whole.length ≤ 1000000 →
    Ev (fun k => laws_qSameRows.l0 k whole whole (whole.length : Int) (pre.length : Int)) true := by
  induction post with
  | nil =>
    intro pre hw h
    refine evs (fun k => by rw [laws_qSameRows.l0]) ?_
    exact evn (by simp [hw]) (Ev.now _)
  | cons x post ih =>
    intro pre hw h
    have hl : whole.length = pre.length + (post.length + 1) := by simp [hw]
    have hx : rd_L2 whole (pre.length : Int) = x := by rw [hw]; exact rd_L1_mid pre post x
    have h2 := ih (pre ++ [x]) (by simp [hw]) h
    have hxl := hr x (by rw [hw]; simp)
    refine evs (fun k => by rw [laws_qSameRows.l0]) ?_
    rw [hx, w64 (x := (pre.length : Int) + 1) (by omega) (by omega)]
    refine evp (by omega) (evp (by omega) (evp (by omega) (evp (by omega) (evb (laws_qSame_self _ (by omega)) (evp rfl ?_)))))
    simpa using h2
theorem rows_self (rows : List (List Int)) (hr : ∀ x ∈ rows, x.length ≤ 1000000) (h : rows.length ≤ 1000000) : Ev (fun k => laws_qSameRows.f k rows rows) true := by
  unfold laws_qSameRows.f
  exact evp rfl (by simpa using rows_loop rows hr rows [] rfl h)
/-- Each row says the next one. -/
theorem runS_chain (n : Nat) : ∀ (cur : List Int) (r : List (List Int)), goodC cur = true → runS n cur = some r → ∀ k, k + 1 < (cur :: r).length → sayR ((cur :: r).getD k []) = ((cur :: r).getD (k + 1) [], true) := by
  induction n with
  | zero =>
    intro cur r _ h k hk
    have := (runS_length 0 cur r h).1
    simp only [List.length_cons] at hk
    omega
  | succ n ih =>
    intro cur r hg h k hk
    simp only [runS] at h
    cases hs : sayC cur with
    | none => rw [hs] at h; cases h
    | some o =>
      rw [hs] at h
      simp only at h
      split at h
      · rename_i h4
        obtain ⟨r', h1, rfl⟩ := Option.map_eq_some_iff.1 h
        cases k with
        | zero => simpa using sayR_some hg hs h4
        | succ k =>
          have h5 := ih o r' (said_good hg hs h4) h1 k (by simpa using hk)
          simpa using h5
      · cases h
theorem getD_rd (rows : List (List Int)) (k : Nat) : rd_L2 rows (k : Int) = rows.getD k [] := by simp [rd_L2]
theorem l1_ok (rows : List (List Int)) (hl : rows.length ≤ 31) (hr : ∀ x ∈ rows, x.length ≤ 400) (hc : ∀ k, k + 1 < rows.length → sayR (rows.getD k []) = (rows.getD (k + 1) [], true)) (d : Nat) : ∀ k : Nat, k + d = rows.length →
    Ev (fun f => laws_FnWordsSay.l1 f rows (rows.map (fun x => (x.length : Int))) rows (rows.length : Int) (k : Int)) true := by
  induction d with
  | zero =>
    intro k hk
    refine evs (fun k => by rw [laws_FnWordsSay.l1]) ?_
    exact evn (by omega) (Ev.now _)
  | succ d ih =>
    intro k hk
    have h1 := ih (k + 1) (by omega)
    have hk2 : k < rows.length := by omega
    have hm : rd (rows.map (fun x => (x.length : Int))) (k : Int) = ((rd_L2 rows (k : Int)).length : Int) := by
      rw [getD_rd, rd_get _ _ (by simpa using hk2)]
      simp [List.getD_eq_getElem?_getD, hk2]
    have hlen : (rd_L2 rows (k : Int)).length ≤ 400 := by
      rw [getD_rd, List.getD_eq_getElem?_getD, List.getElem?_eq_getElem hk2]
      exact hr _ (List.getElem_mem hk2)
    refine evs (fun k => by rw [laws_FnWordsSay.l1]) ?_
    rw [hm, w64 (x := (k : Int) + 1) (by omega) (by omega), show (k : Int) + 1 = ((k + 1 : Nat) : Int) by omega]
    refine evp (by omega) (evp (by omega) (evp (by omega) (evp (by simp; omega) (evp rfl ?_))))
    by_cases h0 : (k : Int) > 0
    · have e2 : wrap64 ((k : Int) - 1) = ((k - 1 : Nat) : Int) := by rw [w64 (by omega) (by omega)]; omega
      have hs := hc (k - 1) (by omega)
      rw [show k - 1 + 1 = k by omega] at hs
      have hlen2 : (rows.getD (k - 1) []).length ≤ 400 := by
        rw [List.getD_eq_getElem?_getD, List.getElem?_eq_getElem (by omega)]
        exact hr _ (List.getElem_mem _)
      have hsay := (say_ev (rows.getD (k - 1) []) (by omega)).2
      rw [hs] at hsay
      rw [e2, getD_rd rows (k - 1), getD_rd rows k]
      rw [getD_rd rows k] at hlen
      clear e2
      exact evp h0 (evp (by omega) (evp (by omega) (evb hsay (evp rfl (evb (laws_qSame_self _ (by simp only; omega)) (evp rfl h1))))))
    · exact evn h0 h1
theorem drawSayRun_ok (l : List Int) (hl : ∀ x ∈ l, 0 ≤ x ∧ x ≤ 255) : ∃ (L : List Int) (n : Int), L.length ≤ 402 ∧ Ev (fun k => spec_DrawSayRun.f k l) (L, n) := by
  obtain ⟨v1, p1, s1, e1, a1, b1, c1, d1, f1⟩ := pick_ok l hl 0 0 10 (by omega) (by omega) (by omega)
  obtain ⟨L, p2, s2, e2, h2, h3, h4⟩ := drawSaid_ok l hl p1 s1 (by omega) (by omega)
  simp only [spec_DrawSayRun.f, spec_l1Cur_one.f, e1, Option.bind_some]
  by_cases h : (v1 == 0) = true
  · obtain ⟨n, p3, s3, e3, _⟩ := among_ok l hl p2 s2 [(-1), 30, 31] (by simp) (by simp) (by omega) (by omega)
    refine ⟨L, n, h2, evp h (evb e2 ?_)⟩
    simp only [e3, Option.bind_some]
    exact Ev.now _
  · obtain ⟨n, p3, s3, e3, _⟩ := pick_ok l hl p2 s2 9 (by omega) (by omega) (by omega)
    refine ⟨L, n, h2, evn h (evb e2 ?_)⟩
    simp only [e3, Option.bind_some]
    exact Ev.now _
theorem specSayRun_ev (l : List Int) (steps : Int) (hl : l.length ≤ 1000000) : Ev (fun k => spec_SayRun.f k l steps) (sayRunC l steps) := by
  unfold spec_SayRun.f sayRunC
  simp only [spec_l1In_eq, Option.bind_some, decide_eq_true_eq]
  refine evb (teGood_ev l (by omega)) ?_
  by_cases hg : goodC l = true
  · rw [if_pos hg]
    by_cases hs : 0 ≤ steps ∧ steps ≤ 30
    · rw [if_pos hs]
      obtain ⟨n, rfl⟩ := natOf (a := steps) (by omega)
      rw [Int.toNat_natCast]
      exact evp hg (evp hs (evb (teRun_ev l n (by omega) (goodC_len hg)) (Ev.now _)))
    · rw [if_neg hs]
      exact evp hg (evn hs (Ev.now _))
  · rw [if_neg hg]
    exact evn hg (Ev.now _)
theorem sayRunC_rows (l : List Int) (steps : Int) (hl : l.length ≤ 402) : ∀ x ∈ (sayRunC l steps).1, x.length ≤ 1000000 := by
  intro x hx
  unfold sayRunC at hx
  split at hx
  · split at hx
    · cases hr : runS steps.toNat l with
      | none => rw [hr] at hx; simp [runFin] at hx
      | some r =>
        rw [hr] at hx
        simp only [runFin, List.nil_append] at hx
        rcases List.mem_cons.1 hx with rfl | hx
        · omega
        · have := (runS_length _ _ _ hr).2 x hx
          omega
    · simp at hx
  · simp at hx
theorem j5_ok (l : List Int) (hl : ∀ x ∈ l, 0 ≤ x ∧ x ≤ 255) : Ev (fun k => laws_FnWordsSay.j5 k l) true := by
  obtain ⟨L, n, hL, e⟩ := drawSayRun_ok l hl
  have h31 := sayRunC_len L n
  have h32 := lengthsC_len L n
  refine evs (fun k => by rw [laws_FnWordsSay.j5]) ?_
  refine evb e (evb (implSayRun_ev L n (by omega)) (evb (specSayRun_ev L n (by omega)) (evb (implLengths_ev L n (by omega)) (evb (specLengths_ev L n (by omega)) ?_))))
  refine evn (by simp) (evb (rows_self _ (sayRunC_rows L n hL) (by omega)) (evp rfl (evn (by simp) (evb (laws_qSame_self _ (by omega)) (evp rfl ?_)))))
  have e2 : ((lengthsC L n).2 != (sayRunC L n).2) = false := by
    unfold lengthsC
    by_cases h : (sayRunC L n).2 = true
    · rw [if_pos h, h]; rfl
    · rw [if_neg h]
      simp only [Bool.not_eq_true] at h
      rw [h]
      rfl
  rw [e2]
  refine evs (fun k => by rw [laws_FnWordsSay.j6]) ?_
  refine evn (by simp) ?_
  by_cases h : (sayRunC L n).2 = true
  · have hlc : (lengthsC L n).1 = (sayRunC L n).1.map (fun x => (x.length : Int)) := by
      unfold lengthsC
      rw [if_pos h]
    rw [hlc]
    have key : goodC L = true ∧ ∃ (m : Nat) (r : List (List Int)), n = (m : Int) ∧ m ≤ 30 ∧ runS m L = some r ∧ (sayRunC L n).1 = L :: r := by
      unfold sayRunC at h ⊢
      by_cases hg : goodC L = true
      · rw [if_pos hg] at h ⊢
        by_cases hs : 0 ≤ n ∧ n ≤ 30
        · rw [if_pos hs] at h ⊢
          obtain ⟨m, rfl⟩ := natOf (a := n) (by omega)
          rw [Int.toNat_natCast] at h ⊢
          cases hr : runS m L with
          | none => rw [hr] at h; simp [runFin] at h
          | some r => exact ⟨hg, m, r, rfl, by omega, hr, by simp [runFin]⟩
        · rw [if_neg hs] at h
          simp at h
      · rw [if_neg hg] at h
        simp at h
    obtain ⟨hg, m, r, rfl, hm, hr, hrows⟩ := key
    rw [hrows]
    obtain ⟨g1, g2⟩ := runS_length m L r hr
    have h0 : rd_L2 (L :: r) 0 = L := by simp [rd_L2]
    have hlen := goodC_len hg
    rw [h0, w64 (x := (m : Int) + 1) (by omega) (by omega)]
    refine evp h (evp (by simp only [List.length_cons]; omega) (evp (by simp only [List.length_cons]; omega) (evb (laws_qSame_self _ (by omega)) ?_)))
    refine evs (fun k => by rw [laws_FnWordsSay.j7]) ?_
    exact evn (by simp) (l1_ok (L :: r) (by simp only [List.length_cons]; omega) (fun x hx => by
      rcases List.mem_cons.1 hx with rfl | hx
      · exact hlen
      · exact g2 x hx) (runS_chain m L r hg hr) (L :: r).length 0 (by omega))
  · exact evn h (Ev.now _)
theorem drawUnsay_ok (l : List Int) (hl : ∀ x ∈ l, 0 ≤ x ∧ x ≤ 255) : ∃ L : List Int, L.length ≤ 1000 ∧ Ev (fun k => spec_DrawUnsayWord.f k l) L := by
  obtain ⟨R, p, s, e, h1, h2, h3⟩ := drawSaid_ok l hl 0 0 (by omega) (by omega)
  have no : Ev (fun k => spec_DrawUnsayWord.j0 k R false) R := by
    refine evs (fun k => by rw [spec_DrawUnsayWord.j0]) ?_
    exact evn (by simp) (Ev.now _)
  unfold spec_DrawUnsayWord.f
  by_cases hg : goodC R = true
  · obtain ⟨v1, p1, s1, e1, _⟩ := pick_ok l hl p s 3 (by omega) (by omega) (by omega)
    have hj : ∀ t : Bool, ∃ L : List Int, L.length ≤ 1000 ∧ Ev (fun k => spec_DrawUnsayWord.j0 k R t) L := by
      intro t
      cases t with
      | false => exact ⟨R, by omega, no⟩
      | true =>
        by_cases hf : (sayFin [] (sayC R)).2 = true
        · refine ⟨(sayFin [] (sayC R)).1, ?_, ?_⟩
          · cases hs : sayC R with
            | none => simp [sayFin]
            | some o =>
              have := sayC_length R o hs
              simp only [sayFin, List.nil_append]
              omega
          · refine evs (fun k => by rw [spec_DrawUnsayWord.j0]) ?_
            exact evp rfl (evb (teSay_ev R (by omega)) (evp hf (Ev.now _)))
        · refine ⟨R, by omega, ?_⟩
          refine evs (fun k => by rw [spec_DrawUnsayWord.j0]) ?_
          exact evp rfl (evb (teSay_ev R (by omega)) (evn hf (Ev.now _)))
    obtain ⟨L, hL, hLe⟩ := hj (!(v1 == 0))
    refine ⟨L, hL, evb e (evb (teGood_ev R (by omega)) (evp hg ?_))⟩
    simp only [spec_l1Cur_one.f, e1, Option.bind_some]
    exact hLe
  · exact ⟨R, by omega, evb e (evb (teGood_ev R (by omega)) (evn hg no))⟩
theorem j3_ok (l : List Int) (hl : ∀ x ∈ l, 0 ≤ x ∧ x ≤ 255) : Ev (fun k => laws_FnWordsSay.j3 k l) true := by
  obtain ⟨L, hL, e⟩ := drawUnsay_ok l hl
  obtain ⟨hs, hi⟩ := unsay_full L (by omega)
  have hlen := unsayR_len L
  refine evs (fun k => by rw [laws_FnWordsSay.j3]) ?_
  refine evb e (evb hi (evb hs (evn (by simp) (evb (laws_qSame_self _ (by omega)) ?_))))
  refine evs (fun k => by rw [laws_FnWordsSay.j4]) ?_
  refine evn (by simp) ?_
  by_cases h : goodC L = true ∧ altL none L = true ∧ (unsayL L).length ≤ 400
  · have hr : unsayR L = (unsayL L, true) := by unfold unsayR; rw [if_pos h]
    rw [hr]
    have hall := goodC_all h.1
    have hg : goodC (unsayL L) = true := goodC_of h.2.2 (fun z hz => hall z (unsayL_mem L z hz))
    have hsay := (say_ev (unsayL L) (by omega)).2
    rw [sayR_some hg (unsay_say hall h.2.1) (goodC_len h.1)] at hsay
    exact evp rfl (evb hsay (evp rfl (evb (laws_qSame_self _ (by simp only; omega)) (evp rfl (j5_ok l hl)))))
  · have hr : unsayR L = ([], false) := by unfold unsayR; rw [if_neg h]
    rw [hr]
    exact evn (by simp) (j5_ok l hl)
theorem l0_ok (l : List Int) (hl : ∀ x ∈ l, 0 ≤ x ∧ x ≤ 255) (w o : List Int) (ho : o.length ≤ 400) (hg : ∀ z ∈ o, 1 ≤ z ∧ z ≤ 9) (hev : o.length % 2 = 0) (d : Nat) : ∀ (i t : Nat), i + 2 * d = o.length → t ≤ 9 * i → t + (unsayL (o.drop i)).length = w.length →
    Ev (fun k => laws_FnWordsSay.l0 k l w o (t : Int) (i : Int)) true := by
  induction d with
  | zero =>
    intro i t hi ht h
    have hd : o.drop i = [] := List.drop_of_length_le (by omega)
    rw [hd] at h
    simp only [unsayL, List.length_nil] at h
    refine evs (fun k => by rw [laws_FnWordsSay.l0]) ?_
    exact evn (by omega) (evp (by omega) (j3_ok l hl))
  | succ d ih =>
    intro i t hi ht h
    have hv := hg _ (rd_mem o (i : Int) (by omega) (by omega))
    have hd2 := drop_two o i (by omega)
    obtain ⟨v, hv2⟩ := natOf (a := rd o (i : Int)) (by omega)
    rw [hv2] at hv hd2
    rw [hd2] at h
    simp only [unsayL, Int.toNat_natCast, List.length_append, List.length_replicate] at h
    have h1 := ih (i + 2) (t + v) (by omega) (by omega) (by omega)
    refine evs (fun k => by rw [laws_FnWordsSay.l0]) ?_
    rw [hv2, w64 (x := (t : Int) + (v : Int)) (by omega) (by omega), w64 (x := (i : Int) + 2) (by omega) (by omega), show (t : Int) + (v : Int) = ((t + v : Nat) : Int) by omega, show (i : Int) + 2 = ((i + 2 : Nat) : Int) by omega]
    exact evp (by omega) (evp (by omega) h1)
theorem FnWordsSay : laws_FnWordsSay.Pure := by
  intro l0 l1 _ _ w0 _ _ w1
  have hb : ∀ l : List Int, (∀ x ∈ l, (Lit.int .u8 x).wf = true) → ∀ x ∈ l, 0 ≤ x ∧ x ≤ 255 := by
    intro l h x hx
    have := h x hx
    simpa [Lit.wf, IntKind.min, IntKind.max, IntKind.signed, IntKind.bits] using this
  have hl0 := hb l0 w0
  have hl1 := hb l1 w1
  refine Ev.rounds (g := fun k => laws_FnWordsSay.f k l0 l1) ?_
  unfold laws_FnWordsSay.f
  obtain ⟨t, ht⟩ : ∃ t, laws_big.f l0 l1 = some t := by
    unfold laws_big.f
    split <;> exact ⟨_, rfl⟩
  rw [ht]
  simp only [Option.bind_some]
  cases t with
  | true => exact evp rfl (Ev.now _)
  | false =>
    refine evn (by simp) ?_
    obtain ⟨w, p, s, e, h1, h2, h3⟩ := drawSaid_ok l0 hl0 0 0 (by omega) (by omega)
    obtain ⟨hs, hi⟩ := say_ev w (by omega)
    have hlen := sayR_len w
    refine evb (a := w) (evb e (Ev.now _)) (evb hi (evb hs (evn (by simp) (evb (laws_qSame_self _ (by omega)) ?_))))
    refine evs (fun k => by rw [laws_FnWordsSay.j0]) ?_
    refine evn (by simp) ?_
    by_cases h : (sayR w).2 = true
    · obtain ⟨hg, o, ho, h4, hr⟩ := sayR_yes h
      rw [hr]
      have hu := (unsay_full o (by omega)).2
      rw [unsayR_said hg ho h4] at hu
      obtain ⟨g1, g2, g3⟩ := say_unsay ho
      have hev := altL_even o _ g2
      have hwl := goodC_len hg
      have e2 : (((o.length : Int) % 2) != 0) = false := by
        simp only [bne_eq_false_iff_eq]
        omega
      refine evp rfl (evb hu (evp rfl (evb (laws_qSame_self _ (by simp only; omega)) (evp rfl ?_))))
      simp only [e2]
      refine evs (fun k => by rw [laws_FnWordsSay.j1]) ?_
      exact evn (by simp) (l0_ok l1 hl1 w o h4 (goodC_all (said_good hg ho h4)) hev (o.length / 2) 0 0 (by omega) (by omega) (by rw [List.drop_zero, g1]; omega))
    · exact evn h (j3_ok l1 hl1)

end Go.Proofs.Ytiheocddlopfcaa.Pure
