/- For every list of at most 2^20 numbers and all numbers of steps, SayRun of the program and of the reference agree, the list is not changed, and what the program returns is memory of its own. -/
import Derived.Test.YtnmoafgfnlpfjaaPFnExactSayRunx5
import Derived.Test.YtnmoafgfnlpfjaaWMore
set_option linter.unusedVariables false
set_option linter.unusedSimpArgs false
namespace Go.Proofs.Ytnmoafgfnlpfjaa.Pure
open Go.RowKit Go.Proofs.Ytnmoafgfnlpfjaa.PFnExactSayRun Go.Proofs.YtnmoafgfnlpfjaaW.PrintWords Go.Proofs.YtnmoafgfnlpfjaaW.PrintLast

theorem w64 {x : Int} (h1 : -9223372036854775808 ≤ x) (h2 : x ≤ 9223372036854775807) : wrap64 x = x := by unfold wrap64; omega

theorem evp {α : Type} {c : Prop} [Decidable c] {a b : Nat → Option α} {r : α} (h : c) (k : Ev a r) : Ev (fun n => if c then a n else b n) r := Ev.congr (fun _ => if_pos h) k
theorem evn {α : Type} {c : Prop} [Decidable c] {a b : Nat → Option α} {r : α} (h : ¬ c) (k : Ev b r) : Ev (fun n => if c then a n else b n) r := Ev.congr (fun _ => if_neg h) k
theorem evr {α : Type} {x r : α} (h : x = r) : Ev (fun _ => some x) r := h ▸ Ev.now x
theorem evb {α β : Type} {g : Nat → Option α} {f : Nat → α → Option β} {a : α} {r : β} (h : Ev g a) (k : Ev (fun n => f n a) r) : Ev (fun n => (g n).bind fun x => f n x) r := Ev.bind h k
theorem evs {α : Type} {g f : Nat → Option α} {r : α} (h : ∀ k, g (k + 1) = f k) (k : Ev f r) : Ev g r := Ev.step h k
theorem rd_mid (pre post : List Int) (x : Int) : rd (pre ++ x :: post) (pre.length : Int) = x := by simp [rd]
theorem rd_mid' (pre post : List Int) (x i : Int) (h : i = pre.length) : rd (pre ++ x :: post) i = x := by subst h; exact rd_mid pre post x
theorem set_midI {α : Type} (pre post : List α) (x y : α) (i : Int) (h : i = pre.length) : (pre ++ x :: post).set i.toNat y = pre ++ y :: post := by subst h; simp
def iota (m : Int) : Nat → List Int
  | 0 => []
  | n + 1 => m :: iota (m + 1) n
def sayS : List Int → Int → Nat → Option (List Int)
  | [], x, n => if n > 9 then none else some [(n : Int), x]
  | y :: t, x, n => if y = x then sayS t x (n + 1) else if n > 9 then none else (sayS t y 1).map fun o => (n : Int) :: x :: o
def sayC : List Int → Option (List Int)
  | [] => some []
  | x :: t => sayS t x 1
def sayFin (out : List Int) : Option (List Int) → List Int × Bool
  | none => ([], false)
  | some o => (out ++ o, decide (((out ++ o).length : Int) ≤ 400))
theorem sayS_big (l : List Int) : ∀ (x : Int) (n : Nat), n > 9 → sayS l x n = none := by
  induction l with
  | nil => intro x n h; simp [sayS, h]
  | cons y t ih =>
    intro x n h
    simp only [sayS]
    split
    · exact ih x (n + 1) (by omega)
    · rfl
def longC (l : List Int) : Bool := (sayC l).isNone
def runS : Nat → List Int → Option (List (List Int))
  | 0, cur => if longC cur = true then none else some []
  | n + 1, cur => match sayC cur with
    | none => none
    | some o => if o.length ≤ 400 then (runS n o).map fun r => o :: r else none
theorem runS_long (n : Nat) (cur : List Int) (h : longC cur = true) : runS n cur = none := by
  cases n with
  | zero => simp [runS, h]
  | succ n =>
    have : sayC cur = none := by simpa [longC] using h
    simp [runS, this]
theorem runS_length (n : Nat) : ∀ (cur : List Int) (r : List (List Int)), runS n cur = some r → r.length = n ∧ ∀ x ∈ r, x.length ≤ 400 := by
  induction n with
  | zero =>
    intro cur r h
    simp only [runS] at h
    split at h
    · cases h
    · injection h with h
      subst h
      simp
  | succ n ih =>
    intro cur r h
    simp only [runS] at h
    cases hs : sayC cur with
    | none => rw [hs] at h; cases h
    | some o =>
      rw [hs] at h
      simp only at h
      split at h
      · rename_i h4
        obtain ⟨r', h1, rfl⟩ := Option.map_eq_some_iff.1 h
        obtain ⟨h2, h3⟩ := ih o r' h1
        refine ⟨by simp [h2], fun x hx => ?_⟩
        rcases List.mem_cons.1 hx with rfl | hx
        · exact h4
        · exact h3 x hx
      · cases h
def runFin (rows : List (List Int)) (cur : List Int) : Option (List (List Int)) → List (List Int) × Bool
  | none => ([], false)
  | some r => (rows ++ cur :: r, true)

theorem impl_in_eq (a b c : Int) : impl_in.f a b c = some (decide (b ≤ a ∧ a ≤ c)) := by
  unfold impl_in.f
  by_cases h : b ≤ a <;> simp [h]
theorem spec_l1In_eq (a b c : Int) : spec_l1In.f a b c = some (decide (b ≤ a ∧ a ≤ c)) := by
  unfold spec_l1In.f
  by_cases h : b ≤ a <;> simp [h]

theorem natOf {a : Int} (h : 0 ≤ a) : ∃ n : Nat, a = (n : Int) := ⟨a.toNat, by omega⟩

theorem l1Own_ev (l : List Int) (h : l.length ≤ 1000000) : spec_l1Own.f l = some l := by
  unfold spec_l1Own.f
  simp only [Option.bind_some, List.nil_append, List.length_nil]
  rw [if_pos (by omega)]
theorem clone_ev (l : List Int) (h : l.length ≤ 1000000) : slices_Clone_int_int.f l = some l := by
  unfold slices_Clone_int_int.f
  rw [if_pos (by omega)]

theorem rep_at (pre rest : List Int) (x : Int) (n : Nat) (hn : 1 ≤ n) : rd (pre ++ (List.replicate n x ++ rest)) (pre.length : Int) = x := by
  obtain ⟨n, rfl⟩ : ∃ m, n = m + 1 := ⟨n - 1, by omega⟩
  rw [List.replicate_succ, List.cons_append, rd_mid]
theorem rep_next (pre rest : List Int) (x y : Int) (n : Nat) : rd (pre ++ (List.replicate n x ++ y :: rest)) ((pre.length : Int) + (n : Int)) = y := by
  have e : pre ++ (List.replicate n x ++ y :: rest) = (pre ++ List.replicate n x) ++ y :: rest := by simp
  rw [e]
  exact rd_mid' _ _ _ _ (by simp)
theorem teSay_loop (whole : List Int) (hlen : whole.length ≤ 1000000) (rest : List Int) : ∀ (pre : List Int) (x : Int) (n : Nat) (out : List Int), whole = pre ++ (List.replicate n x ++ rest) → 1 ≤ n → out.length ≤ 2 * pre.length →
    Ev (fun k => spec_teSay.l1 k whole out (pre.length : Int) (n : Int)) (sayFin out (sayS rest x n)) := by
  induction rest with
  | nil =>
    intro pre x n out hw hn ho
    have hl : whole.length = pre.length + n := by simp [hw]
    have hx : rd whole (pre.length : Int) = x := by rw [hw]; exact rep_at pre [] x n hn
    refine evs (fun k => by rw [spec_teSay.l1]) ?_
    rw [hx, w64 (x := (pre.length : Int) + (n : Int)) (by omega) (by omega)]
    refine evn (by omega) ?_
    by_cases h9 : n > 9
    · exact evp (by omega) (evr (by simp [sayS, h9, sayFin]))
    · refine evn (by omega) (evp (by omega) (evp (by omega) ?_))
      simp only [Option.bind_some]
      refine evp (by simp <;> omega) (evs (fun k => by rw [spec_teSay.l0]) ?_)
      exact evn (by omega) (evr (by simp [sayS, h9, sayFin]))
  | cons y t ih =>
    intro pre x n out hw hn ho
    have hl : whole.length = pre.length + (n + (t.length + 1)) := by simp [hw]
    have hx : rd whole (pre.length : Int) = x := by rw [hw]; exact rep_at pre _ x n hn
    have hy : rd whole ((pre.length : Int) + (n : Int)) = y := by rw [hw]; exact rep_next pre t x y n
    refine evs (fun k => by rw [spec_teSay.l1]) ?_
    rw [w64 (x := (pre.length : Int) + (n : Int)) (by omega) (by omega), hx, hy]
    refine evp (by omega) (evp (by omega) (evp (by omega) (evp (by omega) ?_)))
    by_cases he : y = x
    · subst he
      refine evp rfl ?_
      rw [w64 (x := (n : Int) + 1) (by omega) (by omega)]
      have h := ih pre y (n + 1) out (by rw [hw, List.replicate_succ']; simp) (by omega) ho
      simpa [sayS] using h
    · refine evn he ?_
      by_cases h9 : n > 9
      · exact evp (by omega) (evr (by simp [sayS, he, h9, sayFin]))
      · refine evn (by omega) ?_
        simp only [Option.bind_some]
        refine evp (by simp <;> omega) (evs (fun k => by rw [spec_teSay.l0]) (evp (by omega) (evs (fun k => by rw [spec_teSay.l1]) ?_)))
        rw [Int.add_zero, w64 (x := (pre.length : Int) + (n : Int)) (by omega) (by omega), hy, w64 (x := (0 : Int) + 1) (by omega) (by omega)]
        refine evp (by omega) (evp (by omega) (evp (by omega) (evp (by omega) (evp rfl ?_))))
        have h := ih (pre ++ List.replicate n x) y 1 (out ++ [(n : Int), x]) (by rw [hw]; simp) (by omega) (by simp <;> omega)
        have e : sayFin (out ++ [(n : Int), x]) (sayS t y 1) = sayFin out (sayS (y :: t) x n) := by
          simp only [sayS, if_neg he, if_neg h9]
          cases sayS t y 1 <;> simp [sayFin]
        rw [e] at h
        simpa using h
theorem teSay_ev (l : List Int) (h : l.length ≤ 1000000) : Ev (fun k => spec_teSay.f k l) (sayFin [] (sayC l)) := by
  unfold spec_teSay.f
  refine evs (fun k => by rw [spec_teSay.l0]) ?_
  cases l with
  | nil => exact evn (by simp) (evr (by simp [sayC, sayFin]))
  | cons x t =>
    refine evp (by simp <;> omega) (evs (fun k => by rw [spec_teSay.l1]) ?_)
    have hx : rd (x :: t) (0 : Int) = x := by simp [rd]
    simp only [List.length_cons] at h
    rw [Int.add_zero, w64 (x := (0 : Int)) (by omega) (by omega), hx, w64 (x := (0 : Int) + 1) (by omega) (by omega)]
    refine evp (by simp <;> omega) (evp (by omega) (evp (by omega) (evp (by simp <;> omega) (evp rfl ?_))))
    have h2 := teSay_loop (x :: t) (by simpa using h) t [] x 1 [] (by simp) (by omega) (by simp)
    simpa [sayC] using h2
theorem said_loop (whole : List Int) (hlen : whole.length ≤ 1000000) (rest : List Int) : ∀ (pre : List Int) (x : Int) (n : Nat) (out : List Int), whole = pre ++ (List.replicate n x ++ rest) → 1 ≤ n → out.length ≤ 2 * pre.length →
    Ev (fun k => impl_said.l1 k whole out (pre.length : Int) (n : Int)) (sayFin out (sayS rest x n)) := by
  induction rest with
  | nil =>
    intro pre x n out hw hn ho
    have hl : whole.length = pre.length + n := by simp [hw]
    have hx : rd whole (pre.length : Int) = x := by rw [hw]; exact rep_at pre [] x n hn
    refine evs (fun k => by rw [impl_said.l1]) ?_
    rw [hx, w64 (x := (pre.length : Int) + (n : Int)) (by omega) (by omega)]
    refine evn (by omega) ?_
    by_cases h9 : n > 9
    · exact evp (by omega) (evr (by simp [sayS, h9, sayFin]))
    · refine evn (by omega) (evp (by omega) (evp (by omega) ?_))
      simp only [Option.bind_some]
      refine evp (by simp <;> omega) (evs (fun k => by rw [impl_said.l0]) ?_)
      exact evn (by omega) (evr (by simp [sayS, h9, sayFin]))
  | cons y t ih =>
    intro pre x n out hw hn ho
    have hl : whole.length = pre.length + (n + (t.length + 1)) := by simp [hw]
    have hx : rd whole (pre.length : Int) = x := by rw [hw]; exact rep_at pre _ x n hn
    have hy : rd whole ((pre.length : Int) + (n : Int)) = y := by rw [hw]; exact rep_next pre t x y n
    refine evs (fun k => by rw [impl_said.l1]) ?_
    rw [w64 (x := (pre.length : Int) + (n : Int)) (by omega) (by omega), hx, hy]
    refine evp (by omega) (evp (by omega) (evp (by omega) (evp (by omega) ?_)))
    by_cases he : y = x
    · subst he
      refine evp rfl ?_
      rw [w64 (x := (n : Int) + 1) (by omega) (by omega)]
      have h := ih pre y (n + 1) out (by rw [hw, List.replicate_succ']; simp) (by omega) ho
      simpa [sayS] using h
    · refine evn he ?_
      by_cases h9 : n > 9
      · exact evp (by omega) (evr (by simp [sayS, he, h9, sayFin]))
      · refine evn (by omega) ?_
        simp only [Option.bind_some]
        refine evp (by simp <;> omega) (evs (fun k => by rw [impl_said.l0]) (evp (by omega) ?_))
        have h := ih (pre ++ List.replicate n x) y 1 (out ++ [(n : Int), x]) (by rw [hw]; simp) (by omega) (by simp <;> omega)
        have e : sayFin (out ++ [(n : Int), x]) (sayS t y 1) = sayFin out (sayS (y :: t) x n) := by
          simp only [sayS, if_neg he, if_neg h9]
          cases sayS t y 1 <;> simp [sayFin]
        rw [e] at h
        simpa using h
theorem said_ev (l : List Int) (h : l.length ≤ 1000000) : Ev (fun k => impl_said.f k l) (sayFin [] (sayC l)) := by
  unfold impl_said.f
  refine evs (fun k => by rw [impl_said.l0]) ?_
  cases l with
  | nil => exact evn (by simp) (evr (by simp [sayC, sayFin]))
  | cons x t =>
    refine evp (by simp <;> omega) ?_
    have h2 := said_loop (x :: t) h t [] x 1 [] (by simp) (by omega) (by simp)
    simpa [sayC] using h2

theorem l1All_loop (lo hi : Int) (whole : List Int) (post : List Int) : ∀ pre : List Int, whole = pre ++ post → whole.length ≤ 4611686018427387904 →
    Ev (fun k => spec_l1All.l0 k lo hi whole (whole.length : Int) (pre.length : Int)) (post.all fun x => decide (lo ≤ x ∧ x ≤ hi)) := by
  induction post with
  | nil =>
    intro pre hw h
    refine evs (fun k => by rw [spec_l1All.l0]) ?_
    exact evn (by simp [hw]) (evr (by simp))
  | cons y post ih =>
    intro pre hw h
    have hl : whole.length = pre.length + (post.length + 1) := by simp [hw]
    have hx : rd whole (pre.length : Int) = y := by rw [hw, rd_mid]
    refine evs (fun k => by rw [spec_l1All.l0]) ?_
    rw [hx]
    simp only [spec_l1In_eq, Option.bind_some, decide_eq_true_eq]
    refine evp (by omega) (evp (by omega) (evp (by omega) ?_))
    by_cases he : lo ≤ y ∧ y ≤ hi
    · refine evp he ?_
      have h2 := ih (pre ++ [y]) (by simp [hw]) h
      rw [w64 (by omega) (by omega)]
      have e : ((y :: post).all fun x => decide (lo ≤ x ∧ x ≤ hi)) = (post.all fun x => decide (lo ≤ x ∧ x ≤ hi)) := by
        rw [List.all_cons, decide_eq_true he, Bool.true_and]
      rw [e]
      simpa using h2
    · refine evn he (evr ?_)
      rw [List.all_cons, decide_eq_false he, Bool.false_and]
theorem l1All_ev (l : List Int) (lo hi : Int) (h : l.length ≤ 4611686018427387904) : Ev (fun k => spec_l1All.f k l lo hi) (l.all fun x => decide (lo ≤ x ∧ x ≤ hi)) := by
  unfold spec_l1All.f
  simpa using l1All_loop lo hi l l [] rfl h

def goodC (l : List Int) : Bool := decide (l.length ≤ 400) && l.all fun x => decide (1 ≤ x ∧ x ≤ 9)
theorem teGood_ev (l : List Int) (h : l.length ≤ 4611686018427387904) : Ev (fun k => spec_teGood.f k l) (goodC l) := by
  unfold spec_teGood.f goodC
  by_cases hl : (l.length : Int) ≤ 400
  · refine evp hl (evb (l1All_ev l 1 9 h) (evr ?_))
    rw [decide_eq_true (by omega : l.length ≤ 400), Bool.true_and]
  · refine evn hl (evr ?_)
    rw [decide_eq_false (by omega : ¬ l.length ≤ 400), Bool.false_and]
theorem isSaid_eq (l : List Int) : impl_isSaid.f l = some (goodC l) := by
  unfold impl_isSaid.f impl_areIn.f goodC
  have e : decide ((0 : Int) ≤ (l.length : Int) ∧ (l.length : Int) ≤ 400) = decide (l.length ≤ 400) := by
    by_cases h : l.length ≤ 400
    · rw [decide_eq_true h, decide_eq_true (by omega)]
    · rw [decide_eq_false h, decide_eq_false (by omega)]
  rw [e]
  rfl
theorem goodC_len {l : List Int} (h : goodC l = true) : l.length ≤ 400 := by
  unfold goodC at h
  simp only [Bool.and_eq_true, decide_eq_true_eq] at h
  exact h.1


theorem rd_L1_mid (rows r : List (List Int)) (cur : List Int) : rd_L1 (rows ++ cur :: r) (rows.length : Int) = cur := by simp [rd_L1]
theorem teLong_loop (whole : List Int) (hlen : whole.length ≤ 1000000) (rest : List Int) : ∀ (p : List Int) (x : Int) (n : Nat), whole = (p ++ [x]) ++ rest → n ≤ 9 →
    Ev (fun k => spec_teLong.l0 k whole (n : Int) whole (whole.length : Int) ((p.length : Int) + 1)) (sayS rest x n).isNone := by
  induction rest with
  | nil =>
    intro p x n hw hn
    refine evs (fun k => by rw [spec_teLong.l0]) ?_
    have : ¬ n > 9 := by omega
    exact evn (by simp [hw]) (evr (by simp [sayS, this]))
  | cons y t ih =>
    intro p x n hw hn
    have hl : whole.length = p.length + 1 + (t.length + 1) := by simp [hw]; omega
    have hy : rd whole ((p.length : Int) + 1) = y := by rw [hw]; exact rd_mid' _ _ _ _ (by simp)
    have hx : rd whole (p.length : Int) = x := by
      have e : whole = p ++ x :: (y :: t) := by simp [hw]
      rw [e]
      exact rd_mid _ _ _
    refine evs (fun k => by rw [spec_teLong.l0]) ?_
    rw [w64 (x := (p.length : Int) + 1 - 1) (by omega) (by omega), show (p.length : Int) + 1 - 1 = (p.length : Int) by omega, hx, hy]
    refine evp (by omega) (evp (by omega) (evp (by omega) (evp (by omega) (evp (by omega) (evp (by omega) (evs (fun k => by rw [spec_teLong.j1]) ?_))))))
    rw [w64 (x := (n : Int) + 1) (by omega) (by omega), w64 (x := (p.length : Int) + 1 + 1) (by omega) (by omega)]
    by_cases he : y = x
    · subst he
      refine evp (by simp) ?_
      simp only [sayS, if_true]
      by_cases h9 : n + 1 > 9
      · exact evp (by omega) (evr (by rw [sayS_big _ _ _ h9]; rfl))
      · refine evn (by omega) ?_
        have h := ih (p ++ [y]) y (n + 1) (by simp [hw]) (by omega)
        simpa using h
    · have he2 : ¬ x = y := fun e => he e.symm
      refine evn (by simp [he2]) ?_
      have h9 : ¬ n > 9 := by omega
      have h := ih (p ++ [x]) y 1 (by simp [hw]) (by omega)
      simp only [sayS, if_neg he, if_neg h9, Option.isNone_map]
      simpa using h
theorem teLong_ev (l : List Int) (h : l.length ≤ 1000000) : Ev (fun k => spec_teLong.f k l) (longC l) := by
  unfold spec_teLong.f
  refine evs (fun k => by rw [spec_teLong.l0]) ?_
  cases l with
  | nil => exact evn (by simp) (evr (by simp [longC, sayC]))
  | cons x t =>
    simp only [List.length_cons] at h
    refine evp (by simp <;> omega) (evp (by omega) (evp (by simp <;> omega) (evn (by omega) (evs (fun k => by rw [spec_teLong.j1]) (evn (by simp) ?_)))))
    rw [w64 (x := (0 : Int) + 1) (by omega) (by omega)]
    have h2 := teLong_loop (x :: t) (by simpa using h) t [] x 1 (by simp) (by omega)
    simpa [longC, sayC] using h2
theorem fits_loop (whole : List Int) (hlen : whole.length ≤ 1000000) (rest : List Int) : ∀ (p : List Int) (x : Int) (n : Nat), whole = (p ++ [x]) ++ rest → n ≤ 9 →
    Ev (fun k => impl_fits.l0 k whole (n : Int) whole (whole.length : Int) ((p.length : Int) + 1)) (!(sayS rest x n).isNone) := by
  induction rest with
  | nil =>
    intro p x n hw hn
    refine evs (fun k => by rw [impl_fits.l0]) ?_
    have : ¬ n > 9 := by omega
    exact evn (by simp [hw]) (evr (by simp [sayS, this]))
  | cons y t ih =>
    intro p x n hw hn
    have hl : whole.length = p.length + 1 + (t.length + 1) := by simp [hw]; omega
    have hy : rd whole ((p.length : Int) + 1) = y := by rw [hw]; exact rd_mid' _ _ _ _ (by simp)
    have hx : rd whole (p.length : Int) = x := by
      have e : whole = p ++ x :: (y :: t) := by simp [hw]
      rw [e]
      exact rd_mid _ _ _
    refine evs (fun k => by rw [impl_fits.l0]) ?_
    rw [w64 (x := (p.length : Int) + 1 - 1) (by omega) (by omega), show (p.length : Int) + 1 - 1 = (p.length : Int) by omega, hx, hy]
    refine evp (by omega) (evp (by omega) (evp (by omega) (evp (by omega) (evp (by omega) (evp (by omega) (evs (fun k => by rw [impl_fits.j1]) ?_))))))
    rw [w64 (x := (n : Int) + 1) (by omega) (by omega), w64 (x := (p.length : Int) + 1 + 1) (by omega) (by omega)]
    by_cases he : y = x
    · subst he
      refine evp (by simp) ?_
      simp only [sayS, if_true]
      by_cases h9 : n + 1 > 9
      · exact evp (by omega) (evr (by rw [sayS_big _ _ _ h9]; rfl))
      · refine evn (by omega) ?_
        have h := ih (p ++ [y]) y (n + 1) (by simp [hw]) (by omega)
        simpa using h
    · have he2 : ¬ x = y := fun e => he e.symm
      refine evn (by simp [he2]) ?_
      have h9 : ¬ n > 9 := by omega
      have h := ih (p ++ [x]) y 1 (by simp [hw]) (by omega)
      simp only [sayS, if_neg he, if_neg h9, Option.isNone_map]
      simpa using h
theorem fits_ev (l : List Int) (h : l.length ≤ 1000000) : Ev (fun k => impl_fits.f k l) (!longC l) := by
  unfold impl_fits.f
  refine evs (fun k => by rw [impl_fits.l0]) ?_
  cases l with
  | nil => exact evn (by simp) (evr (by simp [longC, sayC]))
  | cons x t =>
    simp only [List.length_cons] at h
    refine evp (by simp <;> omega) (evp (by omega) (evp (by simp <;> omega) (evn (by omega) (evs (fun k => by rw [impl_fits.j1]) (evn (by simp) ?_)))))
    rw [w64 (x := (0 : Int) + 1) (by omega) (by omega)]
    have h2 := fits_loop (x :: t) (by simpa using h) t [] x 1 (by simp) (by omega)
    simpa [longC, sayC] using h2
theorem teRun_loop (steps : Nat) (hs : steps ≤ 30) (d : Nat) : ∀ (rows : List (List Int)) (cur : List Int), rows.length + d = steps → cur.length ≤ 400 →
    Ev (fun k => spec_teRun.l0 k (steps : Int) (rows ++ [cur]) (rows.length : Int)) (runFin rows cur (runS d cur)) := by
  induction d with
  | zero =>
    intro rows cur hd hc
    have hr : rd_L1 (rows ++ [cur]) (rows.length : Int) = cur := rd_L1_mid rows [] cur
    have e : (steps : Int) = (rows.length : Int) := by omega
    refine evs (fun k => by rw [spec_teRun.l0]) ?_
    rw [e, hr]
    refine evn (by omega) (evp (by omega) (evp (by simp <;> omega) (evb (teLong_ev cur (by omega)) ?_)))
    by_cases hl : longC cur = true
    · exact evp hl (evr (by simp [runS, hl, runFin]))
    · exact evn hl (evr (by simp [runS, hl, runFin]))
  | succ d ih =>
    intro rows cur hd hc
    have hr : rd_L1 (rows ++ [cur]) (rows.length : Int) = cur := rd_L1_mid rows [] cur
    refine evs (fun k => by rw [spec_teRun.l0]) ?_
    rw [hr]
    refine evp (by omega) (evp (by omega) (evp (by simp <;> omega) (evb (teSay_ev cur (by omega)) ?_)))
    cases hsay : sayC cur with
    | none => exact evn (by simp [sayFin]) (evr (by simp [runS, hsay, runFin]))
    | some o =>
      by_cases h4 : o.length ≤ 400
      · refine evp (by simp [sayFin]; omega) (evp (by simp <;> omega) ?_)
        rw [w64 (by omega) (by omega)]
        have h := ih (rows ++ [cur]) o (by simp <;> omega) h4
        have e : runFin (rows ++ [cur]) o (runS d o) = runFin rows cur (runS (d + 1) cur) := by
          simp only [runS, hsay, if_pos h4]
          cases runS d o <;> simp [runFin]
        rw [e] at h
        simpa [sayFin] using h
      · exact evn (by simp [sayFin]; omega) (evr (by simp [runS, hsay, h4, runFin]))
theorem implRun_loop (steps : Nat) (hs : steps ≤ 30) (d : Nat) : ∀ (rows : List (List Int)) (cur : List Int), rows.length + d = steps → cur.length ≤ 400 → longC cur = false →
    Ev (fun k => impl_SayRun.l0 k (rows ++ [cur]) (steps : Int) (rows.length : Int)) (runFin rows cur (runS d cur)) := by
  induction d with
  | zero =>
    intro rows cur hd hc hl
    refine evs (fun k => by rw [impl_SayRun.l0]) ?_
    exact evn (by omega) (evr (by simp [runS, hl, runFin]))
  | succ d ih =>
    intro rows cur hd hc hl
    have hr : rd_L1 (rows ++ [cur]) (rows.length : Int) = cur := rd_L1_mid rows [] cur
    refine evs (fun k => by rw [impl_SayRun.l0]) ?_
    rw [hr]
    refine evp (by omega) (evp (by omega) (evp (by simp <;> omega) (evb (said_ev cur (by omega)) ?_)))
    cases hsay : sayC cur with
    | none => exact evn (by simp [sayFin]) (evr (by simp [runS, hsay, runFin]))
    | some o =>
      by_cases h4 : o.length ≤ 400
      · refine evp (by simp [sayFin]; omega) (evb (fits_ev _ (by simp [sayFin]; omega)) ?_)
        have e0 : ([] ++ o : List Int) = o := rfl
        simp only [sayFin, e0]
        by_cases hlo : longC o = true
        · exact evn (by simp [hlo]) (evr (by simp [runS, hsay, h4, runFin, runS_long d o hlo]))
        · refine evp (by simp [hlo]) (evp (by simp <;> omega) ?_)
          rw [w64 (by omega) (by omega)]
          have h := ih (rows ++ [cur]) o (by simp <;> omega) h4 (by simpa using hlo)
          have e : runFin (rows ++ [cur]) o (runS d o) = runFin rows cur (runS (d + 1) cur) := by
            simp only [runS, hsay, if_pos h4]
            cases runS d o <;> simp [runFin]
          rw [e] at h
          simpa using h
      · exact evn (by simp [sayFin]; omega) (evr (by simp [runS, hsay, h4, runFin]))
theorem teRun_ev (l : List Int) (steps : Nat) (hs : steps ≤ 30) (hl : l.length ≤ 400) : Ev (fun k => spec_teRun.f k l (steps : Int)) (runFin [] l (runS steps l)) := by
  unfold spec_teRun.f
  simp only [l1Own_ev l (by omega), Option.bind_some]
  simpa using teRun_loop steps hs steps [] l (by simp) hl
def sayRunC (l : List Int) (steps : Int) : List (List Int) × Bool := if goodC l = true then (if 0 ≤ steps ∧ steps ≤ 30 then runFin [] l (runS steps.toNat l) else ([], false)) else ([], false)
theorem implSayRun_ev (l : List Int) (steps : Int) (hl : l.length ≤ 1000000000) : Ev (fun k => impl_SayRun.f k l steps) (sayRunC l steps) := by
  unfold impl_SayRun.f sayRunC
  simp only [isSaid_eq, impl_in_eq, Option.bind_some, decide_eq_true_eq]
  have no : Ev (fun k => impl_SayRun.j0 k l steps true) (([] : List (List Int)), false) := evs (fun k => by rw [impl_SayRun.j0]) (evp rfl (Ev.now _))
  by_cases hg : goodC l = true
  · have hlen := goodC_len hg
    by_cases hs : 0 ≤ steps ∧ steps ≤ 30
    · rw [if_pos hg, if_pos hs]
      obtain ⟨n, rfl⟩ := natOf (a := steps) (by omega)
      refine evp hg (evp hs (evb (fits_ev l (by omega)) ?_))
      by_cases hlo : longC l = true
      · rw [Int.toNat_natCast, runS_long n l hlo]
        simpa [hlo, runFin] using no
      · refine evs (fun k => by rw [impl_SayRun.j0]) (evn (by simpa using hlo) ?_)
        simp only [clone_ev l (by omega), Option.bind_some]
        rw [Int.toNat_natCast]
        simpa using implRun_loop n (by omega) n [] l (by simp) hlen (by simpa using hlo)
    · rw [if_pos hg, if_neg hs]
      exact evp hg (evn hs no)
  · rw [if_neg hg]
    exact evn hg no

theorem laws_eqIntS_loop (post : List Int) : ∀ (pre post' : List Int), post'.length = post.length → (pre ++ post).length ≤ 4611686018427387904 →
    Ev (fun k => laws_eqIntS.l0 k (pre ++ post) (pre ++ post') (pre.length : Int)) (decide (post = post')) := by
  induction post with
  | nil =>
    intro pre post' hl h
    obtain rfl : post' = [] := List.eq_nil_of_length_eq_zero hl
    refine evs (fun k => by rw [laws_eqIntS.l0]) ?_
    exact evn (by simp) (evr (by simp))
  | cons x post ih =>
    intro pre post' hl h
    obtain ⟨y, post', rfl⟩ : ∃ y z, post' = y :: z := by cases post' with
      | nil => simp at hl
      | cons y z => exact ⟨y, z, rfl⟩
    refine evs (fun k => by rw [laws_eqIntS.l0]) ?_
    refine evp (by simp; omega) (evp (by omega) (evp (by simp; omega) ?_))
    rw [rd_mid, rd_mid]
    by_cases he : x = y
    · subst he
      refine evp rfl ?_
      have h2 := ih (pre ++ [x]) post' (by simpa using hl) (by simpa using h)
      simp only [List.append_assoc, List.singleton_append, List.length_append, List.length_singleton] at h2 h
      rw [w64 (by omega) (by simp at h; omega)]
      simpa using h2
    · exact evn he (evr (by simp [he]))
theorem laws_eqIntS_ev (l l' : List Int) (h : l.length ≤ 4611686018427387904) : Ev (fun k => laws_eqIntS.f k l l') (decide (l = l')) := by
  unfold laws_eqIntS.f
  by_cases hl : l.length = l'.length
  · exact evp (by omega) (by simpa using laws_eqIntS_loop l [] l' hl.symm (by simpa using h))
  · exact evn (by omega) (evr (by symm; rw [decide_eq_false_iff_not]; exact fun e => hl (by rw [e])))
theorem laws_eqIntS_self (l : List Int) (h : l.length ≤ 4611686018427387904) : Ev (fun k => laws_eqIntS.f k l l) true := by simpa using laws_eqIntS_ev l l h

theorem markIntS_loop (post : List Int) : ∀ (pre : List Int) (m : Int), 0 ≤ m → m + post.length ≤ 4611686018427387904 → (pre ++ post).length ≤ 4611686018427387904 →
    Ev (fun k => laws_markIntS.l0 k (pre ++ post) m (pre.length : Int)) (m + post.length, pre ++ iota m post.length) := by
  induction post with
  | nil =>
    intro pre m _ _ _
    refine evs (fun k => by rw [laws_markIntS.l0]) ?_
    exact evn (by simp) (evr (by simp [iota]))
  | cons x post ih =>
    intro pre m h0 h1 h
    refine evs (fun k => by rw [laws_markIntS.l0]) ?_
    have hl : (pre.length : Int) < ((pre ++ x :: post).length : Int) := by simp; omega
    simp only [List.length_cons] at h1
    refine evp hl (evp (by omega) ?_)
    have h2 := ih (pre ++ [m]) (m + 1) (by omega) (by omega) (by simpa using h)
    simp only [List.append_assoc, List.singleton_append, List.length_append, List.length_singleton] at h2 h
    rw [w64 (x := (pre.length : Int) + 1) (by omega) (by simp at h; omega), w64 (x := m + 1) (by omega) (by omega), set_midI _ _ _ _ _ rfl]
    simp only [List.length_cons, iota]
    have e : m + ((post.length + 1 : Nat) : Int) = m + 1 + post.length := by omega
    rw [e]
    simpa using h2
theorem markIntS_ev (l : List Int) (m : Int) (h0 : 0 ≤ m) (h1 : m + l.length ≤ 4611686018427387904) : Ev (fun k => laws_markIntS.f k l m) (m + l.length, iota m l.length) := by
  unfold laws_markIntS.f
  simpa using markIntS_loop l [] m h0 h1 (by simp; omega)
theorem heldIntS_loop (n : Nat) : ∀ (pre : List Int) (m : Int), 0 ≤ m → m + n ≤ 4611686018427387904 → pre.length + n ≤ 4611686018427387904 →
    Ev (fun k => laws_heldIntS.l0 k (pre ++ iota m n) m (pre.length : Int)) (m + n) := by
  induction n with
  | zero =>
    intro pre m _ _ _
    refine evs (fun k => by rw [laws_heldIntS.l0]) ?_
    exact evn (by simp [iota]) (evr (by simp))
  | succ n ih =>
    intro pre m h0 h1 h
    refine evs (fun k => by rw [laws_heldIntS.l0]) ?_
    simp only [iota]
    refine evp (by simp; omega) (evp (by omega) (evp (rd_mid _ _ _) ?_))
    have h2 := ih (pre ++ [m]) (m + 1) (by omega) (by omega) (by simp; omega)
    simp only [List.append_assoc, List.singleton_append, List.length_append, List.length_singleton] at h2
    rw [w64 (x := (pre.length : Int) + 1) (by omega) (by omega), w64 (x := m + 1) (by omega) (by omega)]
    have e : m + ((n + 1 : Nat) : Int) = m + 1 + n := by omega
    rw [e]
    simpa using h2
theorem heldIntS_ev (n : Nat) (m : Int) (h0 : 0 ≤ m) (h1 : m + n ≤ 4611686018427387904) : Ev (fun k => laws_heldIntS.f k (iota m n) m) (m + n) := by
  unfold laws_heldIntS.f
  simpa using heldIntS_loop n [] m h0 h1 (by simp; omega)

/-! Rows of numbers: compared with themselves, marked and found again. -/
theorem rdL1_mid (pre post : List (List Int)) (x : List Int) : rd_L1 (pre ++ x :: post) (pre.length : Int) = x := by simp [rd_L1]
theorem eqSS_loop (post : List (List Int)) : ∀ pre : List (List Int), (∀ x ∈ post, x.length ≤ 1000) → (pre ++ post).length ≤ 1000000 → Ev (fun k => laws_eqIntSS.l0 k (pre ++ post) (pre ++ post) (pre.length : Int)) true := by
  induction post with
  | nil =>
    intro pre _ _
    refine evs (fun k => by rw [laws_eqIntSS.l0]) ?_
    exact evn (by simp) (Ev.now _)
  | cons x post ih =>
    intro pre hx hl
    have hlen : (pre ++ x :: post).length = pre.length + (post.length + 1) := by simp
    rw [hlen] at hl
    have h2 := ih (pre ++ [x]) (fun y hy => hx y (by simp [hy])) (by simp; omega)
    rw [List.append_assoc, List.singleton_append, show ((pre ++ [x]).length : Int) = (pre.length : Int) + 1 by simp] at h2
    have h3 := laws_eqIntS_self x (by have := hx x (by simp); omega)
    refine evs (fun k => by rw [laws_eqIntSS.l0]) ?_
    rw [rdL1_mid, hlen, w64 (x := (pre.length : Int) + 1) (by omega) (by omega)]
    exact evp (by omega) (evp (by omega) (evp (by omega) (evb h3 (evp rfl h2))))
def marks : Int → List (List Int) → List (List Int)
  | _, [] => []
  | m, r :: rows => iota m r.length :: marks (m + r.length) rows
def total : List (List Int) → Nat
  | [] => 0
  | r :: rows => r.length + total rows
theorem markSS_ev (post : List (List Int)) : ∀ (pre : List (List Int)) (m : Int), 0 ≤ m → m ≤ 1000000000000 - total post → pre.length + post.length ≤ 1000000 → Ev (fun k => laws_markIntSS.g k pre post m) (m + total post, pre ++ marks m post) := by
  induction post with
  | nil => intro pre m _ _ _; exact evr (by simp [marks, total])
  | cons r post ih =>
    intro pre m h0 h1 hl
    simp only [total, List.length_cons] at h1 hl
    have h2 := markIntS_ev r m h0 (by omega)
    have h3 := ih (pre ++ [iota m r.length]) (m + r.length) (by omega) (by omega) (by simp; omega)
    rw [show m + (r.length : Int) + (total post : Int) = m + ((total (r :: post) : Nat) : Int) by simp only [total]; omega, List.append_assoc, List.singleton_append] at h3
    exact evp (by omega) (evb h2 h3)
theorem heldSS_loop (post : List (List Int)) : ∀ (pre : List (List Int)) (m : Int), 0 ≤ m → m ≤ 1000000000000 - total post → pre.length + post.length ≤ 1000000 → Ev (fun k => laws_heldIntSS.l0 k (pre ++ marks m post) m (pre.length : Int)) (m + total post) := by
  induction post with
  | nil =>
    intro pre m _ _ _
    refine evs (fun k => by rw [laws_heldIntSS.l0]) ?_
    exact evn (by simp [marks]) (evr (by simp [total]))
  | cons r post ih =>
    intro pre m h0 h1 hl
    simp only [total, List.length_cons] at h1 hl
    have h2 := heldIntS_ev r.length m h0 (by omega)
    have h3 := ih (pre ++ [iota m r.length]) (m + r.length) (by omega) (by omega) (by simp; omega)
    rw [show m + (r.length : Int) + (total post : Int) = m + ((total (r :: post) : Nat) : Int) by simp only [total]; omega, List.append_assoc, List.singleton_append, show ((pre ++ [iota m r.length]).length : Int) = (pre.length : Int) + 1 by simp] at h3
    simp only [marks]
    refine evs (fun k => by rw [laws_heldIntSS.l0]) ?_
    rw [rdL1_mid, w64 (x := (pre.length : Int) + 1) (by omega) (by omega)]
    exact evp (by simp; omega) (evp (by omega) (evb h2 (evn (by omega) h3)))
theorem total_le (l : List (List Int)) (h : ∀ x ∈ l, x.length ≤ 1000) : total l ≤ l.length * 1000 := by
  induction l with
  | nil => simp [total]
  | cons r l ih =>
    have := ih (fun x hx => h x (by simp [hx]))
    have := h r (by simp)
    simp only [total, List.length_cons]
    omega
theorem rows_exact (l : List (List Int)) (h : ∀ x ∈ l, x.length ≤ 1000) (hl : l.length ≤ 20000) : Ev (fun k => laws_eqIntSS.f k l l) true ∧ ∃ (m : Int) (l' : List (List Int)), Ev (fun k => laws_markIntSS.f k l 1) (m, l') ∧ Ev (fun k => laws_heldIntSS.f k l' 1) m ∧ 0 ≤ m := by
  have ht := total_le l h
  refine ⟨?_, 1 + total l, marks 1 l, ?_, ?_, by omega⟩
  · unfold laws_eqIntSS.f
    have := eqSS_loop l [] h (by simp; omega)
    exact evp rfl (by simpa using this)
  · have := markSS_ev l [] 1 (by omega) (by omega) (by simp; omega)
    unfold laws_markIntSS.f
    simpa using this
  · have := heldSS_loop l [] 1 (by omega) (by omega) (by simp; omega)
    unfold laws_heldIntSS.f
    simpa using this

theorem toIntS_loop (post : List Int) : ∀ (pre z : List Int), z.length = post.length → (pre ++ post).length ≤ 4611686018427387904 →
    Ev (fun k => laws_toIntS.l0 k (pre ++ post) (pre ++ z) (pre.length : Int)) (pre ++ post) := by
  induction post with
  | nil =>
    intro pre z hz h
    obtain rfl : z = [] := List.eq_nil_of_length_eq_zero hz
    refine evs (fun k => by rw [laws_toIntS.l0]) ?_
    exact evn (by simp) (Ev.now _)
  | cons x post ih =>
    intro pre z hz h
    obtain ⟨y, z, rfl⟩ : ∃ y z', z = y :: z' := by cases z with
      | nil => simp at hz
      | cons y z => exact ⟨y, z, rfl⟩
    refine evs (fun k => by rw [laws_toIntS.l0]) ?_
    refine evp (by simp; omega) (evp (by omega) (evp (by simp; omega) ?_))
    have h2 := ih (pre ++ [x]) z (by simpa using hz) (by simpa using h)
    simp only [List.append_assoc, List.singleton_append, List.length_append, List.length_singleton] at h2 h
    rw [rd_mid, set_midI _ _ _ _ _ rfl, w64 (by omega) (by simp at h; omega)]
    simpa using h2
theorem toIntS_ev (l : List Int) (h : l.length ≤ 35184372088832) : Ev (fun k => laws_toIntS.f k l) l := by
  unfold laws_toIntS.f
  refine evp (by omega) (evp (by omega) ?_)
  simpa using toIntS_loop l [] (List.replicate l.length 0) (by simp) (by simp; omega)

theorem specSayRun_ev (l : List Int) (steps : Int) (hl : l.length ≤ 1000000000) : Ev (fun k => spec_SayRun.f k l steps) (sayRunC l steps) := by
  unfold spec_SayRun.f sayRunC
  simp only [spec_l1In_eq, Option.bind_some, decide_eq_true_eq]
  refine evb (teGood_ev l (by omega)) ?_
  by_cases hg : goodC l = true
  · rw [if_pos hg]
    by_cases hs : 0 ≤ steps ∧ steps ≤ 30
    · rw [if_pos hs]
      obtain ⟨n, rfl⟩ := natOf (a := steps) (by omega)
      rw [Int.toNat_natCast]
      exact evp hg (evp hs (evb (teRun_ev l n (by omega) (goodC_len hg)) (Ev.now _)))
    · rw [if_neg hs]
      exact evp hg (evn hs (Ev.now _))
  · rw [if_neg hg]
    exact evn hg (Ev.now _)
theorem sayRunC_small (l : List Int) (steps : Int) : (sayRunC l steps).1.length ≤ 31 ∧ ∀ x ∈ (sayRunC l steps).1, x.length ≤ 1000 := by
  unfold sayRunC
  by_cases hg : goodC l = true
  · have hgl := goodC_len hg
    by_cases hs : 0 ≤ steps ∧ steps ≤ 30
    · rw [if_pos hg, if_pos hs]
      cases h : runS steps.toNat l with
      | none => simp [runFin]
      | some r =>
        obtain ⟨h1, h2⟩ := runS_length _ _ _ h
        refine ⟨by simp [runFin]; omega, fun x hx => ?_⟩
        simp only [runFin, List.nil_append] at hx
        rcases List.mem_cons.1 hx with rfl | hx
        · omega
        · have := h2 x hx; omega
    · rw [if_pos hg, if_neg hs]
      simp
  · rw [if_neg hg]
    simp
theorem FnExactSayRun : laws_FnExactSayRun.Pure := by
  intro l0 a1 hl
  obtain ⟨s1, s2⟩ := sayRunC_small l0 a1
  obtain ⟨e1, m, rows', e2, e3, e4⟩ := rows_exact (sayRunC l0 a1).1 s2 (by omega)
  obtain ⟨k1, q1⟩ := specSayRun_ev l0 a1 (by omega)
  obtain ⟨k2, q2⟩ := implSayRun_ev l0 a1 (by omega)
  obtain ⟨k3, q3⟩ := e1
  obtain ⟨k4, q4⟩ := e2
  obtain ⟨k5, q5⟩ := e3
  obtain ⟨k6, q6⟩ := toIntS_ev l0 (by omega)
  obtain ⟨k7, q7⟩ := laws_eqIntS_self l0 (by omega)
  obtain ⟨k8, q8⟩ := markIntS_ev l0 1 (by omega) (by omega)
  refine ⟨k1 + k2 + k3 + k4 + k5 + k6 + k7 + k8, (sayRunC l0 a1).1, (sayRunC l0 a1).2, 1 + l0.length, iota 1 l0.length, m, rows', q6 _ (by omega), q1 _ (by omega), q2 _ (by omega), q3 _ (by omega), q7 _ (by omega), q8 _ (by omega), q4 _ (by omega), q5 _ (by omega), by omega, e4⟩

end Go.Proofs.Ytnmoafgfnlpfjaa.Pure
