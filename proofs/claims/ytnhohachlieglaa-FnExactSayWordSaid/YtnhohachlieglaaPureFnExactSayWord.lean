/- For every list of at most 2^20 numbers, SayWord of the program and of the reference agree, the list is not changed, and what the program returns is memory of its own. -/
import Derived.Test.YtnhohachlieglaaPFnExactSayWordx3
import Derived.Test.YtnhohachlieglaaWMore
set_option linter.unusedVariables false
set_option linter.unusedSimpArgs false
namespace Go.Proofs.Ytnhohachlieglaa.Pure
open Go.RowKit Go.Proofs.Ytnhohachlieglaa.PFnExactSayWord Go.Proofs.YtnhohachlieglaaW.PrintWords Go.Proofs.YtnhohachlieglaaW.PrintLast

theorem w64 {x : Int} (h1 : -9223372036854775808 ≤ x) (h2 : x ≤ 9223372036854775807) : wrap64 x = x := by unfold wrap64; omega

theorem w64n (n : Nat) (h : n ≤ 9223372036854775807) : wrap64 (n : Int) = (n : Int) := w64 (by omega) (by omega)

theorem evp {α : Type} {c : Prop} [Decidable c] {a b : Nat → Option α} {r : α} (h : c) (k : Ev a r) : Ev (fun n => if c then a n else b n) r := Ev.congr (fun _ => if_pos h) k
theorem evn {α : Type} {c : Prop} [Decidable c] {a b : Nat → Option α} {r : α} (h : ¬ c) (k : Ev b r) : Ev (fun n => if c then a n else b n) r := Ev.congr (fun _ => if_neg h) k
theorem evr {α : Type} {x r : α} (h : x = r) : Ev (fun _ => some x) r := h ▸ Ev.now x
theorem evb {α β : Type} {g : Nat → Option α} {f : Nat → α → Option β} {a : α} {r : β} (h : Ev g a) (k : Ev (fun n => f n a) r) : Ev (fun n => (g n).bind fun x => f n x) r := Ev.bind h k
theorem evs {α : Type} {g f : Nat → Option α} {r : α} (h : ∀ k, g (k + 1) = f k) (k : Ev f r) : Ev g r := Ev.step h k
theorem evu {α : Type} {g : Nat → Option α} {r s : α} (h : Ev g r) (k : Ev g s) : r = s := by
  obtain ⟨K, h⟩ := h
  obtain ⟨L, k⟩ := k
  have := (h (K + L) (by omega)).symm.trans (k (K + L) (by omega))
  injection this

theorem rd_mid (pre post : List Int) (x : Int) : rd (pre ++ x :: post) (pre.length : Int) = x := by simp [rd]
theorem rd_mid' (pre post : List Int) (x i : Int) (h : i = pre.length) : rd (pre ++ x :: post) i = x := by subst h; exact rd_mid pre post x
theorem set_mid {α : Type} (pre post : List α) (x y : α) : (pre ++ x :: post).set pre.length y = pre ++ y :: post := by simp
theorem set_midI {α : Type} (pre post : List α) (x y : α) (i : Int) (h : i = pre.length) : (pre ++ x :: post).set i.toNat y = pre ++ y :: post := by subst h; simp
theorem rd_nat (xs : List Int) (i : Nat) : rd xs (i : Int) = xs.getD i 0 := by simp [rd]
theorem rd_get (xs : List Int) (i : Nat) (h : i < xs.length) : rd xs (i : Int) = xs[i] := by simp [rd, h]
theorem rd_mem (xs : List Int) (i : Int) (h0 : 0 ≤ i) (h : i < xs.length) : rd xs i ∈ xs := by
  have hi : i.toNat < xs.length := by omega
  simp only [rd, List.getD_eq_getElem?_getD, List.getElem?_eq_getElem hi, Option.getD_some]
  exact List.getElem_mem hi
/-- m, m + 1, .. -/
def iota (m : Int) : Nat → List Int
  | 0 => []
  | n + 1 => m :: iota (m + 1) n
theorem iota_length (m : Int) (n : Nat) : (iota m n).length = n := by induction n generalizing m with
  | zero => rfl
  | succ n ih => simp [iota, ih]
/-- A list is cut in two. -/
theorem cut_at {α : Type} (xs : List α) (i : Nat) (h : i < xs.length) : ∃ pre x post, xs = pre ++ x :: post ∧ pre.length = i := by
  refine ⟨xs.take i, xs[i], xs.drop (i + 1), ?_, by simp; omega⟩
  simp
theorem wf64 {x : Int} (h : (Lit.int .i64 x).wf = true) : -9223372036854775808 ≤ x ∧ x ≤ 9223372036854775807 := by
  have h2 : (decide (IntKind.i64.min ≤ x) && decide (x ≤ IntKind.i64.max)) = true := h
  rw [show IntKind.i64.min = -9223372036854775808 from rfl, show IntKind.i64.max = 9223372036854775807 from rfl] at h2
  simpa using h2

/-- Within a stretch of n numbers x. -/
def sayS : List Int → Int → Nat → Option (List Int)
  | [], x, n => if n > 9 then none else some [(n : Int), x]
  | y :: t, x, n => if y = x then sayS t x (n + 1) else if n > 9 then none else (sayS t y 1).map fun o => (n : Int) :: x :: o
def sayC : List Int → Option (List Int)
  | [] => some []
  | x :: t => sayS t x 1
def sayFin (out : List Int) : Option (List Int) → List Int × Bool
  | none => ([], false)
  | some o => (out ++ o, decide (((out ++ o).length : Int) ≤ 400))
theorem sayS_length (l : List Int) : ∀ (x : Int) (n : Nat) (o : List Int), sayS l x n = some o → o.length ≤ 2 * (l.length + 1) := by
  induction l with
  | nil =>
    intro x n o h
    simp only [sayS] at h
    split at h
    · cases h
    · injection h with h
      subst h
      simp
  | cons y t ih =>
    intro x n o h
    simp only [sayS] at h
    split at h
    · have := ih _ _ _ h
      simp only [List.length_cons]
      omega
    · split at h
      · cases h
      · obtain ⟨o', h1, rfl⟩ := Option.map_eq_some_iff.1 h
        have := ih _ _ _ h1
        simp only [List.length_cons]
        omega
theorem sayC_length (l : List Int) (o : List Int) (h : sayC l = some o) : o.length ≤ 2 * l.length := by
  cases l with
  | nil =>
    simp only [sayC] at h
    injection h with h
    subst h
    simp
  | cons x t => simpa using sayS_length t x 1 o h

theorem rep_at (pre rest : List Int) (x : Int) (n : Nat) (hn : 1 ≤ n) : rd (pre ++ (List.replicate n x ++ rest)) (pre.length : Int) = x := by
  obtain ⟨n, rfl⟩ : ∃ m, n = m + 1 := ⟨n - 1, by omega⟩
  rw [List.replicate_succ, List.cons_append, rd_mid]
theorem rep_next (pre rest : List Int) (x y : Int) (n : Nat) : rd (pre ++ (List.replicate n x ++ y :: rest)) ((pre.length : Int) + (n : Int)) = y := by
  have e : pre ++ (List.replicate n x ++ y :: rest) = (pre ++ List.replicate n x) ++ y :: rest := by simp
  rw [e]
  exact rd_mid' _ _ _ _ (by simp)
theorem teSay_loop (whole : List Int) (hlen : whole.length ≤ 1000000) (rest : List Int) : ∀ (pre : List Int) (x : Int) (n : Nat) (out : List Int), whole = pre ++ (List.replicate n x ++ rest) → 1 ≤ n → out.length ≤ 2 * pre.length →
    Ev (fun k => spec_teSay.l1 k whole out (pre.length : Int) (n : Int)) (sayFin out (sayS rest x n)) := by
  induction rest with
  | nil =>
    intro pre x n out hw hn ho
    have hl : whole.length = pre.length + n := by simp [hw]
    have hx : rd whole (pre.length : Int) = x := by rw [hw]; exact rep_at pre [] x n hn
    refine evs (fun k => by rw [spec_teSay.l1]) ?_
    rw [hx, w64 (x := (pre.length : Int) + (n : Int)) (by omega) (by omega)]
    refine evn (by omega) ?_
    by_cases h9 : n > 9
    · exact evp (by omega) (evr (by simp [sayS, h9, sayFin]))
    · refine evn (by omega) (evp (by omega) (evp (by omega) ?_))
      simp only [Option.bind_some]
      refine evp (by simp <;> omega) (evs (fun k => by rw [spec_teSay.l0]) ?_)
      exact evn (by omega) (evr (by simp [sayS, h9, sayFin]))
  | cons y t ih =>
    intro pre x n out hw hn ho
    have hl : whole.length = pre.length + (n + (t.length + 1)) := by simp [hw]
    have hx : rd whole (pre.length : Int) = x := by rw [hw]; exact rep_at pre _ x n hn
    have hy : rd whole ((pre.length : Int) + (n : Int)) = y := by rw [hw]; exact rep_next pre t x y n
    refine evs (fun k => by rw [spec_teSay.l1]) ?_
    rw [w64 (x := (pre.length : Int) + (n : Int)) (by omega) (by omega), hx, hy]
    refine evp (by omega) (evp (by omega) (evp (by omega) (evp (by omega) ?_)))
    by_cases he : y = x
    · subst he
      refine evp rfl ?_
      rw [w64 (x := (n : Int) + 1) (by omega) (by omega)]
      have h := ih pre y (n + 1) out (by rw [hw, List.replicate_succ']; simp) (by omega) ho
      simpa [sayS] using h
    · refine evn he ?_
      by_cases h9 : n > 9
      · exact evp (by omega) (evr (by simp [sayS, he, h9, sayFin]))
      · refine evn (by omega) ?_
        simp only [Option.bind_some]
        refine evp (by simp <;> omega) (evs (fun k => by rw [spec_teSay.l0]) (evp (by omega) (evs (fun k => by rw [spec_teSay.l1]) ?_)))
        rw [Int.add_zero, w64 (x := (pre.length : Int) + (n : Int)) (by omega) (by omega), hy, w64 (x := (0 : Int) + 1) (by omega) (by omega)]
        refine evp (by omega) (evp (by omega) (evp (by omega) (evp (by omega) (evp rfl ?_))))
        have h := ih (pre ++ List.replicate n x) y 1 (out ++ [(n : Int), x]) (by rw [hw]; simp) (by omega) (by simp <;> omega)
        have e : sayFin (out ++ [(n : Int), x]) (sayS t y 1) = sayFin out (sayS (y :: t) x n) := by
          simp only [sayS, if_neg he, if_neg h9]
          cases sayS t y 1 <;> simp [sayFin]
        rw [e] at h
        simpa using h
theorem teSay_ev (l : List Int) (h : l.length ≤ 1000000) : Ev (fun k => spec_teSay.f k l) (sayFin [] (sayC l)) := by
  unfold spec_teSay.f
  refine evs (fun k => by rw [spec_teSay.l0]) ?_
  cases l with
  | nil => exact evn (by simp) (evr (by simp [sayC, sayFin]))
  | cons x t =>
    refine evp (by simp <;> omega) (evs (fun k => by rw [spec_teSay.l1]) ?_)
    have hx : rd (x :: t) (0 : Int) = x := by simp [rd]
    simp only [List.length_cons] at h
    rw [Int.add_zero, w64 (x := (0 : Int)) (by omega) (by omega), hx, w64 (x := (0 : Int) + 1) (by omega) (by omega)]
    refine evp (by simp <;> omega) (evp (by omega) (evp (by omega) (evp (by simp <;> omega) (evp rfl ?_))))
    have h2 := teSay_loop (x :: t) (by simpa using h) t [] x 1 [] (by simp) (by omega) (by simp)
    simpa [sayC] using h2
theorem said_loop (whole : List Int) (hlen : whole.length ≤ 1000000) (rest : List Int) : ∀ (pre : List Int) (x : Int) (n : Nat) (out : List Int), whole = pre ++ (List.replicate n x ++ rest) → 1 ≤ n → out.length ≤ 2 * pre.length →
    Ev (fun k => impl_said.l1 k whole out (pre.length : Int) (n : Int)) (sayFin out (sayS rest x n)) := by
  induction rest with
  | nil =>
    intro pre x n out hw hn ho
    have hl : whole.length = pre.length + n := by simp [hw]
    have hx : rd whole (pre.length : Int) = x := by rw [hw]; exact rep_at pre [] x n hn
    refine evs (fun k => by rw [impl_said.l1]) ?_
    rw [hx, w64 (x := (pre.length : Int) + (n : Int)) (by omega) (by omega)]
    refine evn (by omega) ?_
    by_cases h9 : n > 9
    · exact evp (by omega) (evr (by simp [sayS, h9, sayFin]))
    · refine evn (by omega) (evp (by omega) (evp (by omega) ?_))
      simp only [Option.bind_some]
      refine evp (by simp <;> omega) (evs (fun k => by rw [impl_said.l0]) ?_)
      exact evn (by omega) (evr (by simp [sayS, h9, sayFin]))
  | cons y t ih =>
    intro pre x n out hw hn ho
    have hl : whole.length = pre.length + (n + (t.length + 1)) := by simp [hw]
    have hx : rd whole (pre.length : Int) = x := by rw [hw]; exact rep_at pre _ x n hn
    have hy : rd whole ((pre.length : Int) + (n : Int)) = y := by rw [hw]; exact rep_next pre t x y n
    refine evs (fun k => by rw [impl_said.l1]) ?_
    rw [w64 (x := (pre.length : Int) + (n : Int)) (by omega) (by omega), hx, hy]
    refine evp (by omega) (evp (by omega) (evp (by omega) (evp (by omega) ?_)))
    by_cases he : y = x
    · subst he
      refine evp rfl ?_
      rw [w64 (x := (n : Int) + 1) (by omega) (by omega)]
      have h := ih pre y (n + 1) out (by rw [hw, List.replicate_succ']; simp) (by omega) ho
      simpa [sayS] using h
    · refine evn he ?_
      by_cases h9 : n > 9
      · exact evp (by omega) (evr (by simp [sayS, he, h9, sayFin]))
      · refine evn (by omega) ?_
        simp only [Option.bind_some]
        refine evp (by simp <;> omega) (evs (fun k => by rw [impl_said.l0]) (evp (by omega) ?_))
        have h := ih (pre ++ List.replicate n x) y 1 (out ++ [(n : Int), x]) (by rw [hw]; simp) (by omega) (by simp <;> omega)
        have e : sayFin (out ++ [(n : Int), x]) (sayS t y 1) = sayFin out (sayS (y :: t) x n) := by
          simp only [sayS, if_neg he, if_neg h9]
          cases sayS t y 1 <;> simp [sayFin]
        rw [e] at h
        simpa using h
theorem said_ev (l : List Int) (h : l.length ≤ 1000000) : Ev (fun k => impl_said.f k l) (sayFin [] (sayC l)) := by
  unfold impl_said.f
  refine evs (fun k => by rw [impl_said.l0]) ?_
  cases l with
  | nil => exact evn (by simp) (evr (by simp [sayC, sayFin]))
  | cons x t =>
    refine evp (by simp <;> omega) ?_
    have h2 := said_loop (x :: t) h t [] x 1 [] (by simp) (by omega) (by simp)
    simpa [sayC] using h2

theorem impl_in_eq (a b c : Int) : impl_in.f a b c = some (decide (b ≤ a ∧ a ≤ c)) := by
  unfold impl_in.f
  by_cases h : b ≤ a <;> simp [h]
theorem spec_l1In_eq (a b c : Int) : spec_l1In.f a b c = some (decide (b ≤ a ∧ a ≤ c)) := by
  unfold spec_l1In.f
  by_cases h : b ≤ a <;> simp [h]

theorem l1All_loop (lo hi : Int) (whole : List Int) (post : List Int) : ∀ pre : List Int, whole = pre ++ post → whole.length ≤ 4611686018427387904 →
    Ev (fun k => spec_l1All.l0 k lo hi whole (whole.length : Int) (pre.length : Int)) (post.all fun x => decide (lo ≤ x ∧ x ≤ hi)) := by
  induction post with
  | nil =>
    intro pre hw h
    refine evs (fun k => by rw [spec_l1All.l0]) ?_
    exact evn (by simp [hw]) (evr (by simp))
  | cons y post ih =>
    intro pre hw h
    have hl : whole.length = pre.length + (post.length + 1) := by simp [hw]
    have hx : rd whole (pre.length : Int) = y := by rw [hw, rd_mid]
    refine evs (fun k => by rw [spec_l1All.l0]) ?_
    rw [hx]
    simp only [spec_l1In_eq, Option.bind_some, decide_eq_true_eq]
    refine evp (by omega) (evp (by omega) (evp (by omega) ?_))
    by_cases he : lo ≤ y ∧ y ≤ hi
    · refine evp he ?_
      have h2 := ih (pre ++ [y]) (by simp [hw]) h
      rw [w64 (by omega) (by omega)]
      have e : ((y :: post).all fun x => decide (lo ≤ x ∧ x ≤ hi)) = (post.all fun x => decide (lo ≤ x ∧ x ≤ hi)) := by
        rw [List.all_cons, decide_eq_true he, Bool.true_and]
      rw [e]
      simpa using h2
    · refine evn he (evr ?_)
      rw [List.all_cons, decide_eq_false he, Bool.false_and]
theorem l1All_ev (l : List Int) (lo hi : Int) (h : l.length ≤ 4611686018427387904) : Ev (fun k => spec_l1All.f k l lo hi) (l.all fun x => decide (lo ≤ x ∧ x ≤ hi)) := by
  unfold spec_l1All.f
  simpa using l1All_loop lo hi l l [] rfl h

def goodC (l : List Int) : Bool := decide (l.length ≤ 400) && l.all fun x => decide (1 ≤ x ∧ x ≤ 9)
theorem teGood_ev (l : List Int) (h : l.length ≤ 4611686018427387904) : Ev (fun k => spec_teGood.f k l) (goodC l) := by
  unfold spec_teGood.f goodC
  by_cases hl : (l.length : Int) ≤ 400
  · refine evp hl (evb (l1All_ev l 1 9 h) (evr ?_))
    rw [decide_eq_true (by omega : l.length ≤ 400), Bool.true_and]
  · refine evn hl (evr ?_)
    rw [decide_eq_false (by omega : ¬ l.length ≤ 400), Bool.false_and]
theorem isSaid_eq (l : List Int) : impl_isSaid.f l = some (goodC l) := by
  unfold impl_isSaid.f impl_areIn.f goodC
  have e : decide ((0 : Int) ≤ (l.length : Int) ∧ (l.length : Int) ≤ 400) = decide (l.length ≤ 400) := by
    by_cases h : l.length ≤ 400
    · rw [decide_eq_true h, decide_eq_true (by omega)]
    · rw [decide_eq_false h, decide_eq_false (by omega)]
  rw [e]
  rfl
theorem goodC_len {l : List Int} (h : goodC l = true) : l.length ≤ 400 := by
  unfold goodC at h
  simp only [Bool.and_eq_true, decide_eq_true_eq] at h
  exact h.1

theorem laws_eqIntS_loop (post : List Int) : ∀ (pre post' : List Int), post'.length = post.length → (pre ++ post).length ≤ 4611686018427387904 →
    Ev (fun k => laws_eqIntS.l0 k (pre ++ post) (pre ++ post') (pre.length : Int)) (decide (post = post')) := by
  induction post with
  | nil =>
    intro pre post' hl h
    obtain rfl : post' = [] := List.eq_nil_of_length_eq_zero hl
    refine evs (fun k => by rw [laws_eqIntS.l0]) ?_
    exact evn (by simp) (evr (by simp))
  | cons x post ih =>
    intro pre post' hl h
    obtain ⟨y, post', rfl⟩ : ∃ y z, post' = y :: z := by cases post' with
      | nil => simp at hl
      | cons y z => exact ⟨y, z, rfl⟩
    refine evs (fun k => by rw [laws_eqIntS.l0]) ?_
    refine evp (by simp; omega) (evp (by omega) (evp (by simp; omega) ?_))
    rw [rd_mid, rd_mid]
    by_cases he : x = y
    · subst he
      refine evp rfl ?_
      have h2 := ih (pre ++ [x]) post' (by simpa using hl) (by simpa using h)
      simp only [List.append_assoc, List.singleton_append, List.length_append, List.length_singleton] at h2 h
      rw [w64 (by omega) (by simp at h; omega)]
      simpa using h2
    · exact evn he (evr (by simp [he]))
theorem laws_eqIntS_ev (l l' : List Int) (h : l.length ≤ 4611686018427387904) : Ev (fun k => laws_eqIntS.f k l l') (decide (l = l')) := by
  unfold laws_eqIntS.f
  by_cases hl : l.length = l'.length
  · exact evp (by omega) (by simpa using laws_eqIntS_loop l [] l' hl.symm (by simpa using h))
  · exact evn (by omega) (evr (by symm; rw [decide_eq_false_iff_not]; exact fun e => hl (by rw [e])))
theorem laws_eqIntS_self (l : List Int) (h : l.length ≤ 4611686018427387904) : Ev (fun k => laws_eqIntS.f k l l) true := by simpa using laws_eqIntS_ev l l h

theorem markIntS_loop (post : List Int) : ∀ (pre : List Int) (m : Int), 0 ≤ m → m + post.length ≤ 4611686018427387904 → (pre ++ post).length ≤ 4611686018427387904 →
    Ev (fun k => laws_markIntS.l0 k (pre ++ post) m (pre.length : Int)) (m + post.length, pre ++ iota m post.length) := by
  induction post with
  | nil =>
    intro pre m _ _ _
    refine evs (fun k => by rw [laws_markIntS.l0]) ?_
    exact evn (by simp) (evr (by simp [iota]))
  | cons x post ih =>
    intro pre m h0 h1 h
    refine evs (fun k => by rw [laws_markIntS.l0]) ?_
    have hl : (pre.length : Int) < ((pre ++ x :: post).length : Int) := by simp; omega
    simp only [List.length_cons] at h1
    refine evp hl (evp (by omega) ?_)
    have h2 := ih (pre ++ [m]) (m + 1) (by omega) (by omega) (by simpa using h)
    simp only [List.append_assoc, List.singleton_append, List.length_append, List.length_singleton] at h2 h
    rw [w64 (x := (pre.length : Int) + 1) (by omega) (by simp at h; omega), w64 (x := m + 1) (by omega) (by omega), set_midI _ _ _ _ _ rfl]
    simp only [List.length_cons, iota]
    have e : m + ((post.length + 1 : Nat) : Int) = m + 1 + post.length := by omega
    rw [e]
    simpa using h2
theorem markIntS_ev (l : List Int) (m : Int) (h0 : 0 ≤ m) (h1 : m + l.length ≤ 4611686018427387904) : Ev (fun k => laws_markIntS.f k l m) (m + l.length, iota m l.length) := by
  unfold laws_markIntS.f
  simpa using markIntS_loop l [] m h0 h1 (by simp; omega)
theorem heldIntS_loop (n : Nat) : ∀ (pre : List Int) (m : Int), 0 ≤ m → m + n ≤ 4611686018427387904 → pre.length + n ≤ 4611686018427387904 →
    Ev (fun k => laws_heldIntS.l0 k (pre ++ iota m n) m (pre.length : Int)) (m + n) := by
  induction n with
  | zero =>
    intro pre m _ _ _
    refine evs (fun k => by rw [laws_heldIntS.l0]) ?_
    exact evn (by simp [iota]) (evr (by simp))
  | succ n ih =>
    intro pre m h0 h1 h
    refine evs (fun k => by rw [laws_heldIntS.l0]) ?_
    simp only [iota]
    refine evp (by simp; omega) (evp (by omega) (evp (rd_mid _ _ _) ?_))
    have h2 := ih (pre ++ [m]) (m + 1) (by omega) (by omega) (by simp; omega)
    simp only [List.append_assoc, List.singleton_append, List.length_append, List.length_singleton] at h2
    rw [w64 (x := (pre.length : Int) + 1) (by omega) (by omega), w64 (x := m + 1) (by omega) (by omega)]
    have e : m + ((n + 1 : Nat) : Int) = m + 1 + n := by omega
    rw [e]
    simpa using h2
theorem heldIntS_ev (n : Nat) (m : Int) (h0 : 0 ≤ m) (h1 : m + n ≤ 4611686018427387904) : Ev (fun k => laws_heldIntS.f k (iota m n) m) (m + n) := by
  unfold laws_heldIntS.f
  simpa using heldIntS_loop n [] m h0 h1 (by simp; omega)

theorem toIntS_loop (post : List Int) : ∀ (pre z : List Int), z.length = post.length → (pre ++ post).length ≤ 4611686018427387904 →
    Ev (fun k => laws_toIntS.l0 k (pre ++ post) (pre ++ z) (pre.length : Int)) (pre ++ post) := by
  induction post with
  | nil =>
    intro pre z hz h
    obtain rfl : z = [] := List.eq_nil_of_length_eq_zero hz
    refine evs (fun k => by rw [laws_toIntS.l0]) ?_
    exact evn (by simp) (Ev.now _)
  | cons x post ih =>
    intro pre z hz h
    obtain ⟨y, z, rfl⟩ : ∃ y z', z = y :: z' := by cases z with
      | nil => simp at hz
      | cons y z => exact ⟨y, z, rfl⟩
    refine evs (fun k => by rw [laws_toIntS.l0]) ?_
    refine evp (by simp; omega) (evp (by omega) (evp (by simp; omega) ?_))
    have h2 := ih (pre ++ [x]) z (by simpa using hz) (by simpa using h)
    simp only [List.append_assoc, List.singleton_append, List.length_append, List.length_singleton] at h2 h
    rw [rd_mid, set_midI _ _ _ _ _ rfl, w64 (by omega) (by simp at h; omega)]
    simpa using h2
theorem toIntS_ev (l : List Int) (h : l.length ≤ 35184372088832) : Ev (fun k => laws_toIntS.f k l) l := by
  unfold laws_toIntS.f
  refine evp (by omega) (evp (by omega) ?_)
  simpa using toIntS_loop l [] (List.replicate l.length 0) (by simp) (by simp; omega)

theorem sw_both (l : List Int) (hl : l.length ≤ 1048576) : ∃ r : List Int × Bool, r.1.length ≤ 100000 ∧ Ev (fun k => spec_SayWord.f k l) r ∧ Ev (fun k => impl_SayWord.f k l) r := by
  simp only [spec_SayWord.f, impl_SayWord.f, isSaid_eq, Option.bind_some]
  by_cases hg : goodC l = true
  · have hlen := goodC_len hg
    have h1 := teSay_ev l (by omega)
    have h2 := said_ev l (by omega)
    cases hs : sayC l with
    | none =>
      rw [hs] at h1 h2
      exact ⟨([], false), by simp, evb (teGood_ev l (by omega)) (evp hg (evb h1 (evn (by simp [sayFin]) (Ev.now _)))), evp hg (evb h2 (evn (by simp [sayFin]) (Ev.now _)))⟩
    | some o =>
      have ho := sayC_length l o hs
      rw [hs] at h1 h2
      by_cases h4 : (([] ++ o : List Int).length : Int) ≤ 400
      · exact ⟨([] ++ o, true), by simp; omega, evb (teGood_ev l (by omega)) (evp hg (evb h1 (evp (decide_eq_true h4) (Ev.now _)))), evp hg (evb h2 (evp (decide_eq_true h4) (Ev.now _)))⟩
      · exact ⟨([], false), by simp, evb (teGood_ev l (by omega)) (evp hg (evb h1 (evn (by simp only [sayFin, decide_eq_true_eq]; exact h4) (Ev.now _)))), evp hg (evb h2 (evn (by simp only [sayFin, decide_eq_true_eq]; exact h4) (Ev.now _)))⟩
  · exact ⟨([], false), by simp, evb (teGood_ev l (by omega)) (evn hg (Ev.now _)), evn hg (Ev.now _)⟩
theorem FnExactSayWord : laws_FnExactSayWord.Pure := by
  intro l _ _ _
  refine Ev.rounds (g := fun k => laws_FnExactSayWord.f k l) ?_
  unfold laws_FnExactSayWord.f
  by_cases hbig : (l.length : Int) > 1048576
  · exact evp hbig (Ev.now _)
  obtain ⟨r, hr, hs, hi⟩ := sw_both l (by omega)
  have ht := toIntS_ev l (by omega)
  refine evn hbig (evb ht (evb hs (evb ht (evb hi (evb (laws_eqIntS_self _ (by omega)) (evp rfl ?_))))))
  refine evs (fun k => by rw [laws_FnExactSayWord.j0]) ?_
  refine evn (by simp) (evb ht (evb (laws_eqIntS_self _ (by omega)) (evp rfl (evb (markIntS_ev _ 1 (by omega) (by omega)) (evn (by simp only; omega) (evb (laws_eqIntS_self _ (by omega)) (evp rfl ?_)))))))
  refine evs (fun k => by rw [laws_FnExactSayWord.j1]) ?_
  refine evn (by simp) (evb (markIntS_ev _ 1 (by omega) (by omega)) (evb (heldIntS_ev _ 1 (by omega) (by omega)) (evn (by omega) (evp rfl ?_))))
  refine evb ht (evb hi (evb (laws_eqIntS_self _ (by omega)) (evp rfl ?_)))
  refine evs (fun k => by rw [laws_FnExactSayWord.j2]) ?_
  exact evn (by simp) (evb (heldIntS_ev _ 1 (by omega) (by omega)) (evn (by omega) (evp rfl (Ev.now _))))

end Go.Proofs.Ytnhohachlieglaa.Pure
