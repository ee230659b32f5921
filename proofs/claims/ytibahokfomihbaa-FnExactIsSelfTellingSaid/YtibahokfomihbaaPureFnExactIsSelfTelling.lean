/- For every list of at most 2^20 numbers, IsSelfTelling of the program and of the reference agree, and the list is not changed. -/
import Derived.Test.YtibahokfomihbaaPFnExactIsSelfTellingx2
import Derived.Test.YtibahokfomihbaaWMore
set_option linter.unusedVariables false
set_option linter.unusedSimpArgs false
namespace Go.Proofs.Ytibahokfomihbaa.Pure
open Go.RowKit Go.Proofs.Ytibahokfomihbaa.PFnExactIsSelfTelling Go.Proofs.YtibahokfomihbaaW.PrintWords Go.Proofs.YtibahokfomihbaaW.PrintLast

theorem w64 {x : Int} (h1 : -9223372036854775808 ≤ x) (h2 : x ≤ 9223372036854775807) : wrap64 x = x := by unfold wrap64; omega

theorem evp {α : Type} {c : Prop} [Decidable c] {a b : Nat → Option α} {r : α} (h : c) (k : Ev a r) : Ev (fun n => if c then a n else b n) r := Ev.congr (fun _ => if_pos h) k
theorem evn {α : Type} {c : Prop} [Decidable c] {a b : Nat → Option α} {r : α} (h : ¬ c) (k : Ev b r) : Ev (fun n => if c then a n else b n) r := Ev.congr (fun _ => if_neg h) k
theorem evr {α : Type} {x r : α} (h : x = r) : Ev (fun _ => some x) r := h ▸ Ev.now x
theorem evb {α β : Type} {g : Nat → Option α} {f : Nat → α → Option β} {a : α} {r : β} (h : Ev g a) (k : Ev (fun n => f n a) r) : Ev (fun n => (g n).bind fun x => f n x) r := Ev.bind h k
theorem evs {α : Type} {g f : Nat → Option α} {r : α} (h : ∀ k, g (k + 1) = f k) (k : Ev f r) : Ev g r := Ev.step h k
theorem evu {α : Type} {g : Nat → Option α} {r s : α} (h : Ev g r) (k : Ev g s) : r = s := by
  obtain ⟨K, h⟩ := h
  obtain ⟨L, k⟩ := k
  have := (h (K + L) (by omega)).symm.trans (k (K + L) (by omega))
  injection this

theorem rd_mid (pre post : List Int) (x : Int) : rd (pre ++ x :: post) (pre.length : Int) = x := by simp [rd]
theorem rd_mid' (pre post : List Int) (x i : Int) (h : i = pre.length) : rd (pre ++ x :: post) i = x := by subst h; exact rd_mid pre post x
theorem set_mid {α : Type} (pre post : List α) (x y : α) : (pre ++ x :: post).set pre.length y = pre ++ y :: post := by simp
theorem set_midI {α : Type} (pre post : List α) (x y : α) (i : Int) (h : i = pre.length) : (pre ++ x :: post).set i.toNat y = pre ++ y :: post := by subst h; simp
theorem rd_nat (xs : List Int) (i : Nat) : rd xs (i : Int) = xs.getD i 0 := by simp [rd]
theorem rd_get (xs : List Int) (i : Nat) (h : i < xs.length) : rd xs (i : Int) = xs[i] := by simp [rd, h]
theorem rd_mem (xs : List Int) (i : Int) (h0 : 0 ≤ i) (h : i < xs.length) : rd xs i ∈ xs := by
  have hi : i.toNat < xs.length := by omega
  simp only [rd, List.getD_eq_getElem?_getD, List.getElem?_eq_getElem hi, Option.getD_some]
  exact List.getElem_mem hi
/-- m, m + 1, .. -/
def iota (m : Int) : Nat → List Int
  | 0 => []
  | n + 1 => m :: iota (m + 1) n
theorem iota_length (m : Int) (n : Nat) : (iota m n).length = n := by induction n generalizing m with
  | zero => rfl
  | succ n ih => simp [iota, ih]
/-- A list is cut in two. -/
theorem cut_at {α : Type} (xs : List α) (i : Nat) (h : i < xs.length) : ∃ pre x post, xs = pre ++ x :: post ∧ pre.length = i := by
  refine ⟨xs.take i, xs[i], xs.drop (i + 1), ?_, by simp; omega⟩
  simp
theorem wf64 {x : Int} (h : (Lit.int .i64 x).wf = true) : -9223372036854775808 ≤ x ∧ x ≤ 9223372036854775807 := by
  have h2 : (decide (IntKind.i64.min ≤ x) && decide (x ≤ IntKind.i64.max)) = true := h
  rw [show IntKind.i64.min = -9223372036854775808 from rfl, show IntKind.i64.max = 9223372036854775807 from rfl] at h2
  simpa using h2

def tcStep (n : Nat) (acc : List Int) (d : Int) : List Int := if 0 ≤ d ∧ d ≤ (n : Int) - 1 then acc.set d.toNat (wrap64 (rd acc d + 1)) else acc
def tellC (l : List Int) : List Int := l.foldl (tcStep l.length) (List.replicate l.length 0)
theorem tcStep_length (n : Nat) (acc : List Int) (d : Int) : (tcStep n acc d).length = acc.length := by unfold tcStep; split <;> simp
theorem tcFold_length (n : Nat) (l : List Int) : ∀ acc : List Int, (l.foldl (tcStep n) acc).length = acc.length := by
  induction l with
  | nil => intro acc; rfl
  | cons x l ih => intro acc; simp only [List.foldl_cons]; rw [ih, tcStep_length]
theorem tellC_length (l : List Int) : (tellC l).length = l.length := by simp [tellC, tcFold_length]

theorem impl_in_eq (a b c : Int) : impl_in.f a b c = some (decide (b ≤ a ∧ a ≤ c)) := by
  unfold impl_in.f
  by_cases h : b ≤ a <;> simp [h]
theorem spec_l1In_eq (a b c : Int) : spec_l1In.f a b c = some (decide (b ≤ a ∧ a ≤ c)) := by
  unfold spec_l1In.f
  by_cases h : b ≤ a <;> simp [h]

theorem teCounts_loop (whole : List Int) (post : List Int) : ∀ (pre acc : List Int), whole = pre ++ post → acc.length = whole.length → whole.length ≤ 4611686018427387904 →
    Ev (fun k => spec_teCounts.l0 k whole acc whole (whole.length : Int) (pre.length : Int)) (post.foldl (tcStep whole.length) acc) := by
  induction post with
  | nil =>
    intro pre acc hw ha h
    refine evs (fun k => by rw [spec_teCounts.l0]) ?_
    exact evn (by simp [hw]) (Ev.now _)
  | cons x post ih =>
    intro pre acc hw ha h
    have hl : whole.length = pre.length + (post.length + 1) := by simp [hw]
    refine evs (fun k => by rw [spec_teCounts.l0]) ?_
    have hx : rd whole (pre.length : Int) = x := by rw [hw, rd_mid]
    rw [hx, w64 (x := (whole.length : Int) - 1) (by omega) (by omega), w64 (x := (pre.length : Int) + 1) (by omega) (by omega)]
    simp only [spec_l1In_eq, Option.bind_some, decide_eq_true_eq]
    refine evp (by omega) (evp (by omega) (evp (by omega) ?_))
    have h2 := ih (pre ++ [x]) (tcStep whole.length acc x) (by simp [hw]) (by rw [tcStep_length, ha]) h
    simp only [List.length_append, List.length_singleton] at h2
    by_cases hd : 0 ≤ x ∧ x ≤ (whole.length : Int) - 1
    · refine evp hd (evp hd.1 (evp (by omega) ?_))
      simpa [tcStep, hd] using h2
    · refine evn hd ?_
      simpa [tcStep, hd] using h2
theorem teCounts_ev (l : List Int) (h : l.length ≤ 35184372088832) : Ev (fun k => spec_teCounts.f k l) (tellC l) := by
  unfold spec_teCounts.f
  refine evp (by omega) (evp (by omega) ?_)
  simpa [tellC] using teCounts_loop l l [] (List.replicate l.length 0) rfl (by simp) (by omega)
theorem tellCounts_same : ∀ (k : Nat) (a b c : List Int) (d e : Int), impl_tellCounts.l0 k a b c d e = spec_teCounts.l0 k a b c d e
  | 0, _, _, _, _, _ => rfl
  | k + 1, a, b, c, d, e => by simp only [impl_tellCounts.l0, spec_teCounts.l0, impl_in_eq, spec_l1In_eq, tellCounts_same k]
theorem tellCounts_ev (l : List Int) (h : l.length ≤ 35184372088832) : Ev (fun k => impl_tellCounts.f k l) (tellC l) := by
  have h2 := teCounts_ev l h
  unfold spec_teCounts.f at h2
  unfold impl_tellCounts.f
  simpa only [tellCounts_same] using h2

theorem laws_eqIntS_loop (post : List Int) : ∀ (pre post' : List Int), post'.length = post.length → (pre ++ post).length ≤ 4611686018427387904 →
    Ev (fun k => laws_eqIntS.l0 k (pre ++ post) (pre ++ post') (pre.length : Int)) (decide (post = post')) := by
  induction post with
  | nil =>
    intro pre post' hl h
    obtain rfl : post' = [] := List.eq_nil_of_length_eq_zero hl
    refine evs (fun k => by rw [laws_eqIntS.l0]) ?_
    exact evn (by simp) (evr (by simp))
  | cons x post ih =>
    intro pre post' hl h
    obtain ⟨y, post', rfl⟩ : ∃ y z, post' = y :: z := by cases post' with
      | nil => simp at hl
      | cons y z => exact ⟨y, z, rfl⟩
    refine evs (fun k => by rw [laws_eqIntS.l0]) ?_
    refine evp (by simp; omega) (evp (by omega) (evp (by simp; omega) ?_))
    rw [rd_mid, rd_mid]
    by_cases he : x = y
    · subst he
      refine evp rfl ?_
      have h2 := ih (pre ++ [x]) post' (by simpa using hl) (by simpa using h)
      simp only [List.append_assoc, List.singleton_append, List.length_append, List.length_singleton] at h2 h
      rw [w64 (by omega) (by simp at h; omega)]
      simpa using h2
    · exact evn he (evr (by simp [he]))
theorem laws_eqIntS_ev (l l' : List Int) (h : l.length ≤ 4611686018427387904) : Ev (fun k => laws_eqIntS.f k l l') (decide (l = l')) := by
  unfold laws_eqIntS.f
  by_cases hl : l.length = l'.length
  · exact evp (by omega) (by simpa using laws_eqIntS_loop l [] l' hl.symm (by simpa using h))
  · exact evn (by omega) (evr (by symm; rw [decide_eq_false_iff_not]; exact fun e => hl (by rw [e])))
theorem laws_eqIntS_self (l : List Int) (h : l.length ≤ 4611686018427387904) : Ev (fun k => laws_eqIntS.f k l l) true := by simpa using laws_eqIntS_ev l l h

theorem spec_l1Same_loop (post : List Int) : ∀ (pre post' : List Int), post'.length = post.length → (pre ++ post).length ≤ 4611686018427387904 →
    Ev (fun k => spec_l1Same.l0 k (pre ++ post) (pre ++ post') ((pre ++ post).length : Int) (pre.length : Int)) (decide (post = post')) := by
  induction post with
  | nil =>
    intro pre post' hl h
    obtain rfl : post' = [] := List.eq_nil_of_length_eq_zero hl
    refine evs (fun k => by rw [spec_l1Same.l0]) ?_
    exact evn (by simp) (evr (by simp))
  | cons x post ih =>
    intro pre post' hl h
    obtain ⟨y, post', rfl⟩ : ∃ y z, post' = y :: z := by cases post' with
      | nil => simp at hl
      | cons y z => exact ⟨y, z, rfl⟩
    refine evs (fun k => by rw [spec_l1Same.l0]) ?_
    refine evp (by simp; omega) (evp (by omega) (evp (by simp; omega) (evp (by simp; omega) ?_)))
    rw [rd_mid, rd_mid]
    by_cases he : x = y
    · subst he
      refine evp rfl ?_
      have h2 := ih (pre ++ [x]) post' (by simpa using hl) (by simpa using h)
      simp only [List.append_assoc, List.singleton_append] at h2
      rw [w64 (by omega) (by simp at h; omega)]
      simpa using h2
    · exact evn he (evr (by simp [he]))
theorem spec_l1Same_ev (l l' : List Int) (h : l.length ≤ 4611686018427387904) : Ev (fun k => spec_l1Same.f k l l') (decide (l = l')) := by
  unfold spec_l1Same.f
  by_cases hl : l.length = l'.length
  · exact evp (by omega) (by simpa using spec_l1Same_loop l [] l' hl.symm (by simpa using h))
  · exact evn (by omega) (evr (by symm; rw [decide_eq_false_iff_not]; exact fun e => hl (by rw [e])))
theorem spec_l1Same_self (l : List Int) (h : l.length ≤ 4611686018427387904) : Ev (fun k => spec_l1Same.f k l l) true := by simpa using spec_l1Same_ev l l h

theorem slices_Equal_int_int_loop (post : List Int) : ∀ (pre post' : List Int), post'.length = post.length → (pre ++ post).length ≤ 4611686018427387904 →
    Ev (fun k => slices_Equal_int_int.l0 k (pre ++ post) (pre ++ post') ((pre ++ post).length : Int) (pre.length : Int)) (decide (post = post')) := by
  induction post with
  | nil =>
    intro pre post' hl h
    obtain rfl : post' = [] := List.eq_nil_of_length_eq_zero hl
    refine evs (fun k => by rw [slices_Equal_int_int.l0]) ?_
    exact evn (by simp) (evr (by simp))
  | cons x post ih =>
    intro pre post' hl h
    obtain ⟨y, post', rfl⟩ : ∃ y z, post' = y :: z := by cases post' with
      | nil => simp at hl
      | cons y z => exact ⟨y, z, rfl⟩
    refine evs (fun k => by rw [slices_Equal_int_int.l0]) ?_
    refine evp (by simp; omega) (evp (by omega) (evp (by simp; omega) (evp (by simp; omega) ?_)))
    rw [rd_mid, rd_mid]
    by_cases he : x = y
    · subst he
      refine evp rfl ?_
      have h2 := ih (pre ++ [x]) post' (by simpa using hl) (by simpa using h)
      simp only [List.append_assoc, List.singleton_append] at h2
      rw [w64 (by omega) (by simp at h; omega)]
      simpa using h2
    · exact evn he (evr (by simp [he]))
theorem slices_Equal_int_int_ev (l l' : List Int) (h : l.length ≤ 4611686018427387904) : Ev (fun k => slices_Equal_int_int.f k l l') (decide (l = l')) := by
  unfold slices_Equal_int_int.f
  by_cases hl : l.length = l'.length
  · exact evp (by omega) (by simpa using slices_Equal_int_int_loop l [] l' hl.symm (by simpa using h))
  · exact evn (by omega) (evr (by symm; rw [decide_eq_false_iff_not]; exact fun e => hl (by rw [e])))
theorem slices_Equal_int_int_self (l : List Int) (h : l.length ≤ 4611686018427387904) : Ev (fun k => slices_Equal_int_int.f k l l) true := by simpa using slices_Equal_int_int_ev l l h

theorem toIntS_loop (post : List Int) : ∀ (pre z : List Int), z.length = post.length → (pre ++ post).length ≤ 4611686018427387904 →
    Ev (fun k => laws_toIntS.l0 k (pre ++ post) (pre ++ z) (pre.length : Int)) (pre ++ post) := by
  induction post with
  | nil =>
    intro pre z hz h
    obtain rfl : z = [] := List.eq_nil_of_length_eq_zero hz
    refine evs (fun k => by rw [laws_toIntS.l0]) ?_
    exact evn (by simp) (Ev.now _)
  | cons x post ih =>
    intro pre z hz h
    obtain ⟨y, z, rfl⟩ : ∃ y z', z = y :: z' := by cases z with
      | nil => simp at hz
      | cons y z => exact ⟨y, z, rfl⟩
    refine evs (fun k => by rw [laws_toIntS.l0]) ?_
    refine evp (by simp; omega) (evp (by omega) (evp (by simp; omega) ?_))
    have h2 := ih (pre ++ [x]) z (by simpa using hz) (by simpa using h)
    simp only [List.append_assoc, List.singleton_append, List.length_append, List.length_singleton] at h2 h
    rw [rd_mid, set_midI _ _ _ _ _ rfl, w64 (by omega) (by simp at h; omega)]
    simpa using h2
theorem toIntS_ev (l : List Int) (h : l.length ≤ 35184372088832) : Ev (fun k => laws_toIntS.f k l) l := by
  unfold laws_toIntS.f
  refine evp (by omega) (evp (by omega) ?_)
  simpa using toIntS_loop l [] (List.replicate l.length 0) (by simp) (by simp; omega)

theorem ist_both (l : List Int) : ∃ r : Bool × Bool, Ev (fun k => spec_IsSelfTelling.f k l) r ∧ Ev (fun k => impl_IsSelfTelling.f k l) r := by
  simp only [spec_IsSelfTelling.f, impl_IsSelfTelling.f, spec_l1In_eq, impl_in_eq, Option.bind_some, decide_eq_true_eq]
  by_cases h1 : 1 ≤ (l.length : Int) ∧ (l.length : Int) ≤ 12
  · have ht := tellC_length l
    exact ⟨(decide (tellC l = l), true), evp h1 (evb (teCounts_ev l (by omega)) (evb (spec_l1Same_ev _ l (by omega)) (Ev.now _))), evp h1 (evb (tellCounts_ev l (by omega)) (evb (slices_Equal_int_int_ev _ l (by omega)) (Ev.now _)))⟩
  · exact ⟨(false, false), evn h1 (Ev.now _), evn h1 (Ev.now _)⟩
theorem FnExactIsSelfTelling : laws_FnExactIsSelfTelling.Pure := by
  intro l _ _ _
  refine Ev.rounds (g := fun k => laws_FnExactIsSelfTelling.f k l) ?_
  unfold laws_FnExactIsSelfTelling.f
  by_cases hbig : (l.length : Int) > 1048576
  · exact evp hbig (Ev.now _)
  obtain ⟨r, hs, hi⟩ := ist_both l
  have ht := toIntS_ev l (by omega)
  refine evn hbig (evb ht (evb hs (evb ht (evb hi (evn (by simp) ?_)))))
  refine evs (fun k => by rw [laws_FnExactIsSelfTelling.j0]) ?_
  exact evn (by simp) (evb ht (evb (laws_eqIntS_self _ (by omega)) (evp rfl (Ev.now _))))

end Go.Proofs.Ytibahokfomihbaa.Pure
