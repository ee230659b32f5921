/- For all codes: sorted steps depend on gaps alone, are divided by the base less one, and words are their values. -/
import Derived.Test.YtkkhldjhhjpobaaGreatPFnStepsByGapsx11
import Derived.Test.YtkkhldjhhjpobaaGreatWMore
set_option linter.unusedVariables false
set_option linter.unusedSimpArgs false
namespace Go.Proofs.YtkkhldjhhjpobaaGreat.Pure
open Go.RowKit Go.Proofs.YtkkhldjhhjpobaaGreat.PFnStepsByGaps Go.Proofs.YtkkhldjhhjpobaaGreatW.PrintWords Go.Proofs.YtkkhldjhhjpobaaGreatW.PrintLast

theorem w64 {x : Int} (h1 : -9223372036854775808 ≤ x) (h2 : x ≤ 9223372036854775807) : wrap64 x = x := by unfold wrap64; omega

theorem w64n (n : Nat) (h : n ≤ 9223372036854775807) : wrap64 (n : Int) = (n : Int) := w64 (by omega) (by omega)

theorem evp {α : Type} {c : Prop} [Decidable c] {a b : Nat → Option α} {r : α} (h : c) (k : Ev a r) : Ev (fun n => if c then a n else b n) r := Ev.congr (fun _ => if_pos h) k
theorem evn {α : Type} {c : Prop} [Decidable c] {a b : Nat → Option α} {r : α} (h : ¬ c) (k : Ev b r) : Ev (fun n => if c then a n else b n) r := Ev.congr (fun _ => if_neg h) k
theorem evr {α : Type} {x r : α} (h : x = r) : Ev (fun _ => some x) r := h ▸ Ev.now x
theorem evb {α β : Type} {g : Nat → Option α} {f : Nat → α → Option β} {a : α} {r : β} (h : Ev g a) (k : Ev (fun n => f n a) r) : Ev (fun n => (g n).bind fun x => f n x) r := Ev.bind h k
theorem evc {α β : Type} {x : Option α} {a : α} {f : Nat → α → Option β} {r : β} (h : x = some a) (k : Ev (fun n => f n a) r) : Ev (fun n => x.bind fun y => f n y) r := by subst h; exact k
theorem evs {α : Type} {g f : Nat → Option α} {r : α} (h : ∀ k, g (k + 1) = f k) (k : Ev f r) : Ev g r := Ev.step h k
theorem rd_mid (pre post : List Int) (x : Int) : rd (pre ++ x :: post) (pre.length : Int) = x := by simp [rd]
theorem rd_mid' (pre post : List Int) (x i : Int) (h : i = pre.length) : rd (pre ++ x :: post) i = x := by subst h; exact rd_mid pre post x
theorem set_mid {α : Type} (pre post : List α) (x y : α) : (pre ++ x :: post).set pre.length y = pre ++ y :: post := by simp
theorem set_midI {α : Type} (pre post : List α) (x y : α) (i : Int) (h : i = pre.length) : (pre ++ x :: post).set i.toNat y = pre ++ y :: post := by subst h; simp
theorem rd_nat (xs : List Int) (i : Nat) : rd xs (i : Int) = xs.getD i 0 := by simp [rd]
theorem rd_mem (xs : List Int) (i : Int) (h0 : 0 ≤ i) (h : i < xs.length) : rd xs i ∈ xs := by
  have hi : i.toNat < xs.length := by omega
  simp only [rd, List.getD_eq_getElem?_getD, List.getElem?_eq_getElem hi, Option.getD_some]
  exact List.getElem_mem hi
def ic (l : List Nat) : List Int := l.map (fun x : Nat => (x : Int))
theorem ic_cons (x : Nat) (l : List Nat) : ic (x :: l) = (x : Int) :: ic l := rfl
theorem ic_append (l m : List Nat) : ic (l ++ m) = ic l ++ ic m := by simp [ic]
theorem ic_length (l : List Nat) : (ic l).length = l.length := by simp [ic]
theorem ic_reverse (l : List Nat) : ic l.reverse = (ic l).reverse := by simp [ic]
theorem ic_rd (pre post : List Nat) (x : Nat) : rd (ic (pre ++ x :: post)) (pre.length : Int) = (x : Int) := by
  rw [ic_append, ic_cons, show ((pre.length : Nat) : Int) = (((ic pre).length : Nat) : Int) by simp [ic], rd_mid]

def val (b : Nat) (v : Nat) : List Nat → Nat
  | [] => v
  | d :: l => val b (v * b + d) l
theorem val_append (b v : Nat) (l m : List Nat) : val b v (l ++ m) = val b (val b v l) m := by
  induction l generalizing v with
  | nil => rfl
  | cons d l ih => exact ih _
theorem val_lt {b : Nat} (l : List Nat) : ∀ v : Nat, (∀ d ∈ l, d < b) → val b v l < (v + 1) * b ^ l.length := by
  induction l with
  | nil => intro v _; simp [val]
  | cons d l ih =>
    intro v h
    have h1 := ih (v * b + d) (fun x hx => h x (by simp [hx]))
    have hd := h d (by simp)
    have h2 : (v * b + d + 1) * b ^ l.length ≤ (v + 1) * b * b ^ l.length := Nat.mul_le_mul_right _ (by rw [Nat.add_mul]; omega)
    simp only [val, List.length_cons]
    rw [Nat.pow_succ, Nat.mul_comm (b ^ l.length) b, ← Nat.mul_assoc]
    omega
theorem val_split (b : Nat) (l : List Nat) : ∀ v : Nat, val b v l = v * b ^ l.length + val b 0 l := by
  induction l with
  | nil => intro v; simp [val]
  | cons d l ih =>
    intro v
    simp only [val, List.length_cons]
    rw [ih (v * b + d), ih (0 * b + d), Nat.add_mul, Nat.pow_succ, Nat.mul_comm (b ^ l.length) b, ← Nat.mul_assoc]
    simp only [Nat.zero_mul, Nat.zero_add]
    omega
theorem val_lt0 {b : Nat} (l : List Nat) (h : ∀ d ∈ l, d < b) : val b 0 l < b ^ l.length := by
  have := val_lt l 0 h
  simpa using this
theorem val_cons (b d : Nat) (l : List Nat) : val b 0 (d :: l) = d * b ^ l.length + val b 0 l := by
  simp only [val, Nat.zero_mul, Nat.zero_add]
  exact val_split b l d
theorem val_app (b : Nat) (l m : List Nat) : val b 0 (l ++ m) = val b 0 l * b ^ m.length + val b 0 m := by
  rw [val_append, val_split b m]
theorem div_unique {E a r c s : Nat} (hr : r < E) (hs : s < E) (h : a * E + r = c * E + s) : a = c ∧ r = s := by
  have h1 : (a * E + r) / E = a := by rw [Nat.mul_comm, Nat.mul_add_div (by omega), Nat.div_eq_of_lt hr, Nat.add_zero]
  have h2 : (c * E + s) / E = c := by rw [Nat.mul_comm, Nat.mul_add_div (by omega), Nat.div_eq_of_lt hs, Nat.add_zero]
  have h3 : a = c := by rw [← h1, h, h2]
  subst h3
  exact ⟨rfl, by omega⟩
theorem val_inj {b : Nat} (x : List Nat) : ∀ y : List Nat, x.length = y.length → (∀ d ∈ x, d < b) → (∀ d ∈ y, d < b) → val b 0 x = val b 0 y → x = y := by
  induction x with
  | nil =>
    intro y hl _ _ _
    exact (List.eq_nil_of_length_eq_zero hl.symm).symm
  | cons d x ih =>
    intro y hl hx hy h
    cases y with
    | nil => simp at hl
    | cons e y =>
      have hl2 : x.length = y.length := by simpa using hl
      rw [val_cons, val_cons, hl2] at h
      have hx2 : ∀ d ∈ x, d < b := fun z hz => hx z (by simp [hz])
      have hy2 : ∀ d ∈ y, d < b := fun z hz => hy z (by simp [hz])
      obtain ⟨h1, h2⟩ := div_unique (by have := val_lt0 x hx2; rw [hl2] at this; exact this) (val_lt0 y hy2) h
      rw [h1, ih y hl2 hx2 hy2 h2]
theorem impl_in_eq (a b c : Int) : impl_in.f a b c = some (decide (b ≤ a ∧ a ≤ c)) := by
  unfold impl_in.f
  by_cases h : b ≤ a <;> simp [h]
theorem spec_l1In_eq (a b c : Int) : spec_l1In.f a b c = some (decide (b ≤ a ∧ a ≤ c)) := by
  unfold spec_l1In.f
  by_cases h : b ≤ a <;> simp [h]

theorem tmod_cast (a b : Nat) : Int.tmod (a : Int) (b : Int) = ((a % b : Nat) : Int) := (Int.ofNat_tmod a b).symm
theorem tdiv_cast (a b : Nat) : Int.tdiv (a : Int) (b : Int) = ((a / b : Nat) : Int) := (Int.ofNat_tdiv a b).symm
theorem natOf {a : Int} (h : 0 ≤ a) : ∃ n : Nat, a = (n : Int) := ⟨a.toNat, by omega⟩

def wdN (b : Nat) : Nat → Nat → List Nat
  | 0, _ => []
  | w + 1, n => wdN b w (n / b) ++ [n % b]
theorem wdN_length (b w : Nat) : ∀ n, (wdN b w n).length = w := by
  induction w with
  | zero => intro n; rfl
  | succ w ih => intro n; simp [wdN, ih]
theorem wdN_lt {b : Nat} (hb : 1 ≤ b) (w : Nat) : ∀ n, ∀ d ∈ wdN b w n, d < b := by
  induction w with
  | zero => intro n d hd; simp [wdN] at hd
  | succ w ih =>
    intro n d hd
    simp only [wdN, List.mem_append, List.mem_singleton] at hd
    rcases hd with h | rfl
    · exact ih _ d h
    · exact Nat.mod_lt _ (by omega)
theorem wdN_val (b w : Nat) : ∀ n, val b 0 (wdN b w n) = n % b ^ w := by
  induction w with
  | zero => intro n; simp [wdN, val, Nat.mod_one]
  | succ w ih =>
    intro n
    rw [wdN, val_app, ih, Nat.pow_succ, Nat.mul_comm (b ^ w) b, Nat.mod_mul]
    show (n / b % b ^ w) * b ^ 1 + (0 * b + n % b) = _
    rw [Nat.pow_one, Nat.mul_comm b]
    omega
theorem wdN_of {b : Nat} (hb : 1 ≤ b) (l : List Nat) (h : ∀ d ∈ l, d < b) : wdN b l.length (val b 0 l) = l :=
  val_inj _ _ (wdN_length _ _ _) (wdN_lt hb _ _) h (by rw [wdN_val, Nat.mod_eq_of_lt (val_lt0 l h)])
theorem pw8 {b w : Nat} (hb : b ≤ 16) (hw : w ≤ 8) : b ^ w ≤ 4294967296 :=
  Nat.le_trans (Nat.pow_le_pow_left hb w) (Nat.le_trans (Nat.pow_le_pow_right (by omega) hw) (by decide))
theorem impl_pow_loop (b : Nat) (hb1 : 1 ≤ b) (hb : b ≤ 16) (p : Nat) (hp : p ≤ 8) (e : Nat) : ∀ i : Nat, i + e = p → Ev (fun k => impl_toPower.l0 k (b : Int) ((b ^ i : Nat) : Int) (p : Int) (i : Int)) ((b ^ p : Nat) : Int) := by
  induction e with
  | zero =>
    intro i h
    obtain rfl : i = p := by omega
    refine evs (fun k => by rw [impl_toPower.l0]) ?_
    exact evn (by omega) (evr rfl)
  | succ e ih =>
    intro i h
    have h2 := ih (i + 1) (by omega)
    have h3 := pw8 hb (show i + 1 ≤ 8 by omega)
    refine evs (fun k => by rw [impl_toPower.l0]) ?_
    rw [show ((b ^ i : Nat) : Int) * (b : Int) = ((b ^ (i + 1) : Nat) : Int) by rw [Nat.pow_succ, Int.natCast_mul], w64n _ (by omega), show (i : Int) + 1 = ((i + 1 : Nat) : Int) by omega, w64n _ (by omega)]
    exact evp (by omega) h2
theorem impl_toPower_ev (b p : Nat) (hb1 : 1 ≤ b) (hb : b ≤ 16) (hp : p ≤ 8) : Ev (fun k => impl_toPower.f k (b : Int) (p : Int)) ((b ^ p : Nat) : Int) := by
  unfold impl_toPower.f
  exact impl_pow_loop b hb1 hb p hp p 0 (by omega)

theorem impl_wordOf_wloop (b : Nat) (hb : 2 ≤ b) (w : Nat) : ∀ (n : Nat) (R : List Int), n ≤ 1000000000000000000 → w + R.length ≤ 1000000 → Ev (fun k => impl_wordOf.l0 k (n : Int) (b : Int) (List.replicate w 0 ++ R) ((w : Int) - 1)) (ic (wdN b w n) ++ R) := by
  induction w with
  | zero =>
    intro n R _ _
    refine evs (fun k => by rw [impl_wordOf.l0]) ?_
    exact evn (by omega) (evr (by simp [wdN, ic]))
  | succ w ih =>
    intro n R hn hl
    have e0 : (List.replicate (w + 1) (0 : Int)) ++ R = List.replicate w 0 ++ 0 :: R := by rw [List.replicate_succ']; simp
    have hd : n / b ≤ 1000000000000000000 := Nat.le_trans (Nat.div_le_self _ _) hn
    have h := ih (n / b) (((n % b : Nat) : Int) :: R) hd (by simp; omega)
    refine evs (fun k => by rw [impl_wordOf.l0]) ?_
    rw [e0, tmod_cast, tdiv_cast, show (((w + 1 : Nat) : Int) - 1) = (w : Int) by omega, set_midI _ _ _ _ _ (by simp), w64n _ (by omega), w64 (x := (w : Int) - 1) (by omega) (by omega)]
    refine evp (by omega) (evn (by omega) (evp (by omega) (evp (by simp; omega) ?_)))
    have e1 : ic (wdN b (w + 1) n) ++ R = ic (wdN b w (n / b)) ++ ((n % b : Nat) : Int) :: R := by simp [wdN, ic]
    rw [e1]
    exact h
theorem impl_wordOf_wev (b n w : Nat) (hb : 2 ≤ b) (hn : n ≤ 1000000000000000000) (hw : w ≤ 1000) : Ev (fun k => impl_wordOf.f k (n : Int) (w : Int) (b : Int)) (ic (wdN b w n)) := by
  unfold impl_wordOf.f
  refine evp (by omega) (evp (by omega) ?_)
  rw [Int.toNat_natCast, w64 (by omega) (by omega)]
  have := impl_wordOf_wloop b hb w n [] hn (by simp; omega)
  simpa using this

theorem spec_gpWith_wloop (b : Nat) (hb : 2 ≤ b) (w : Nat) : ∀ (n : Nat) (R : List Int), n ≤ 1000000000000000000 → w + R.length ≤ 1000000 → Ev (fun k => spec_gpWith.l0 k (n : Int) (b : Int) (List.replicate w 0 ++ R) ((w : Int) - 1)) (ic (wdN b w n) ++ R) := by
  induction w with
  | zero =>
    intro n R _ _
    refine evs (fun k => by rw [spec_gpWith.l0]) ?_
    exact evn (by omega) (evr (by simp [wdN, ic]))
  | succ w ih =>
    intro n R hn hl
    have e0 : (List.replicate (w + 1) (0 : Int)) ++ R = List.replicate w 0 ++ 0 :: R := by rw [List.replicate_succ']; simp
    have hd : n / b ≤ 1000000000000000000 := Nat.le_trans (Nat.div_le_self _ _) hn
    have h := ih (n / b) (((n % b : Nat) : Int) :: R) hd (by simp; omega)
    refine evs (fun k => by rw [spec_gpWith.l0]) ?_
    rw [e0, tmod_cast, tdiv_cast, show (((w + 1 : Nat) : Int) - 1) = (w : Int) by omega, set_midI _ _ _ _ _ (by simp), w64n _ (by omega), w64 (x := (w : Int) - 1) (by omega) (by omega)]
    refine evp (by omega) (evn (by omega) (evp (by omega) (evp (by simp; omega) ?_)))
    have e1 : ic (wdN b (w + 1) n) ++ R = ic (wdN b w (n / b)) ++ ((n % b : Nat) : Int) :: R := by simp [wdN, ic]
    rw [e1]
    exact h
theorem spec_gpWith_wev (b n w : Nat) (hb : 2 ≤ b) (hn : n ≤ 1000000000000000000) (hw : w ≤ 1000) : Ev (fun k => spec_gpWith.f k (n : Int) (w : Int) (b : Int)) (ic (wdN b w n)) := by
  unfold spec_gpWith.f
  refine evp (by omega) (evp (by omega) ?_)
  rw [Int.toNat_natCast, w64 (by omega) (by omega)]
  have := spec_gpWith_wloop b hb w n [] hn (by simp; omega)
  simpa using this

theorem impl_worth_vloop (b : Nat) (hb2 : b ≤ 16) (post : List Nat) : ∀ (pre : List Nat), (∀ d ∈ pre ++ post, d < b) → (pre ++ post).length ≤ 8 → Ev (fun k => impl_worth.l0 k (b : Int) ((val b 0 pre : Nat) : Int) (ic (pre ++ post)) ((pre ++ post).length : Int) (pre.length : Int)) ((val b 0 (pre ++ post) : Nat) : Int) := by
  induction post with
  | nil =>
    intro pre _ _
    refine evs (fun k => by rw [impl_worth.l0]) ?_
    exact evn (by simp) (evr (by simp))
  | cons d post ih =>
    intro pre hd hl
    have hll : (pre ++ d :: post).length = pre.length + (post.length + 1) := by simp
    have e : pre ++ d :: post = (pre ++ [d]) ++ post := by simp
    have h := ih (pre ++ [d]) (by rw [← e]; exact hd) (by rw [← e]; exact hl)
    have hv : val b 0 (pre ++ [d]) = val b 0 pre * b + d := by rw [val_append]; rfl
    have h1 := val_lt0 (pre ++ [d]) (b := b) (fun x hx => hd x (by rw [e]; exact List.mem_append_left _ hx))
    have h2 := pw8 hb2 (show (pre ++ [d]).length ≤ 8 by simp; omega)
    rw [hv] at h h1
    rw [← e, show (((pre ++ [d]).length : Nat) : Int) = (pre.length : Int) + 1 by simp] at h
    refine evs (fun k => by rw [impl_worth.l0]) ?_
    rw [ic_rd, show ((val b 0 pre : Nat) : Int) * (b : Int) = ((val b 0 pre * b : Nat) : Int) by rw [Int.natCast_mul], w64n _ (by omega), show ((val b 0 pre * b : Nat) : Int) + (d : Int) = ((val b 0 pre * b + d : Nat) : Int) by omega, w64n _ (by omega), w64 (x := (pre.length : Int) + 1) (by omega) (by omega)]
    exact evp (by omega) (evp (by omega) (evp (by rw [ic_length]; omega) h))
theorem impl_worth_vev (b : Nat) (hb2 : b ≤ 16) (l : List Nat) (hd : ∀ d ∈ l, d < b) (hl : l.length ≤ 8) : Ev (fun k => impl_worth.f k (ic l) (b : Int)) ((val b 0 l : Nat) : Int) := by
  unfold impl_worth.f
  rw [ic_length]
  have := impl_worth_vloop b hb2 l [] (by simpa using hd) (by simpa using hl)
  simpa [val] using this

theorem spec_gpValue_vloop (b : Nat) (hb2 : b ≤ 16) (post : List Nat) : ∀ (pre : List Nat), (∀ d ∈ pre ++ post, d < b) → (pre ++ post).length ≤ 8 → Ev (fun k => spec_gpValue.l0 k (b : Int) ((val b 0 pre : Nat) : Int) (ic (pre ++ post)) ((pre ++ post).length : Int) (pre.length : Int)) ((val b 0 (pre ++ post) : Nat) : Int) := by
  induction post with
  | nil =>
    intro pre _ _
    refine evs (fun k => by rw [spec_gpValue.l0]) ?_
    exact evn (by simp) (evr (by simp))
  | cons d post ih =>
    intro pre hd hl
    have hll : (pre ++ d :: post).length = pre.length + (post.length + 1) := by simp
    have e : pre ++ d :: post = (pre ++ [d]) ++ post := by simp
    have h := ih (pre ++ [d]) (by rw [← e]; exact hd) (by rw [← e]; exact hl)
    have hv : val b 0 (pre ++ [d]) = val b 0 pre * b + d := by rw [val_append]; rfl
    have h1 := val_lt0 (pre ++ [d]) (b := b) (fun x hx => hd x (by rw [e]; exact List.mem_append_left _ hx))
    have h2 := pw8 hb2 (show (pre ++ [d]).length ≤ 8 by simp; omega)
    rw [hv] at h h1
    rw [← e, show (((pre ++ [d]).length : Nat) : Int) = (pre.length : Int) + 1 by simp] at h
    refine evs (fun k => by rw [spec_gpValue.l0]) ?_
    rw [ic_rd, show ((val b 0 pre : Nat) : Int) * (b : Int) = ((val b 0 pre * b : Nat) : Int) by rw [Int.natCast_mul], w64n _ (by omega), show ((val b 0 pre * b : Nat) : Int) + (d : Int) = ((val b 0 pre * b + d : Nat) : Int) by omega, w64n _ (by omega), w64 (x := (pre.length : Int) + 1) (by omega) (by omega)]
    exact evp (by omega) (evp (by omega) (evp (by rw [ic_length]; omega) h))
theorem spec_gpValue_vev (b : Nat) (hb2 : b ≤ 16) (l : List Nat) (hd : ∀ d ∈ l, d < b) (hl : l.length ≤ 8) : Ev (fun k => spec_gpValue.f k (ic l) (b : Int)) ((val b 0 l : Nat) : Int) := by
  unfold spec_gpValue.f
  rw [ic_length]
  have := spec_gpValue_vloop b hb2 l [] (by simpa using hd) (by simpa using hl)
  simpa [val] using this

def insr (x : Nat) : List Nat → List Nat
  | [] => [x]
  | y :: l => if y ≤ x then y :: insr x l else x :: y :: l
theorem insr_perm (x : Nat) (l : List Nat) : (insr x l).Perm (x :: l) := by
  induction l with
  | nil => exact List.Perm.refl _
  | cons y l ih =>
    simp only [insr]
    split
    · exact (ih.cons y).trans (List.Perm.swap x y l)
    · exact List.Perm.refl _
theorem insr_sorted (x : Nat) (l : List Nat) (h : l.Pairwise (· ≤ ·)) : (insr x l).Pairwise (· ≤ ·) := by
  induction l with
  | nil => simp [insr]
  | cons y l ih =>
    have h1 := List.pairwise_cons.1 h
    simp only [insr]
    split
    · rename_i hy
      refine List.pairwise_cons.2 ⟨fun a ha => ?_, ih h1.2⟩
      rcases List.mem_cons.1 ((insr_perm x l).mem_iff.1 ha) with rfl | h2
      · exact hy
      · exact h1.1 a h2
    · rename_i hy
      refine List.pairwise_cons.2 ⟨fun a ha => ?_, h⟩
      rcases List.mem_cons.1 ha with rfl | h2
      · omega
      · have := h1.1 a h2; omega
theorem own_eq (l : List Int) (h : l.length < 17592186044416) : spec_l1Own.f l = some l := by
  unfold spec_l1Own.f
  simp only [Option.bind_some, List.length_nil, Nat.zero_add, List.nil_append]
  rw [if_pos h]
theorem dgSorted_in (x : Nat) (X : List Int) (n j : Int) (r : List Int) (post : List Nat) : ∀ pre : List Nat, (pre ++ post).length ≤ 1000000 → Ev (fun k => spec_dgSorted.l0 k (ic (pre ++ insr x post)) X n (wrap64 (j + 1))) r →
    Ev (fun k => spec_dgSorted.l1 k (ic (pre ++ post)) (x : Int) (pre.length : Int) X n j) r := by
  induction post with
  | nil =>
    intro pre hl h
    have ht : (ic (pre ++ [])).take ((pre.length : Int)).toNat = ic pre := by rw [Int.toNat_natCast, List.append_nil, List.take_of_length_le (by rw [ic_length]; omega)]
    have hd : (ic (pre ++ [])).drop ((pre.length : Int)).toNat = [] := by rw [Int.toNat_natCast]; simp [ic]
    simp only [List.append_nil] at hl
    refine evs (fun k => by rw [spec_dgSorted.l1]) ?_
    rw [ht, hd]
    refine evn (by rw [ic_length]; simp) (evp (by omega) (evp (by rw [ic_length]; simp) (evc (own_eq _ (by rw [ic_length]; omega)) (evp (by rw [ic_length]; omega) (evc rfl (evc rfl (evp (by simp [ic_length]; omega) ?_)))))))
    have e : ic (pre ++ insr x []) = ic pre ++ [(x : Int)] ++ [] := by simp [insr, ic]
    rw [e] at h
    exact h
  | cons y post ih =>
    intro pre hl h
    have hl2 : (pre ++ y :: post).length = pre.length + (post.length + 1) := by simp
    refine evs (fun k => by rw [spec_dgSorted.l1]) ?_
    rw [ic_rd]
    by_cases hy : y ≤ x
    · have e : pre ++ insr x (y :: post) = (pre ++ [y]) ++ insr x post := by simp [insr, hy]
      rw [e] at h
      have h2 := ih (pre ++ [y]) (by simp at hl ⊢; omega) h
      have e2 : (((pre ++ [y]).length : Nat) : Int) = (pre.length : Int) + 1 := by simp
      rw [List.append_assoc, List.singleton_append, e2] at h2
      rw [w64 (x := (pre.length : Int) + 1) (by omega) (by omega)]
      exact evp (by rw [ic_length]; omega) (evp (by omega) (evp (by omega) h2))
    · have ht : (ic (pre ++ y :: post)).take ((pre.length : Int)).toNat = ic pre := by rw [Int.toNat_natCast]; simp [ic]
      have hd : (ic (pre ++ y :: post)).drop ((pre.length : Int)).toNat = ic (y :: post) := by rw [Int.toNat_natCast]; simp [ic]
      have e : ic (pre ++ insr x (y :: post)) = ic pre ++ [(x : Int)] ++ ic (y :: post) := by simp [insr, hy, ic]
      rw [e] at h
      rw [ht, hd]
      refine evp (by rw [ic_length]; omega) (evp (by omega) (evn (by omega) (evp (by rw [ic_length]; omega) (evc (own_eq _ (by rw [ic_length]; omega)) (evp (by rw [ic_length]; omega) (evc rfl (evc rfl (evp (by simp [ic_length]; omega) h))))))))
def isrt (acc : List Nat) : List Nat → List Nat
  | [] => acc
  | x :: l => isrt (insr x acc) l
theorem isrt_perm (l : List Nat) : ∀ acc, (isrt acc l).Perm (acc ++ l) := by
  induction l with
  | nil => intro acc; simp [isrt]
  | cons x l ih =>
    intro acc
    refine (ih _).trans (((insr_perm x acc).append_right l).trans ?_)
    exact List.perm_middle.symm
theorem isrt_sorted (l : List Nat) : ∀ acc, acc.Pairwise (· ≤ ·) → (isrt acc l).Pairwise (· ≤ ·) := by
  induction l with
  | nil => intro acc h; exact h
  | cons x l ih => intro acc h; exact ih _ (insr_sorted x acc h)
theorem dgSorted_out (post : List Nat) : ∀ pre acc : List Nat, (pre ++ post).length ≤ 1000000 → acc.length + post.length ≤ 1000000 →
    Ev (fun k => spec_dgSorted.l0 k (ic acc) (ic (pre ++ post)) ((pre ++ post).length : Int) (pre.length : Int)) (ic (isrt acc post)) := by
  induction post with
  | nil =>
    intro pre acc _ _
    refine evs (fun k => by rw [spec_dgSorted.l0]) ?_
    exact evn (by simp) (Ev.now _)
  | cons x post ih =>
    intro pre acc h1 h2
    have hl : (pre ++ x :: post).length = pre.length + (post.length + 1) := by simp
    simp only [List.length_cons] at h2
    have h3 := ih (pre ++ [x]) (insr x acc) (by simp at h1 ⊢; omega) (by rw [(insr_perm x acc).length_eq, List.length_cons]; omega)
    have e1 : (((pre ++ [x]).length : Nat) : Int) = (pre.length : Int) + 1 := by simp
    rw [List.append_assoc, List.singleton_append, e1, hl] at h3
    refine evs (fun k => by rw [spec_dgSorted.l0]) ?_
    rw [ic_rd, ic_length, hl]
    refine evp (by omega) (evp (by omega) (evp (by omega) ?_))
    have h4 := dgSorted_in x (ic (pre ++ x :: post)) ((pre.length + (post.length + 1) : Nat) : Int) (pre.length : Int) (ic (isrt (insr x acc) post)) acc [] (by simp; omega) (by rw [w64 (x := (pre.length : Int) + 1) (by omega) (by omega)]; simpa using h3)
    exact h4

theorem sort_nat (l : List Nat) : ∃ s : List Nat, ((ic l).mergeSort fun x y => decide (x ≤ y)) = ic s ∧ s.Perm l ∧ s.Pairwise (· ≤ ·) := by
  have hp := List.mergeSort_perm (ic l) (fun x y => decide (x ≤ y))
  have hs : ((ic l).mergeSort fun x y => decide (x ≤ y)).Pairwise (fun x y => decide (x ≤ y) = true) := List.pairwise_mergeSort (fun a b c h1 h2 => by simp at *; omega) (fun a b => by simp; omega) (ic l)
  generalize ((ic l).mergeSort fun x y => decide (x ≤ y)) = m at hp hs
  have hnn : ∀ x ∈ m, 0 ≤ x := fun x hx => by
    have h1 := hp.mem_iff.1 hx
    unfold ic at h1
    obtain ⟨y, _, rfl⟩ := List.mem_map.1 h1
    omega
  have e : m = ic (m.map Int.toNat) := by
    unfold ic
    rw [List.map_map]
    refine (List.map_id' m).symm.trans (List.map_congr_left (fun x hx => ?_))
    have := hnn x hx
    simp only [Function.comp]
    omega
  refine ⟨m.map Int.toNat, e, ?_, ?_⟩
  · have h1 := hp.map Int.toNat
    unfold ic at h1
    rw [List.map_map, show (Int.toNat ∘ fun (x : Nat) => (x : Int)) = id from funext (fun x => Int.toNat_natCast x), List.map_id] at h1
    exact h1
  · rw [List.pairwise_map]
    exact hs.imp (fun h => by simp at h; omega)

theorem impl_isBase_eq (b : Int) : impl_isBase.f b = some (decide (2 ≤ b ∧ b ≤ 16)) := by simp only [impl_isBase.f, impl_in_eq, Option.bind_some]
theorem spec_dgBase_eq (b : Int) : spec_dgBase.f b = some (decide (2 ≤ b ∧ b ≤ 16)) := by simp only [spec_dgBase.f, spec_l1In_eq, Option.bind_some]

theorem l1All_loop (lo hi : Int) (whole : List Int) (post : List Int) : ∀ pre : List Int, whole = pre ++ post → whole.length ≤ 4611686018427387904 →
    Ev (fun k => spec_l1All.l0 k lo hi whole (whole.length : Int) (pre.length : Int)) (post.all fun x => decide (lo ≤ x ∧ x ≤ hi)) := by
  induction post with
  | nil =>
    intro pre hw h
    refine evs (fun k => by rw [spec_l1All.l0]) ?_
    exact evn (by simp [hw]) (evr (by simp))
  | cons y post ih =>
    intro pre hw h
    have hl : whole.length = pre.length + (post.length + 1) := by simp [hw]
    have hx : rd whole (pre.length : Int) = y := by rw [hw, rd_mid]
    refine evs (fun k => by rw [spec_l1All.l0]) ?_
    rw [hx]
    simp only [spec_l1In_eq, Option.bind_some, decide_eq_true_eq]
    refine evp (by omega) (evp (by omega) (evp (by omega) ?_))
    by_cases he : lo ≤ y ∧ y ≤ hi
    · refine evp he ?_
      have h2 := ih (pre ++ [y]) (by simp [hw]) h
      rw [w64 (by omega) (by omega)]
      have e : ((y :: post).all fun x => decide (lo ≤ x ∧ x ≤ hi)) = (post.all fun x => decide (lo ≤ x ∧ x ≤ hi)) := by
        rw [List.all_cons, decide_eq_true he, Bool.true_and]
      rw [e]
      simpa using h2
    · refine evn he (evr ?_)
      rw [List.all_cons, decide_eq_false he, Bool.false_and]
theorem l1All_ev (l : List Int) (lo hi : Int) (h : l.length ≤ 4611686018427387904) : Ev (fun k => spec_l1All.f k l lo hi) (l.all fun x => decide (lo ≤ x ∧ x ≤ hi)) := by
  unfold spec_l1All.f
  simpa using l1All_loop lo hi l l [] rfl h

theorem spec_dgBack_loop (n : Nat) : ∀ (pre post out : List Int), pre.length = n → (pre ++ post).length ≤ 1000000000000 → out.length + pre.length ≤ 1000000000000 → Ev (fun k => spec_dgBack.l0 k (pre ++ post) out ((pre.length : Int) - 1)) (out ++ pre.reverse) := by
  induction n with
  | zero =>
    intro pre post out hn _ _
    obtain rfl : pre = [] := List.eq_nil_of_length_eq_zero hn
    refine evs (fun k => by rw [spec_dgBack.l0]) ?_
    exact evn (by simp) (evr (by simp))
  | succ n ih =>
    intro pre post out hn hl ho
    have h0 : pre ≠ [] := fun h => by subst h; simp at hn
    obtain ⟨p, x, rfl⟩ : ∃ p x, pre = p ++ [x] := ⟨pre.dropLast, pre.getLast h0, (List.dropLast_concat_getLast h0).symm⟩
    have hp : p.length = n := by simpa using hn
    have e0 : (p ++ [x]) ++ post = p ++ x :: post := by simp
    have e1 : (((p ++ [x]).length : Nat) : Int) - 1 = (p.length : Int) := by simp
    have hl2 : (p ++ x :: post).length = p.length + (post.length + 1) := by simp
    rw [e0] at hl
    rw [hl2] at hl
    have h := ih p (x :: post) (out ++ [x]) hp (by rw [hl2]; exact hl) (by simp at ho ⊢; omega)
    refine evs (fun k => by rw [spec_dgBack.l0]) ?_
    rw [e1, e0, rd_mid, hl2, w64 (x := (p.length : Int) - 1) (by omega) (by omega)]
    refine evp (by omega) (evp (by omega) (evp (by omega) (evp (by simp at ho; omega) ?_)))
    have e2 : out ++ (p ++ [x]).reverse = (out ++ [x]) ++ p.reverse := by simp
    rw [e2]
    exact h
theorem spec_dgBack_ev (l : List Int) (h : l.length ≤ 1000000000000) : Ev (fun k => spec_dgBack.f k l) l.reverse := by
  unfold spec_dgBack.f
  rw [w64 (by omega) (by omega)]
  have := spec_dgBack_loop l.length l [] [] rfl (by simpa using h) (by simpa using h)
  simpa using this

def so (l : List Nat) : List Nat := isrt [] l
theorem so_perm (l : List Nat) : (so l).Perm l := isrt_perm l []
theorem so_sorted (l : List Nat) : (so l).Pairwise (· ≤ ·) := isrt_sorted l [] (by simp)
theorem so_uniq {l s : List Nat} (hp : s.Perm l) (hs : s.Pairwise (· ≤ ·)) : s = so l :=
  List.Perm.eq_of_pairwise (le := (· ≤ ·)) (fun a b _ _ h1 h2 => Nat.le_antisymm h1 h2) hs (so_sorted l) (hp.trans (so_perm l).symm)
theorem so_length (l : List Nat) : (so l).length = l.length := (so_perm l).length_eq
theorem so_lt {b : Nat} {l : List Nat} (h : ∀ d ∈ l, d < b) : ∀ d ∈ so l, d < b := fun d hd => h d ((so_perm l).mem_iff.1 hd)
theorem so_rev (l : List Nat) : so l.reverse = so l := so_uniq ((so_perm l.reverse).trans l.reverse_perm) (so_sorted _)
theorem dgSorted_ev (l : List Nat) (h : l.length ≤ 1000000) : Ev (fun k => spec_dgSorted.f k (ic l)) (ic (so l)) := by
  have h2 := dgSorted_out l [] [] (by simpa using h) (by simpa using h)
  unfold spec_dgSorted.f
  rw [ic_length]
  exact h2
theorem sorted_eq (l : List Nat) (h : l.length ≤ 1000000) : slices_Sorted_int.f (ic l) = some (ic (so l)) := by
  obtain ⟨s, h1, h2, h3⟩ := sort_nat l
  unfold slices_Sorted_int.f
  rw [if_pos (by rw [ic_length]; omega), h1, so_uniq h2 h3]
theorem ic_getD (s : List Nat) (i : Nat) : rd (ic s) (i : Int) = ((s.getD i 0 : Nat) : Int) := by
  rw [rd_nat]
  unfold ic
  simp only [List.getD_eq_getElem?_getD, List.getElem?_map]
  cases s[i]? <;> rfl
theorem getD_lt {b : Nat} {s : List Nat} (h : ∀ d ∈ s, d < b) (j : Nat) (hb : 1 ≤ b) : s.getD j 0 < b := by
  rw [List.getD_eq_getElem?_getD]
  cases e : s[j]? with
  | none => exact hb
  | some x => exact h x (List.mem_of_getElem? e)
theorem getD_mono {s : List Nat} (h : s.Pairwise (· ≤ ·)) {i j : Nat} (hij : i ≤ j) (hj : j < s.length) : s.getD i 0 ≤ s.getD j 0 := by
  have e1 : s.getD i 0 = s[i]'(by omega) := by simp [List.getD_eq_getElem?_getD, show i < s.length by omega]
  have e2 : s.getD j 0 = s[j]'hj := by simp [List.getD_eq_getElem?_getD, hj]
  rw [e1, e2]
  rcases Nat.lt_or_eq_of_le hij with h1 | rfl
  · exact (List.pairwise_iff_getElem.1 h) i j _ _ h1
  · exact Nat.le_refl _
def gpf (s : List Nat) : Nat → Nat → List Nat
  | _, 0 => []
  | i, r + 1 => (s.getD (s.length - 1 - i) 0 - s.getD i 0) :: gpf s (i + 1) r
def gp (s : List Nat) : List Nat := gpf s 0 (s.length / 2)
theorem gpf_length (s : List Nat) (r : Nat) : ∀ i, (gpf s i r).length = r := by
  induction r with
  | zero => intro i; rfl
  | succ r ih => intro i; simp [gpf, ih]
theorem gp_length (s : List Nat) : (gp s).length = s.length / 2 := gpf_length _ _ _
theorem gpf_lt {b : Nat} {s : List Nat} (h : ∀ d ∈ s, d < b) (hb : 1 ≤ b) (r : Nat) : ∀ i, ∀ d ∈ gpf s i r, d < b := by
  induction r with
  | zero => intro i d hd; simp [gpf] at hd
  | succ r ih =>
    intro i d hd
    simp only [gpf, List.mem_cons] at hd
    rcases hd with rfl | hd
    · have := getD_lt h (s.length - 1 - i) hb
      omega
    · exact ih _ d hd
theorem gp_lt {b : Nat} {s : List Nat} (h : ∀ d ∈ s, d < b) (hb : 1 ≤ b) : ∀ d ∈ gp s, d < b := gpf_lt h hb _ _
theorem gaps_step {s : List Nat} (hs : s.Pairwise (· ≤ ·)) (h16 : ∀ d ∈ s, d < 16) (hl : s.length ≤ 8) (i : Nat) (hi : i < s.length / 2) : wrap64 (wrap64 (((ic s).length : Int) - 1) - (i : Int)) = ((s.length - 1 - i : Nat) : Int) ∧
    wrap64 (rd (ic s) ((s.length - 1 - i : Nat) : Int) - rd (ic s) (i : Int)) = ((s.getD (s.length - 1 - i) 0 - s.getD i 0 : Nat) : Int) := by
  have h1 := getD_lt h16 (s.length - 1 - i) (by omega)
  have h2 := getD_lt h16 i (by omega)
  have h3 := getD_mono hs (show i ≤ s.length - 1 - i by omega) (by omega)
  rw [ic_length, ic_getD, ic_getD]
  generalize s.getD (s.length - 1 - i) 0 = x at h1 h3 ⊢
  generalize s.getD i 0 = y at h2 h3 ⊢
  constructor
  · rw [w64 (x := (s.length : Int) - 1) (by omega) (by omega), w64 (by omega) (by omega)]
    omega
  · rw [w64 (by omega) (by omega)]
    omega
theorem impl_gaps_loop {s : List Nat} (hs : s.Pairwise (· ≤ ·)) (h16 : ∀ d ∈ s, d < 16) (hl : s.length ≤ 8) (r : Nat) : ∀ (i : Nat) (out : List Nat), i + r = s.length / 2 → out.length = i →
    Ev (fun k => impl_gaps.l0 k (ic s) (ic out) ((s.length / 2 : Nat) : Int) (i : Int)) (ic (out ++ gpf s i r)) := by
  induction r with
  | zero =>
    intro i out h _
    refine evs (fun k => by rw [impl_gaps.l0]) ?_
    exact evn (by omega) (evr (by simp [gpf]))
  | succ r ih =>
    intro i out h ho
    obtain ⟨e1, e2⟩ := gaps_step hs h16 hl i (by omega)
    have h2 := ih (i + 1) (out ++ [s.getD (s.length - 1 - i) 0 - s.getD i 0]) (by omega) (by simp [ho])
    have e4 : ∀ x : Nat, ic out ++ [(x : Int)] = ic (out ++ [x]) := fun x => by simp [ic]
    refine evs (fun k => by rw [impl_gaps.l0]) ?_
    rw [e1, e2, e4, show (i : Int) + 1 = ((i + 1 : Nat) : Int) by omega, w64n _ (by omega), ic_length, ic_length]
    refine evp (by omega) (evp (by omega) (evp (by omega) (evp (by omega) (evp (by omega) (evp (by omega) ?_)))))
    rw [gpf, show ∀ x : Nat, out ++ x :: gpf s (i + 1) r = (out ++ [x]) ++ gpf s (i + 1) r from fun x => by simp]
    exact h2
theorem impl_gaps_ev (l : List Nat) (h16 : ∀ d ∈ l, d < 16) (hl : l.length ≤ 8) : Ev (fun k => impl_gaps.f k (ic l)) (ic (gp (so l))) := by
  unfold impl_gaps.f
  refine evc (sorted_eq l (by omega)) ?_
  have h := impl_gaps_loop (so_sorted l) (so_lt h16) (by rw [so_length]; exact hl) ((so l).length / 2) 0 [] (by omega) rfl
  rw [ic_length, w64 (by omega) (by rw [so_length]; omega), show (((so l).length : Int) / 2) = (((so l).length / 2 : Nat) : Int) by omega]
  exact h
theorem spec_gpGaps_loop (l : List Nat) {s : List Nat} (hs : s.Pairwise (· ≤ ·)) (h16 : ∀ d ∈ s, d < 16) (hl : s.length ≤ 8) (he : s.length = l.length) (r : Nat) : ∀ (i : Nat) (out : List Nat), i + r = s.length / 2 → out.length = i →
    Ev (fun k => spec_gpGaps.l0 k (ic l) (ic s) (ic out) (i : Int)) (ic (out ++ gpf s i r)) := by
  induction r with
  | zero =>
    intro i out h _
    refine evs (fun k => by rw [spec_gpGaps.l0]) ?_
    rw [ic_length, w64 (by omega) (by omega)]
    exact evn (by omega) (evr (by simp [gpf]))
  | succ r ih =>
    intro i out h ho
    obtain ⟨e1, e2⟩ := gaps_step hs h16 hl i (by omega)
    have h2 := ih (i + 1) (out ++ [s.getD (s.length - 1 - i) 0 - s.getD i 0]) (by omega) (by simp [ho])
    have e4 : ∀ x : Nat, ic out ++ [(x : Int)] = ic (out ++ [x]) := fun x => by simp [ic]
    refine evs (fun k => by rw [spec_gpGaps.l0]) ?_
    rw [e1, e2, e4, show (i : Int) + 1 = ((i + 1 : Nat) : Int) by omega, w64n _ (by omega), ic_length, ic_length, ic_length, w64 (x := (l.length : Int) / 2) (by omega) (by omega)]
    refine evp (by omega) (evp (by omega) (evp (by omega) (evp (by omega) (evp (by omega) (evp (by omega) ?_)))))
    rw [gpf, show ∀ x : Nat, out ++ x :: gpf s (i + 1) r = (out ++ [x]) ++ gpf s (i + 1) r from fun x => by simp]
    exact h2
theorem spec_gpGaps_ev (l : List Nat) (h16 : ∀ d ∈ l, d < 16) (hl : l.length ≤ 8) : Ev (fun k => spec_gpGaps.f k (ic l)) (ic (gp (so l))) := by
  unfold spec_gpGaps.f
  refine evb (dgSorted_ev l (by omega)) ?_
  exact spec_gpGaps_loop l (so_sorted l) (so_lt h16) (by rw [so_length]; exact hl) (so_length l) ((so l).length / 2) 0 [] (by omega) rfl
def byG (b w : Nat) : Nat → List Nat → Nat
  | _, [] => 0
  | i, x :: l => x * (b ^ (w - 1 - i) - b ^ i) + byG b w (i + 1) l
theorem byGaps_loop (b w : Nat) (hb : 2 ≤ b) (hb2 : b ≤ 16) (hw : w ≤ 8) (post : List Nat) : ∀ (pre : List Nat) (acc : Nat), acc ≤ pre.length * 68719476736 → (pre ++ post).length * 2 ≤ w → (∀ d ∈ post, d < b) →
    Ev (fun k => impl_byGaps.l0 k (w : Int) (b : Int) (acc : Int) (ic (pre ++ post)) ((pre ++ post).length : Int) (pre.length : Int)) ((acc + byG b w pre.length post : Nat) : Int) := by
  induction post with
  | nil =>
    intro pre acc _ _ _
    refine evs (fun k => by rw [impl_byGaps.l0]) ?_
    exact evn (by simp) (evr (by simp [byG]))
  | cons x post ih =>
    intro pre acc ha hl hd
    have hll : (pre ++ x :: post).length = pre.length + (post.length + 1) := by simp
    rw [hll] at hl
    have hx := hd x (by simp)
    have hp1 := impl_toPower_ev b (w - 1 - pre.length) (by omega) hb2 (by omega)
    have hp2 := impl_toPower_ev b pre.length (by omega) hb2 (by omega)
    have b1 := pw8 hb2 (show w - 1 - pre.length ≤ 8 by omega)
    have b2 : b ^ pre.length ≤ b ^ (w - 1 - pre.length) := Nat.pow_le_pow_right (by omega) (by omega)
    have e9 : byG b w pre.length (x :: post) = x * (b ^ (w - 1 - pre.length) - b ^ pre.length) + byG b w (pre.length + 1) post := rfl
    rw [e9]
    generalize b ^ (w - 1 - pre.length) = P at hp1 b1 b2 ⊢
    generalize b ^ pre.length = Q at hp2 b2 ⊢
    have b3 : x * (P - Q) ≤ 16 * 4294967296 := Nat.mul_le_mul (by omega) (by omega)
    have h2 := ih (pre ++ [x]) (acc + x * (P - Q)) (by simp; omega) (by simp; omega) (fun d hd2 => hd d (by simp [hd2]))
    rw [List.append_assoc, List.singleton_append, show (((pre ++ [x]).length : Nat) : Int) = (pre.length : Int) + 1 by simp, show (pre ++ [x]).length = pre.length + 1 by simp] at h2
    refine evs (fun k => by rw [impl_byGaps.l0]) ?_
    rw [ic_rd, ic_length, hll, w64 (x := (w : Int) - 1) (by omega) (by omega), w64 (x := (w : Int) - 1 - (pre.length : Int)) (by omega) (by omega), show ((w : Int) - 1 - (pre.length : Int)) = ((w - 1 - pre.length : Nat) : Int) by omega, w64 (x := (pre.length : Int) + 1) (by omega) (by omega)]
    refine evp (by omega) (evp (by omega) (evp (by omega) (evb hp1 (evb hp2 ?_))))
    rw [w64 (x := (P : Int) - (Q : Int)) (by omega) (by omega), show (P : Int) - (Q : Int) = ((P - Q : Nat) : Int) by omega, ← Int.natCast_mul, w64n _ (by omega), ← Int.natCast_add, w64n _ (by omega)]
    rw [hll] at h2
    have e8 : ∀ z : Nat, acc + (x * (P - Q) + z) = acc + x * (P - Q) + z := fun z => by omega
    rw [e8]
    exact h2
theorem byGaps_ev (b w : Nat) (hb : 2 ≤ b) (hb2 : b ≤ 16) (hw : w ≤ 8) (g : List Nat) (hl : g.length * 2 ≤ w) (hd : ∀ d ∈ g, d < b) : Ev (fun k => impl_byGaps.f k (ic g) (w : Int) (b : Int)) ((byG b w 0 g : Nat) : Int) := by
  unfold impl_byGaps.f
  rw [ic_length]
  have := byGaps_loop b w hb hb2 hw g [] 0 (by simp) (by simpa using hl) hd
  simpa using this
theorem byG_shift (b w : Nat) (l : List Nat) : ∀ i, i + l.length ≤ w → byG b (w + 2) (i + 1) l = b * byG b w i l := by
  induction l with
  | nil => intro i _; simp [byG]
  | cons x l ih =>
    intro i h
    simp only [List.length_cons] at h
    simp only [byG]
    rw [ih (i + 1) (by omega), show w + 2 - 1 - (i + 1) = (w - 1 - i) + 1 by omega, Nat.pow_succ, Nat.pow_succ, Nat.mul_add, ← Nat.sub_mul, Nat.mul_comm _ b, ← Nat.mul_assoc, ← Nat.mul_assoc, Nat.mul_comm x b]
theorem gpf_inner (x y : Nat) (m : List Nat) (r : Nat) : ∀ i, i + r ≤ m.length → gpf (x :: (m ++ [y])) (i + 1) r = gpf m i r := by
  induction r with
  | zero => intro i _; rfl
  | succ r ih =>
    intro i h
    have e1 : (x :: (m ++ [y])).getD (i + 1) 0 = m.getD i 0 := by
      simp only [List.getD_eq_getElem?_getD, List.getElem?_cons_succ]
      rw [List.getElem?_append_left (by omega)]
    have e2 : (x :: (m ++ [y])).getD ((x :: (m ++ [y])).length - 1 - (i + 1)) 0 = m.getD (m.length - 1 - i) 0 := by
      rw [show (x :: (m ++ [y])).length - 1 - (i + 1) = (m.length - 1 - i) + 1 by simp; omega]
      simp only [List.getD_eq_getElem?_getD, List.getElem?_cons_succ]
      rw [List.getElem?_append_left (by omega)]
    simp only [gpf]
    rw [e1, e2, ih (i + 1) (by omega)]
theorem gp_ends (x y : Nat) (m : List Nat) : gp (x :: (m ++ [y])) = (y - x) :: gp m := by
  have e : (x :: (m ++ [y])).length / 2 = m.length / 2 + 1 := by simp; omega
  unfold gp
  rw [e]
  simp only [gpf]
  have e1 : (x :: (m ++ [y])).getD ((x :: (m ++ [y])).length - 1 - 0) 0 = y := by
    rw [show (x :: (m ++ [y])).length - 1 - 0 = m.length + 1 by simp]
    simp [List.getD_eq_getElem?_getD]
  rw [e1, gpf_inner x y m (m.length / 2) 0 (by omega)]
  rfl
theorem step_law {b : Nat} (hb : 1 ≤ b) (n : Nat) : ∀ s : List Nat, s.length ≤ n → s.Pairwise (· ≤ ·) → val b 0 s.reverse = val b 0 s + byG b s.length 0 (gp s) := by
  induction n with
  | zero =>
    intro s h _
    obtain rfl : s = [] := List.eq_nil_of_length_eq_zero (by omega)
    rfl
  | succ n ih =>
    intro s h hs
    cases s with
    | nil => rfl
    | cons x t =>
      by_cases ht : t = []
      · subst ht
        simp [gp, gpf, byG, val]
      · obtain ⟨m, y, rfl⟩ : ∃ m y, t = m ++ [y] := ⟨t.dropLast, t.getLast ht, (List.dropLast_concat_getLast ht).symm⟩
        have h1 := List.pairwise_cons.1 hs
        have hxy := h1.1 y (by simp)
        have hm := (List.pairwise_append.1 h1.2).1
        have h2 := ih m (by simp at h; omega) hm
        rw [gp_ends]
        have e1 : (x :: (m ++ [y])).reverse = y :: (m.reverse ++ [x]) := by simp
        have e2 : (x :: (m ++ [y])).length = m.length + 2 := by simp
        have e3 : byG b (m.length + 2) 0 ((y - x) :: gp m) = (y - x) * (b ^ (m.length + 1) - 1) + b * byG b m.length 0 (gp m) := by
          show (y - x) * (b ^ (m.length + 2 - 1 - 0) - b ^ 0) + byG b (m.length + 2) (0 + 1) (gp m) = _
          rw [byG_shift b m.length (gp m) 0 (by rw [gp_length]; omega)]
          rfl
        rw [e1, e2, e3, val_cons, val_cons, val_app, val_app, h2]
        simp only [List.length_append, List.length_reverse, List.length_singleton, val, Nat.zero_mul, Nat.zero_add, Nat.pow_one]
        have hP : 1 ≤ b ^ (m.length + 1) := Nat.pow_pos hb
        generalize b ^ (m.length + 1) = P at hP ⊢
        generalize val b 0 m = V
        generalize byG b m.length 0 (gp m) = G
        obtain ⟨t, rfl⟩ := Nat.exists_eq_add_of_le hxy
        rw [Nat.add_sub_cancel_left]
        cases P with
        | zero => omega
        | succ q =>
          rw [Nat.add_sub_cancel]
          simp only [Nat.add_mul, Nat.mul_add, Nat.mul_one, Nat.mul_comm b G]
          omega

theorem reverse_loop (n : Nat) : ∀ (mid pre post : List Int), mid.length ≤ n → pre.length = post.length → (pre ++ mid ++ post).length ≤ 1000000000000 →
    Ev (fun k => slices_Reverse_int_int.l0 k (pre ++ mid ++ post) (pre.length : Int) ((pre.length : Int) + (mid.length : Int) - 1)) (pre ++ mid.reverse ++ post) := by
  induction n with
  | zero =>
    intro mid pre post hm _ _
    obtain rfl : mid = [] := List.eq_nil_of_length_eq_zero (by omega)
    refine evs (fun k => by rw [slices_Reverse_int_int.l0]) ?_
    exact evn (by simp; omega) (evr (by simp))
  | succ n ih =>
    intro mid pre post hm hp hl
    cases mid with
    | nil =>
      refine evs (fun k => by rw [slices_Reverse_int_int.l0]) ?_
      exact evn (by simp; omega) (evr (by simp))
    | cons a t =>
      by_cases ht : t = []
      · subst ht
        refine evs (fun k => by rw [slices_Reverse_int_int.l0]) ?_
        exact evn (by simp) (evr (by simp))
      · obtain ⟨m, b, rfl⟩ : ∃ m b, t = m ++ [b] := ⟨t.dropLast, t.getLast ht, (List.dropLast_concat_getLast ht).symm⟩
        simp only [List.length_append, List.length_cons, List.length_nil] at hm hl
        have e0 : pre ++ (a :: (m ++ [b])) ++ post = pre ++ a :: (m ++ b :: post) := by simp
        have e1 : pre ++ (a :: (m ++ [b])) ++ post = (pre ++ a :: m) ++ b :: post := by simp
        have hj : ((pre.length : Int) + (((a :: (m ++ [b])).length : Nat) : Int) - 1) = (((pre ++ a :: m).length : Nat) : Int) := by simp; omega
        have r1 : rd (pre ++ (a :: (m ++ [b])) ++ post) (((pre ++ a :: m).length : Nat) : Int) = b := by rw [e1, rd_mid]
        have r0 : rd (pre ++ (a :: (m ++ [b])) ++ post) ((pre.length : Nat) : Int) = a := by rw [e0, rd_mid]
        have hset : ((pre ++ (a :: (m ++ [b])) ++ post).set (pre.length : Int).toNat b).set (((pre ++ a :: m).length : Nat) : Int).toNat a = (pre ++ [b]) ++ m ++ (a :: post) := by
          rw [e0, Int.toNat_natCast, Int.toNat_natCast, set_mid]
          have e2 : pre ++ b :: (m ++ b :: post) = (pre ++ b :: m) ++ b :: post := by simp
          have e3 : (pre ++ a :: m).length = (pre ++ b :: m).length := by simp
          rw [e2, e3, set_mid]
          simp
        have h := ih m (pre ++ [b]) (a :: post) (by omega) (by simp; omega) (by simp; omega)
        have hj2 : (((pre ++ a :: m).length : Nat) : Int) = (pre.length : Int) + (m.length : Int) + 1 := by simp; omega
        have hlen : (((pre ++ (a :: (m ++ [b])) ++ post).length : Nat) : Int) = (pre.length : Int) + (m.length : Int) + 2 + (post.length : Int) := by simp; omega
        refine evs (fun k => by rw [slices_Reverse_int_int.l0]) ?_
        rw [hj, r1, r0, hset, hlen, hj2, w64 (x := (pre.length : Int) + 1) (by omega) (by omega), w64 (x := (pre.length : Int) + (m.length : Int) + 1 - 1) (by omega) (by omega)]
        refine evp (by omega) (evp (by omega) (evp (by omega) (evp (by omega) (evp (by omega) ?_))))
        have e4 : (((pre ++ [b]).length : Nat) : Int) = (pre.length : Int) + 1 := by simp
        rw [e4, show (pre.length : Int) + 1 + (m.length : Int) - 1 = (pre.length : Int) + (m.length : Int) + 1 - 1 by omega] at h
        have e5 : (pre ++ [b]) ++ m.reverse ++ (a :: post) = pre ++ (a :: (m ++ [b])).reverse ++ post := by simp
        rw [e5] at h
        exact h
theorem reverse_ev (l : List Int) (h : l.length ≤ 1000000000000) : Ev (fun k => slices_Reverse_int_int.f k l) l.reverse := by
  unfold slices_Reverse_int_int.f
  rw [w64 (by omega) (by omega)]
  have := reverse_loop l.length l [] [] (Nat.le_refl _) rfl (by simpa using h)
  simpa using this

theorem l1Own_ev (l : List Int) (h : l.length ≤ 1000000) : spec_l1Own.f l = some l := by
  unfold spec_l1Own.f
  simp only [Option.bind_some, List.nil_append, List.length_nil]
  rw [if_pos (by omega)]
theorem clone_ev (l : List Int) (h : l.length ≤ 1000000) : slices_Clone_int_int.f l = some l := by
  unfold slices_Clone_int_int.f
  rw [if_pos (by omega)]

def iw (l : List Int) (b : Int) : Bool := decide (2 ≤ b ∧ b ≤ 16) && (decide ((1 : Int) ≤ (l.length : Int) ∧ (l.length : Int) ≤ 8) && l.all fun x => decide (0 ≤ x ∧ x ≤ b - 1))
theorem impl_isWord_eq (l : List Int) (b : Int) : impl_isWord.f l b = some (iw l b) := by
  unfold impl_isWord.f iw
  rw [impl_isBase_eq]
  simp only [Option.bind_some]
  by_cases h : 2 ≤ b ∧ b ≤ 16
  · rw [decide_eq_true h, if_pos rfl, w64 (by omega) (by omega)]
    simp [impl_areIn.f]
  · rw [decide_eq_false h, if_neg (by simp)]
    simp
theorem spec_gpWord_ev (l : List Int) (b : Int) (hl : l.length ≤ 1000000) : Ev (fun k => spec_gpWord.f k l b) (iw l b) := by
  unfold spec_gpWord.f iw
  refine evc (spec_dgBase_eq b) ?_
  by_cases h : 2 ≤ b ∧ b ≤ 16
  · rw [decide_eq_true h]
    refine evp rfl (evc (spec_l1In_eq _ _ _) ?_)
    by_cases h2 : (1 : Int) ≤ (l.length : Int) ∧ (l.length : Int) ≤ 8
    · rw [decide_eq_true h2, w64 (x := b - 1) (by omega) (by omega)]
      exact evp rfl (evb (l1All_ev l 0 (b - 1) (by omega)) (evr (by simp)))
    · rw [decide_eq_false h2]
      exact evn (by simp) (evr (by simp))
  · rw [decide_eq_false h]
    exact evn (by simp) (evr (by simp))
theorem iw_of {l : List Int} {b : Int} (h : iw l b = true) : ∃ (B : Nat) (ds : List Nat), b = (B : Int) ∧ l = ic ds ∧ 2 ≤ B ∧ B ≤ 16 ∧ 1 ≤ ds.length ∧ ds.length ≤ 8 ∧ ∀ d ∈ ds, d < B := by
  unfold iw at h
  simp only [Bool.and_eq_true, decide_eq_true_eq, List.all_eq_true] at h
  obtain ⟨h1, h2, h3⟩ := h
  obtain ⟨B, rfl⟩ := natOf (show 0 ≤ b by omega)
  have e : l = ic (l.map Int.toNat) := by
    unfold ic
    rw [List.map_map]
    refine (List.map_id' l).symm.trans (List.map_congr_left (fun x hx => ?_))
    have := h3 x hx
    simp only [Function.comp]
    omega
  refine ⟨B, l.map Int.toNat, rfl, e, by omega, by omega, by rw [List.length_map]; omega, by rw [List.length_map]; omega, fun d hd => ?_⟩
  obtain ⟨x, hx, rfl⟩ := List.mem_map.1 hd
  have := h3 x hx
  omega
theorem iw_ic {B : Nat} {ds : List Nat} (h1 : 2 ≤ B) (h2 : B ≤ 16) (h3 : 1 ≤ ds.length) (h4 : ds.length ≤ 8) (h5 : ∀ d ∈ ds, d < B) : iw (ic ds) (B : Int) = true := by
  unfold iw
  simp only [Bool.and_eq_true, decide_eq_true_eq, List.all_eq_true]
  refine ⟨by omega, by rw [ic_length]; omega, fun x hx => ?_⟩
  unfold ic at hx
  obtain ⟨d, hd, rfl⟩ := List.mem_map.1 hx
  have := h5 d hd
  omega
def stp (b : Nat) (ds : List Nat) : List Nat := wdN b ds.length (byG b ds.length 0 (gp (so ds)))
theorem lt16 {b : Nat} (h : b ≤ 16) {l : List Nat} (hd : ∀ d ∈ l, d < b) : ∀ d ∈ l, d < 16 := fun d h2 => Nat.lt_of_lt_of_le (hd d h2) h
theorem byG_le {b : Nat} (hb : 1 ≤ b) {ds : List Nat} (hd : ∀ d ∈ ds, d < b) : byG b ds.length 0 (gp (so ds)) < b ^ ds.length := by
  have h := step_law hb _ (so ds) (Nat.le_refl _) (so_sorted ds)
  have h2 := val_lt0 (so ds).reverse (b := b) (fun d hd2 => so_lt hd d (List.mem_reverse.1 hd2))
  rw [List.length_reverse, so_length] at h2
  rw [so_length] at h
  omega
theorem wd_ev (b n w : Nat) (hb : 2 ≤ b) (hb2 : b ≤ 16) (hw : w ≤ 8) (hn : n < b ^ w) : Ev (fun k => impl_wordOf.f k (n : Int) (w : Int) (b : Int)) (ic (wdN b w n)) ∧ Ev (fun k => spec_gpWith.f k (n : Int) (w : Int) (b : Int)) (ic (wdN b w n)) := by
  have := pw8 hb2 hw
  exact ⟨impl_wordOf_wev b n w hb (by omega) (by omega), spec_gpWith_wev b n w hb (by omega) (by omega)⟩
theorem impl_step_ev (b : Nat) (ds : List Nat) (hb : 2 ≤ b) (hb2 : b ≤ 16) (h1 : 1 ≤ ds.length) (h2 : ds.length ≤ 8) (hd : ∀ d ∈ ds, d < b) : Ev (fun k => impl_SortedStep.f k (ic ds) (b : Int)) (ic (stp b ds), true) := by
  unfold impl_SortedStep.f
  rw [impl_isWord_eq, iw_ic hb hb2 h1 h2 hd, ic_length]
  refine evc rfl (evp rfl (evb (impl_gaps_ev ds (lt16 hb2 hd) h2) (evb (byGaps_ev b ds.length hb hb2 h2 _ (by rw [gp_length, so_length]; omega) (gp_lt (so_lt hd) (by omega))) ?_)))
  exact evb (wd_ev b _ _ hb hb2 h2 (byG_le (by omega) hd)).1 (Ev.now _)
theorem spec_gpStep_ev (b : Nat) (ds : List Nat) (hb : 2 ≤ b) (hb2 : b ≤ 16) (h2 : ds.length ≤ 8) (hd : ∀ d ∈ ds, d < b) : Ev (fun k => spec_gpStep.f k (ic ds) (b : Int)) (ic (stp b ds)) := by
  unfold spec_gpStep.f
  have hs := so_lt hd
  have hr : ∀ d ∈ (so ds).reverse, d < b := fun d hd2 => hs d (List.mem_reverse.1 hd2)
  have h3 := step_law (b := b) (by omega) _ (so ds) (Nat.le_refl _) (so_sorted ds)
  have h4 := val_lt0 (so ds).reverse hr
  have h5 := pw8 hb2 (show (so ds).reverse.length ≤ 8 by rw [List.length_reverse, so_length]; exact h2)
  refine evb (dgSorted_ev ds (by omega)) (evb (spec_dgBack_ev (ic (so ds)) (by rw [ic_length, so_length]; omega)) ?_)
  rw [← ic_reverse]
  refine evb (spec_gpValue_vev b hb2 _ hr (by rw [List.length_reverse, so_length]; exact h2)) (evb (spec_gpValue_vev b hb2 _ hs (by rw [so_length]; exact h2)) ?_)
  have e : wrap64 (((val b 0 (so ds).reverse : Nat) : Int) - ((val b 0 (so ds) : Nat) : Int)) = ((byG b ds.length 0 (gp (so ds)) : Nat) : Int) := by
    rw [so_length] at h3
    rw [w64 (by omega) (by omega)]
    omega
  rw [e, ic_length]
  exact evb (wd_ev b _ _ hb hb2 h2 (byG_le (by omega) hd)).2 (Ev.now _)
theorem spec_step_ev (b : Nat) (ds : List Nat) (hb : 2 ≤ b) (hb2 : b ≤ 16) (h1 : 1 ≤ ds.length) (h2 : ds.length ≤ 8) (hd : ∀ d ∈ ds, d < b) : Ev (fun k => spec_SortedStep.f k (ic ds) (b : Int)) (ic (stp b ds), true) := by
  unfold spec_SortedStep.f
  have h := spec_gpWord_ev (ic ds) (b : Int) (by rw [ic_length]; omega)
  rw [iw_ic hb hb2 h1 h2 hd] at h
  exact evb h (evp rfl (evb (spec_gpStep_ev b ds hb hb2 h2 hd) (Ev.now _)))
theorem gaps_both (b : Nat) (ds : List Nat) (hb : 2 ≤ b) (hb2 : b ≤ 16) (h1 : 1 ≤ ds.length) (h2 : ds.length ≤ 8) (hd : ∀ d ∈ ds, d < b) : Ev (fun k => impl_GapsOf.f k (ic ds) (b : Int)) (ic (gp (so ds)), true) ∧ Ev (fun k => spec_GapsOf.f k (ic ds) (b : Int)) (ic (gp (so ds)), true) := by
  unfold impl_GapsOf.f spec_GapsOf.f
  have h := spec_gpWord_ev (ic ds) (b : Int) (by rw [ic_length]; omega)
  rw [impl_isWord_eq, iw_ic hb hb2 h1 h2 hd]
  rw [iw_ic hb hb2 h1 h2 hd] at h
  exact ⟨evc rfl (evp rfl (evb (impl_gaps_ev ds (lt16 hb2 hd) h2) (Ev.now _))), evb h (evp rfl (evb (spec_gpGaps_ev ds (lt16 hb2 hd) h2) (Ev.now _)))⟩
theorem value_both (b : Nat) (ds : List Nat) (hb : 2 ≤ b) (hb2 : b ≤ 16) (h1 : 1 ≤ ds.length) (h2 : ds.length ≤ 8) (hd : ∀ d ∈ ds, d < b) : Ev (fun k => impl_ValueOf.f k (ic ds) (b : Int)) (((val b 0 ds : Nat) : Int), true) ∧ Ev (fun k => spec_ValueOf.f k (ic ds) (b : Int)) (((val b 0 ds : Nat) : Int), true) := by
  unfold impl_ValueOf.f spec_ValueOf.f
  have h := spec_gpWord_ev (ic ds) (b : Int) (by rw [ic_length]; omega)
  rw [impl_isWord_eq, iw_ic hb hb2 h1 h2 hd]
  rw [iw_ic hb hb2 h1 h2 hd] at h
  exact ⟨evc rfl (evp rfl (evb (impl_worth_vev b hb2 ds hd h2) (Ev.now _))), evb h (evp rfl (evb (spec_gpValue_vev b hb2 ds hd h2) (Ev.now _)))⟩
theorem word_no (l : List Int) (b : Int) (hl : l.length ≤ 1000000) (h : iw l b = false) : Ev (fun k => impl_SortedStep.f k l b) (([] : List Int), false) ∧ Ev (fun k => spec_SortedStep.f k l b) (([] : List Int), false) ∧ Ev (fun k => impl_GapsOf.f k l b) (([] : List Int), false) ∧ Ev (fun k => spec_GapsOf.f k l b) (([] : List Int), false) ∧
    Ev (fun k => impl_ValueOf.f k l b) ((0 : Int), false) ∧ Ev (fun k => spec_ValueOf.f k l b) ((0 : Int), false) := by
  unfold impl_SortedStep.f spec_SortedStep.f impl_GapsOf.f spec_GapsOf.f impl_ValueOf.f spec_ValueOf.f
  have h2 := spec_gpWord_ev l b hl
  rw [h] at h2
  rw [impl_isWord_eq, h]
  exact ⟨evc rfl (evn (by simp) (Ev.now _)), evb h2 (evn (by simp) (Ev.now _)), evc rfl (evn (by simp) (Ev.now _)), evb h2 (evn (by simp) (Ev.now _)), evc rfl (evn (by simp) (Ev.now _)), evb h2 (evn (by simp) (Ev.now _))⟩
theorem pow_dvd (b : Nat) (hb : 1 ≤ b) (n : Nat) : (b - 1) ∣ b ^ n - 1 := by
  induction n with
  | zero => simp
  | succ n ih =>
    have hp : 1 ≤ b ^ n := Nat.pow_pos hb
    have e : b ^ (n + 1) - 1 = b * (b ^ n - 1) + (b - 1) := by
      rw [Nat.pow_succ, Nat.mul_comm]
      obtain ⟨q, hq⟩ : ∃ q, b ^ n = q + 1 := ⟨b ^ n - 1, by omega⟩
      rw [hq, Nat.mul_add, Nat.add_sub_cancel, Nat.mul_one]
      omega
    rw [e]
    exact Nat.dvd_add (Nat.dvd_trans ih (Nat.dvd_mul_left _ _)) (Nat.dvd_refl _)
theorem byG_dvd (b w : Nat) (hb : 1 ≤ b) (l : List Nat) : ∀ i, (b - 1) ∣ byG b w i l := by
  induction l with
  | nil => intro i; exact Nat.dvd_zero _
  | cons x l ih =>
    intro i
    refine Nat.dvd_add (Nat.dvd_trans ?_ (Nat.dvd_mul_left _ _)) (ih (i + 1))
    by_cases h : i ≤ w - 1 - i
    · have e : b ^ (w - 1 - i) - b ^ i = b ^ i * (b ^ (w - 1 - i - i) - 1) := by
        rw [Nat.mul_sub, Nat.mul_one, ← Nat.pow_add, show i + (w - 1 - i - i) = w - 1 - i by omega]
      rw [e]
      exact Nat.dvd_trans (pow_dvd b hb _) (Nat.dvd_mul_left _ _)
    · have := Nat.pow_le_pow_right hb (show w - 1 - i ≤ i by omega)
      rw [Nat.sub_eq_zero_of_le this]
      exact Nat.dvd_zero _
theorem stp_word (b : Nat) (ds : List Nat) (hb : 2 ≤ b) (hd : ∀ d ∈ ds, d < b) : (stp b ds).length = ds.length ∧ (∀ d ∈ stp b ds, d < b) ∧ val b 0 (stp b ds) % (b - 1) = 0 := by
  refine ⟨wdN_length _ _ _, wdN_lt (by omega) _ _, ?_⟩
  unfold stp
  rw [wdN_val, Nat.mod_eq_of_lt (byG_le (by omega) hd)]
  exact Nat.mod_eq_zero_of_dvd (byG_dvd b _ (by omega) _ _)

def chn : List Int → Bool
  | [] => true
  | [_] => true
  | x :: y :: l => !decide (y > x) && chn (y :: l)
theorem less_eq (x y : Int) : cmp_Less_int.f x y = some (decide (x < y)) := by
  unfold cmp_Less_int.f cmp_isNaN_int.f
  simp
theorem isSorted_loop (post : List Int) : ∀ (x : Int) (Q : List Int), post.length + Q.length ≤ 1000000 → Ev (fun k => slices_IsSorted_int_int.l0 k (post.reverse ++ x :: Q) (post.length : Int)) (chn (x :: post)) := by
  induction post with
  | nil =>
    intro x Q _
    refine evs (fun k => by rw [slices_IsSorted_int_int.l0]) ?_
    exact evn (by simp) (evr rfl)
  | cons y post ih =>
    intro x Q hl
    simp only [List.length_cons] at hl
    have e0 : (y :: post).reverse ++ x :: Q = post.reverse ++ y :: (x :: Q) := by simp
    have e1 : rd (post.reverse ++ y :: (x :: Q)) (post.length : Int) = y := rd_mid' _ _ _ _ (by simp)
    have e2 : rd (post.reverse ++ y :: (x :: Q)) ((post.length : Int) + 1) = x := by
      have := rd_mid' (post.reverse ++ [y]) Q x ((post.length : Int) + 1) (by simp)
      simpa using this
    have e3 : (((y :: post).length : Nat) : Int) = (post.length : Int) + 1 := by simp
    have e4 : (post.reverse ++ y :: (x :: Q)).length = post.length + (Q.length + 1 + 1) := by simp
    have h := ih y (x :: Q) (by simp; omega)
    refine evs (fun k => by rw [slices_IsSorted_int_int.l0]) ?_
    rw [e0, e3, w64 (x := (post.length : Int) + 1 - 1) (by omega) (by omega), show (post.length : Int) + 1 - 1 = (post.length : Int) by omega, e1, e2, e4, less_eq]
    refine evp (by omega) (evp (by omega) (evp (by omega) (evp (by omega) (evp (by omega) (evc rfl ?_)))))
    by_cases hxy : x < y
    · refine evp (decide_eq_true hxy) (evr ?_)
      simp [chn, show y > x from hxy]
    · refine evn (by simp [hxy]) ?_
      have e5 : chn (x :: y :: post) = chn (y :: post) := by simp [chn]; intro _; omega
      rw [e5]
      exact h
theorem isSorted_ev (l : List Int) (h : l.length ≤ 1000000) : Ev (fun k => slices_IsSorted_int_int.f k l.reverse) (chn l) := by
  unfold slices_IsSorted_int_int.f
  cases l with
  | nil =>
    refine evs (fun k => by rw [slices_IsSorted_int_int.l0]) ?_
    exact evn (by rw [List.reverse_nil, List.length_nil, w64 (by omega) (by omega)]; omega) (evr rfl)
  | cons x l =>
    simp only [List.length_cons] at h
    have := isSorted_loop l x [] (by simp; omega)
    rw [List.length_reverse, List.length_cons, w64 (by omega) (by omega), show (((l.length + 1 : Nat) : Int) - 1) = (l.length : Int) by omega]
    simpa using this
theorem chn_desc (l : List Nat) : chn (ic l) = true → l.Pairwise (fun a b => b ≤ a) := by
  induction l with
  | nil => intro _; simp
  | cons x l ih =>
    cases l with
    | nil => intro _; simp
    | cons y l =>
      intro h
      simp only [ic_cons, chn, Bool.and_eq_true, Bool.not_eq_true', decide_eq_false_iff_not] at h
      have h2 := ih (by rw [ic_cons]; exact h.2)
      refine List.pairwise_cons.2 ⟨fun a ha => ?_, h2⟩
      rcases List.mem_cons.1 ha with rfl | ha
      · omega
      · have := (List.pairwise_cons.1 h2).1 a ha
        omega
theorem gpf_desc {s : List Nat} (hs : s.Pairwise (· ≤ ·)) (r : Nat) : ∀ i, i + r ≤ s.length / 2 → (gpf s i r).Pairwise (fun a b => b ≤ a) ∧ ∀ a ∈ gpf s i r, a ≤ s.getD (s.length - 1 - i) 0 - s.getD i 0 := by
  induction r with
  | zero => intro i _; exact ⟨by simp [gpf], fun a ha => by simp [gpf] at ha⟩
  | succ r ih =>
    intro i h
    obtain ⟨h1, h2⟩ := ih (i + 1) (by omega)
    have h3 := getD_mono hs (show s.length - 1 - (i + 1) ≤ s.length - 1 - i by omega) (by omega)
    have h4 := getD_mono hs (show i ≤ i + 1 by omega) (by omega)
    simp only [gpf]
    refine ⟨List.pairwise_cons.2 ⟨fun a ha => ?_, h1⟩, fun a ha => ?_⟩
    · have := h2 a ha
      omega
    · rcases List.mem_cons.1 ha with rfl | ha
      · exact Nat.le_refl _
      · have := h2 a ha
        omega
theorem gp_desc {s : List Nat} (hs : s.Pairwise (· ≤ ·)) : (gp s).Pairwise (fun a b => b ≤ a) := (gpf_desc hs _ 0 (by omega)).1
theorem desc_chn (l : List Nat) : l.Pairwise (fun a b => b ≤ a) → chn (ic l) = true := by
  induction l with
  | nil => intro _; rfl
  | cons x l ih =>
    cases l with
    | nil => intro _; rfl
    | cons y l =>
      intro h
      obtain ⟨h1, h2⟩ := List.pairwise_cons.1 h
      have h3 := h1 y (by simp)
      have h4 := ih h2
      rw [ic_cons] at h4
      simp only [ic_cons, chn, Bool.and_eq_true, Bool.not_eq_true', decide_eq_false_iff_not]
      exact ⟨by omega, h4⟩
theorem gap_word (w : Nat) (g : List Nat) (hg : g.length = w / 2) (hd : g.Pairwise (fun a b => b ≤ a)) : so (g ++ List.replicate (w - g.length) 0) = List.replicate (w - g.length) 0 ++ g.reverse ∧ gp (List.replicate (w - g.length) 0 ++ g.reverse) = g := by
  constructor
  · refine (so_uniq ?_ ?_).symm
    · exact List.perm_append_comm.trans ((List.reverse_perm g).append_right _)
    · rw [List.pairwise_append]
      refine ⟨by rw [List.pairwise_replicate]; right; exact Nat.le_refl _, by rw [List.pairwise_reverse]; exact hd, fun a ha b _ => ?_⟩
      rw [(List.mem_replicate.1 ha).2]
      exact Nat.zero_le _
  · have hl : (List.replicate (w - g.length) 0 ++ g.reverse).length = w := by simp; omega
    have key : ∀ r i, i + r = g.length → gpf (List.replicate (w - g.length) 0 ++ g.reverse) i r = g.drop i := by
      intro r
      induction r with
      | zero => intro i h; rw [List.drop_eq_nil_of_le (by omega)]; rfl
      | succ r ih =>
        intro i h
        have e1 : (List.replicate (w - g.length) 0 ++ g.reverse).getD i 0 = 0 := by
          rw [List.getD_eq_getElem?_getD, List.getElem?_append_left (by simp; omega), List.getElem?_replicate]
          split <;> rfl
        have e2 : (List.replicate (w - g.length) 0 ++ g.reverse).getD ((List.replicate (w - g.length) 0 ++ g.reverse).length - 1 - i) 0 = g[i]'(by omega) := by
          rw [hl, List.getD_eq_getElem?_getD, List.getElem?_append_right (by simp; omega), List.length_replicate, List.getElem?_reverse (by omega), show g.length - 1 - (w - 1 - i - (w - g.length)) = i by omega, List.getElem?_eq_getElem (by omega)]
          rfl
        simp only [gpf]
        rw [e1, e2, ih (i + 1) (by omega), Nat.sub_zero, ← List.drop_eq_getElem_cons (by omega)]
    unfold gp
    rw [hl, ← hg, key g.length 0 (by omega)]
    rfl
def gok (l : List Int) (w b : Int) : Bool := decide (2 ≤ b ∧ b ≤ 16) && (decide (1 ≤ w ∧ w ≤ 8) && (decide ((l.length : Int) = Int.tdiv w 2) && ((l.all fun x => decide (0 ≤ x ∧ x ≤ b - 1)) && chn l)))
theorem impl_sbg_no (l : List Int) (w b : Int) (hl : l.length ≤ 1000000) (h : gok l w b = false) : Ev (fun k => impl_StepByGaps.f k l w b) (([] : List Int), false) := by
  unfold impl_StepByGaps.f
  have hj : Ev (fun k => impl_StepByGaps.j0 k l w b true) (([] : List Int), false) := by
    refine evs (fun k => by rw [impl_StepByGaps.j0]) ?_
    exact evp rfl (Ev.now _)
  refine evc (impl_isBase_eq b) ?_
  by_cases h1 : 2 ≤ b ∧ b ≤ 16
  · rw [decide_eq_true h1]
    refine evp rfl (evc (show impl_isWidth.f w = some (decide (1 ≤ w ∧ w ≤ 8)) by simp [impl_isWidth.f, impl_in_eq]) ?_)
    by_cases h2 : 1 ≤ w ∧ w ≤ 8
    · rw [decide_eq_true h2]
      have ht : Int.tdiv w 2 = w / 2 := Int.tdiv_eq_ediv_of_nonneg (by omega)
      have ew : wrap64 (Int.tdiv w 2) = Int.tdiv w 2 := w64 (by omega) (by omega)
      have eb : wrap64 (b - 1) = b - 1 := w64 (by omega) (by omega)
      refine evp rfl (evc (show impl_areIn.f l 0 (wrap64 (b - 1)) (wrap64 (Int.tdiv w 2)) (wrap64 (Int.tdiv w 2)) = some (decide ((l.length : Int) = Int.tdiv w 2) && (l.all fun x => decide (0 ≤ x ∧ x ≤ b - 1))) by
        rw [ew, eb]
        unfold impl_areIn.f
        congr 2
        rw [decide_eq_decide]
        omega) ?_)
      by_cases h3 : (decide ((l.length : Int) = Int.tdiv w 2) && (l.all fun x => decide (0 ≤ x ∧ x ≤ b - 1))) = true
      · rw [h3]
        have h4 : chn l = false := by
          unfold gok at h
          rw [decide_eq_true h1, decide_eq_true h2, Bool.true_and, Bool.true_and, ← Bool.and_assoc, h3, Bool.true_and] at h
          exact h
        refine evp rfl (evb (show Ev (fun k => impl_reversed.f k l) l.reverse from evc (clone_ev l hl) (evb (reverse_ev l (by omega)) (Ev.now _))) (evb (isSorted_ev l hl) ?_))
        rw [h4]
        exact hj
      · exact evn h3 hj
    · rw [decide_eq_false h2]
      exact evn (by simp) hj
  · rw [decide_eq_false h1]
    exact evn (by simp) hj
theorem gok_of {l : List Int} {w b : Int} (h : gok l w b = true) : ∃ (B W : Nat) (g : List Nat), b = (B : Int) ∧ w = (W : Int) ∧ l = ic g ∧ 2 ≤ B ∧ B ≤ 16 ∧ 1 ≤ W ∧ W ≤ 8 ∧ g.length = W / 2 ∧ (∀ d ∈ g, d < B) ∧ chn (ic g) = true := by
  unfold gok at h
  simp only [Bool.and_eq_true, decide_eq_true_eq, List.all_eq_true] at h
  obtain ⟨h1, h2, h3, h4, h5⟩ := h
  obtain ⟨B, rfl⟩ := natOf (show 0 ≤ b by omega)
  obtain ⟨W, rfl⟩ := natOf (show 0 ≤ w by omega)
  rw [Int.tdiv_eq_ediv_of_nonneg (by omega)] at h3
  have e : l = ic (l.map Int.toNat) := by
    unfold ic
    rw [List.map_map]
    refine (List.map_id' l).symm.trans (List.map_congr_left (fun x hx => ?_))
    have := h4 x hx
    simp only [Function.comp]
    omega
  refine ⟨B, W, l.map Int.toNat, rfl, rfl, e, by omega, by omega, by omega, by omega, by rw [List.length_map]; omega, fun d hd => ?_, by rw [← e]; exact h5⟩
  obtain ⟨x, hx, rfl⟩ := List.mem_map.1 hd
  have := h4 x hx
  omega
theorem byG_lt {B W : Nat} {g : List Nat} (h1 : 2 ≤ B) (h5 : g.length = W / 2) (h6 : ∀ d ∈ g, d < B) (h7 : chn (ic g) = true) : byG B W 0 g < B ^ W ∧ ∃ ds : List Nat, ds = g ++ List.replicate (W - g.length) 0 ∧ ds.length = W ∧ (∀ d ∈ ds, d < B) ∧ gp (so ds) = g := by
  obtain ⟨e1, e2⟩ := gap_word W g h5 (chn_desc g h7)
  have hl : (g ++ List.replicate (W - g.length) 0).length = W := by simp; omega
  have hd : ∀ d ∈ g ++ List.replicate (W - g.length) 0, d < B := fun d hd => by
    rcases List.mem_append.1 hd with h | h
    · exact h6 d h
    · rw [(List.mem_replicate.1 h).2]; omega
  have h := byG_le (b := B) (by omega) hd
  rw [e1, e2, hl] at h
  exact ⟨h, _, rfl, hl, hd, by rw [e1, e2]⟩
theorem impl_sbg_yes {B W : Nat} {g : List Nat} (h1 : 2 ≤ B) (h2 : B ≤ 16) (h3 : 1 ≤ W) (h4 : W ≤ 8) (h5 : g.length = W / 2) (h6 : ∀ d ∈ g, d < B) (h7 : chn (ic g) = true) : Ev (fun k => impl_StepByGaps.f k (ic g) (W : Int) (B : Int)) (ic (wdN B W (byG B W 0 g)), true) := by
  unfold impl_StepByGaps.f
  have ew : wrap64 (Int.tdiv (W : Int) 2) = ((g.length : Nat) : Int) := by
    rw [Int.tdiv_eq_ediv_of_nonneg (by omega), w64 (by omega) (by omega)]
    omega
  have eb : wrap64 ((B : Int) - 1) = (B : Int) - 1 := w64 (by omega) (by omega)
  refine evc (impl_isBase_eq _) ?_
  rw [decide_eq_true (show 2 ≤ (B : Int) ∧ (B : Int) ≤ 16 by omega)]
  refine evp rfl (evc (show impl_isWidth.f (W : Int) = some (decide (1 ≤ (W : Int) ∧ (W : Int) ≤ 8)) by simp [impl_isWidth.f, impl_in_eq]) ?_)
  rw [decide_eq_true (show 1 ≤ (W : Int) ∧ (W : Int) ≤ 8 by omega)]
  refine evp rfl (evc (show impl_areIn.f (ic g) 0 (wrap64 ((B : Int) - 1)) (wrap64 (Int.tdiv (W : Int) 2)) (wrap64 (Int.tdiv (W : Int) 2)) = some true by
    rw [ew, eb]
    unfold impl_areIn.f
    rw [ic_length, decide_eq_true (show ((g.length : Nat) : Int) ≤ (g.length : Int) ∧ (g.length : Int) ≤ ((g.length : Nat) : Int) by omega), Bool.true_and]
    congr 1
    rw [List.all_eq_true]
    intro x hx
    unfold ic at hx
    obtain ⟨d, hd, rfl⟩ := List.mem_map.1 hx
    have := h6 d hd
    rw [decide_eq_true_eq]
    omega) ?_)
  have hl : (ic g).length ≤ 1000000 := by rw [ic_length]; omega
  refine evp rfl (evb (show Ev (fun k => impl_reversed.f k (ic g)) (ic g).reverse from evc (clone_ev _ hl) (evb (reverse_ev _ (by omega)) (Ev.now _))) (evb (isSorted_ev _ hl) ?_))
  rw [h7]
  refine evs (fun k => by rw [impl_StepByGaps.j0]) ?_
  exact evn (by simp) (evb (byGaps_ev B W h1 h2 h4 g (by omega) h6) (evb (wd_ev B _ W h1 h2 h4 (byG_lt h1 h5 h6 h7).1).1 (Ev.now _)))
theorem gpBy_loop (B : Nat) (g : List Int) (hg : g.length ≤ 1000) (R : List Int) (post : List Int) : ∀ (pre Z : List Int), g = pre ++ post → post.length ≤ Z.length → Z.length ≤ 1000 → Ev (fun k => spec_gpStep.f k (g ++ Z.drop post.length) (B : Int)) R → Ev (fun k => spec_gpBy.l0 k (B : Int) (pre ++ Z) g (g.length : Int) (pre.length : Int)) R := by
  induction post with
  | nil =>
    intro pre Z hw _ _ h
    refine evs (fun k => by rw [spec_gpBy.l0]) ?_
    rw [List.append_nil] at hw
    subst hw
    exact evn (by omega) (evb h (Ev.now _))
  | cons x post ih =>
    intro pre Z hw hz hz2 h
    cases Z with
    | nil => simp at hz
    | cons z Z =>
      have hl : g.length = pre.length + (post.length + 1) := by rw [hw]; simp
      have hx : rd g (pre.length : Int) = x := by rw [hw, rd_mid]
      have h2 := ih (pre ++ [x]) Z (by rw [hw]; simp) (by simp at hz; omega) (by simp at hz2; omega) (by simpa using h)
      rw [show (((pre ++ [x]).length : Nat) : Int) = (pre.length : Int) + 1 by simp, List.append_assoc, List.singleton_append] at h2
      refine evs (fun k => by rw [spec_gpBy.l0]) ?_
      rw [hx, set_midI _ _ _ _ _ rfl, w64 (x := (pre.length : Int) + 1) (by omega) (by omega)]
      exact evp (by omega) (evp (by omega) (evp (by omega) (evp (by simp; omega) h2)))
theorem gpBy_ev {B W : Nat} {g : List Nat} (h1 : 2 ≤ B) (h2 : B ≤ 16) (h3 : 1 ≤ W) (h4 : W ≤ 8) (h5 : g.length = W / 2) (h6 : ∀ d ∈ g, d < B) (h7 : chn (ic g) = true) : Ev (fun k => spec_gpBy.f k (ic g) (W : Int) (B : Int)) (ic (wdN B W (byG B W 0 g))) := by
  obtain ⟨_, ds, e1, e2, e3, e4⟩ := byG_lt h1 h5 h6 h7
  have h := spec_gpStep_ev B ds h1 h2 (by omega) e3
  have e5 : stp B ds = wdN B W (byG B W 0 g) := by unfold stp; rw [e2, e4]
  rw [e5] at h
  unfold spec_gpBy.f
  refine evp (by omega) (evp (by omega) ?_)
  rw [Int.toNat_natCast]
  have h8 := gpBy_loop B (ic g) (by rw [ic_length]; omega) (ic (wdN B W (byG B W 0 g))) (ic g) [] (List.replicate W 0) rfl (by rw [ic_length, List.length_replicate]; omega) (by rw [List.length_replicate]; omega) (by
    have e6 : ic g ++ (List.replicate W (0 : Int)).drop (ic g).length = ic ds := by rw [e1, ic_length]; simp [ic]
    rw [e6]
    exact h)
  exact h8
theorem spec_sbg_loop (l : List Int) (w b : Int) (hl : l.length ≤ 1000000) (post : List Int) : ∀ (pre : List Int) (x : Int), l = pre ++ x :: post →
    (chn (x :: post) = false → Ev (fun k => spec_StepByGaps.l0 k l w b ((pre.length : Int) + 1)) (([] : List Int), false)) ∧
    (∀ r, chn (x :: post) = true → Ev (fun k => spec_gpBy.f k l w b) r → Ev (fun k => spec_StepByGaps.l0 k l w b ((pre.length : Int) + 1)) (r, true)) := by
  induction post with
  | nil =>
    intro pre x hw
    have hlen : l.length = pre.length + 1 := by rw [hw]; simp
    refine ⟨fun h => by simp [chn] at h, fun r _ hr => ?_⟩
    refine evs (fun k => by rw [spec_StepByGaps.l0]) ?_
    exact evn (by omega) (evb hr (Ev.now _))
  | cons y post ih =>
    intro pre x hw
    have hlen : l.length = pre.length + (post.length + 1 + 1) := by rw [hw]; simp
    have hx : rd l (pre.length : Int) = x := by rw [hw, rd_mid]
    have hy : rd l ((pre.length : Int) + 1) = y := by
      rw [hw, show pre ++ x :: y :: post = (pre ++ [x]) ++ y :: post by simp]
      exact rd_mid' _ _ _ _ (by simp)
    obtain ⟨i1, i2⟩ := ih (pre ++ [x]) y (by rw [hw]; simp)
    rw [show (((pre ++ [x]).length : Nat) : Int) = (pre.length : Int) + 1 by simp] at i1 i2
    have ew : wrap64 ((pre.length : Int) + 1 - 1) = (pre.length : Int) := by rw [w64 (by omega) (by omega)]; omega
    constructor
    · intro h
      refine evs (fun k => by rw [spec_StepByGaps.l0]) ?_
      rw [ew, hx, hy]
      refine evp (by omega) (evp (by omega) (evp (by omega) (evp (by omega) ?_)))
      by_cases hxy : y > x
      · exact evp hxy (Ev.now _)
      · refine evn hxy ?_
        rw [w64 (x := (pre.length : Int) + 1 + 1) (by omega) (by omega)]
        refine i1 ?_
        simp only [chn, decide_eq_false hxy, Bool.not_false, Bool.true_and] at h
        exact h
    · intro r h hr
      simp only [chn, Bool.and_eq_true, Bool.not_eq_true', decide_eq_false_iff_not] at h
      refine evs (fun k => by rw [spec_StepByGaps.l0]) ?_
      rw [ew, hx, hy, w64 (x := (pre.length : Int) + 1 + 1) (by omega) (by omega)]
      exact evp (by omega) (evp (by omega) (evp (by omega) (evp (by omega) (evn h.1 (i2 r h.2 hr)))))
theorem spec_sbg_walk (l : List Int) (w b : Int) (hl : l.length ≤ 1000000) : (chn l = false → Ev (fun k => spec_StepByGaps.l0 k l w b 1) (([] : List Int), false)) ∧ (∀ r, chn l = true → Ev (fun k => spec_gpBy.f k l w b) r → Ev (fun k => spec_StepByGaps.l0 k l w b 1) (r, true)) := by
  cases l with
  | nil =>
    refine ⟨fun h => by simp [chn] at h, fun r _ hr => ?_⟩
    refine evs (fun k => by rw [spec_StepByGaps.l0]) ?_
    exact evn (by simp) (evb hr (Ev.now _))
  | cons x l =>
    have := spec_sbg_loop (x :: l) w b hl l [] x rfl
    simpa using this
theorem spec_sbg_no (l : List Int) (w b : Int) (hl : l.length ≤ 1000000) (h : gok l w b = false) : Ev (fun k => spec_StepByGaps.f k l w b) (([] : List Int), false) := by
  unfold spec_StepByGaps.f
  have hj : Ev (fun k => spec_StepByGaps.j0 k l w b true) (([] : List Int), false) := by
    refine evs (fun k => by rw [spec_StepByGaps.j0]) ?_
    exact evp rfl (Ev.now _)
  refine evc (spec_dgBase_eq b) ?_
  by_cases h1 : 2 ≤ b ∧ b ≤ 16
  · rw [decide_eq_true h1]
    refine evp rfl (evc (spec_l1In_eq _ _ _) ?_)
    by_cases h2 : 1 ≤ w ∧ w ≤ 8
    · rw [decide_eq_true h2]
      have ht : Int.tdiv w 2 = w / 2 := Int.tdiv_eq_ediv_of_nonneg (by omega)
      have ew : wrap64 (Int.tdiv w 2) = Int.tdiv w 2 := w64 (by omega) (by omega)
      have eb : wrap64 (b - 1) = b - 1 := w64 (by omega) (by omega)
      rw [ew, eb]
      refine evp rfl ?_
      by_cases h3 : (l.length : Int) = Int.tdiv w 2
      · refine evp h3 (evb (l1All_ev l 0 (b - 1) (by omega)) ?_)
        cases h5 : (l.all fun x => decide (0 ≤ x ∧ x ≤ b - 1)) with
        | false => exact hj
        | true =>
          refine evs (fun k => by rw [spec_StepByGaps.j0]) ?_
          refine evn (by simp) ((spec_sbg_walk l w b hl).1 ?_)
          unfold gok at h
          rw [decide_eq_true h1, decide_eq_true h2, decide_eq_true h3, h5, Bool.true_and, Bool.true_and, Bool.true_and, Bool.true_and] at h
          exact h
      · exact evn h3 hj
    · rw [decide_eq_false h2]
      exact evn (by simp) hj
  · rw [decide_eq_false h1]
    exact evn (by simp) hj
theorem spec_sbg_yes {B W : Nat} {g : List Nat} (h1 : 2 ≤ B) (h2 : B ≤ 16) (h3 : 1 ≤ W) (h4 : W ≤ 8) (h5 : g.length = W / 2) (h6 : ∀ d ∈ g, d < B) (h7 : chn (ic g) = true) : Ev (fun k => spec_StepByGaps.f k (ic g) (W : Int) (B : Int)) (ic (wdN B W (byG B W 0 g)), true) := by
  unfold spec_StepByGaps.f
  have ew : wrap64 (Int.tdiv (W : Int) 2) = ((g.length : Nat) : Int) := by
    rw [Int.tdiv_eq_ediv_of_nonneg (by omega), w64 (by omega) (by omega)]
    omega
  have eb : wrap64 ((B : Int) - 1) = (B : Int) - 1 := w64 (by omega) (by omega)
  refine evc (spec_dgBase_eq _) ?_
  rw [decide_eq_true (show 2 ≤ (B : Int) ∧ (B : Int) ≤ 16 by omega)]
  refine evp rfl (evc (spec_l1In_eq _ _ _) ?_)
  rw [decide_eq_true (show 1 ≤ (W : Int) ∧ (W : Int) ≤ 8 by omega), ew, eb]
  have ha : ((ic g).all fun x => decide (0 ≤ x ∧ x ≤ (B : Int) - 1)) = true := by
    rw [List.all_eq_true]
    intro x hx
    unfold ic at hx
    obtain ⟨d, hd, rfl⟩ := List.mem_map.1 hx
    have := h6 d hd
    rw [decide_eq_true_eq]
    omega
  have hA := l1All_ev (ic g) 0 ((B : Int) - 1) (by rw [ic_length]; omega)
  rw [ha] at hA
  refine evp rfl (evp (by rw [ic_length]) (evb hA ?_))
  refine evs (fun k => by rw [spec_StepByGaps.j0]) ?_
  exact evn (by simp) ((spec_sbg_walk (ic g) W B (by rw [ic_length]; omega)).2 _ h7 (gpBy_ev h1 h2 h3 h4 h5 h6 h7))
theorem sbg_both (l : List Int) (w b : Int) (hl : l.length ≤ 1000000) : ∃ r : List Int × Bool, Ev (fun k => impl_StepByGaps.f k l w b) r ∧ Ev (fun k => spec_StepByGaps.f k l w b) r ∧ r.1.length ≤ 8 := by
  cases h : gok l w b with
  | false => exact ⟨_, impl_sbg_no l w b hl h, spec_sbg_no l w b hl h, by simp⟩
  | true =>
    obtain ⟨B, W, g, rfl, rfl, rfl, h1, h2, h3, h4, h5, h6, h7⟩ := gok_of h
    exact ⟨_, impl_sbg_yes h1 h2 h3 h4 h5 h6 h7, spec_sbg_yes h1 h2 h3 h4 h5 h6 h7, by simp only [ic_length, wdN_length]; exact h4⟩
theorem impl_word_yes {B W n : Nat} (h1 : 2 ≤ B) (h2 : B ≤ 16) (h3 : 1 ≤ W) (h4 : W ≤ 8) (hn : n < B ^ W) : Ev (fun k => impl_WordOf.f k (n : Int) (W : Int) (B : Int)) (ic (wdN B W n), true) := by
  unfold impl_WordOf.f
  have hp := pw8 h2 h4
  have ht := impl_toPower_ev B W (by omega) h2 h4
  generalize hP : B ^ W = P at hn hp ht
  refine evc (impl_isBase_eq _) ?_
  rw [decide_eq_true (show 2 ≤ (B : Int) ∧ (B : Int) ≤ 16 by omega)]
  refine evp rfl (evc (show impl_isWidth.f (W : Int) = some (decide (1 ≤ (W : Int) ∧ (W : Int) ≤ 8)) by simp [impl_isWidth.f, impl_in_eq]) ?_)
  rw [decide_eq_true (show 1 ≤ (W : Int) ∧ (W : Int) ≤ 8 by omega)]
  refine evp rfl (evb ht (evc (impl_in_eq _ _ _) ?_))
  rw [w64 (x := (P : Int) - 1) (by omega) (by omega), decide_eq_true (show 0 ≤ (n : Int) ∧ (n : Int) ≤ (P : Int) - 1 by omega)]
  exact evp rfl (evb (wd_ev B n W h1 h2 h4 (by omega)).1 (Ev.now _))
theorem word_both (n w b : Int) : (∃ N B W : Nat, n = (N : Int) ∧ b = (B : Int) ∧ w = (W : Int) ∧ 2 ≤ B ∧ B ≤ 16 ∧ 1 ≤ W ∧ W ≤ 8 ∧ N < B ^ W ∧ Ev (fun k => impl_WordOf.f k n w b) (ic (wdN B W N), true) ∧ Ev (fun k => spec_WordOf.f k n w b) (ic (wdN B W N), true)) ∨
    (Ev (fun k => impl_WordOf.f k n w b) (([] : List Int), false) ∧ Ev (fun k => spec_WordOf.f k n w b) (([] : List Int), false)) := by
  have hj : Ev (fun k => spec_WordOf.j0 k n w b true) (([] : List Int), false) := by
    refine evs (fun k => by rw [spec_WordOf.j0]) ?_
    exact evp rfl (Ev.now _)
  by_cases h1 : 2 ≤ b ∧ b ≤ 16
  · by_cases h2 : 1 ≤ w ∧ w ≤ 8
    · obtain ⟨B, rfl⟩ := natOf (show 0 ≤ b by omega)
      obtain ⟨W, rfl⟩ := natOf (show 0 ≤ w by omega)
      have hp := pw8 (b := B) (w := W) (by omega) (by omega)
      have ht := impl_toPower_ev B W (by omega) (by omega) (by omega)
      have hask : spec_gpAsked.f (W : Int) (B : Int) = some true := by
        unfold spec_gpAsked.f
        rw [spec_dgBase_eq, decide_eq_true h1]
        simp only [Option.bind_some, if_true]
        rw [spec_l1In_eq, decide_eq_true h2]
        rfl
      by_cases h3 : 0 ≤ n ∧ n < ((B ^ W : Nat) : Int)
      · obtain ⟨N, rfl⟩ := natOf h3.1
        have hN : N < B ^ W := by omega
        refine Or.inl ⟨N, B, W, rfl, rfl, rfl, by omega, by omega, by omega, by omega, hN, impl_word_yes (by omega) (by omega) (by omega) (by omega) hN, ?_⟩
        unfold spec_WordOf.f
        refine evc hask (evp rfl (evn (by omega) ?_))
        rw [decide_eq_false (show ¬ (N : Int) > 4294967296 by omega)]
        refine evs (fun k => by rw [spec_WordOf.j0]) ?_
        have hv := spec_gpValue_vev B (by omega) (wdN B W N) (wdN_lt (by omega) _ _) (by rw [wdN_length]; omega)
        rw [wdN_val, Nat.mod_eq_of_lt hN] at hv
        exact evn (by simp) (evb (wd_ev B N W (by omega) (by omega) (by omega) hN).2 (evb hv (evp rfl (Ev.now _))))
      · refine Or.inr ⟨?_, ?_⟩
        · unfold impl_WordOf.f
          refine evc (impl_isBase_eq _) ?_
          rw [decide_eq_true h1]
          refine evp rfl (evc (show impl_isWidth.f (W : Int) = some (decide (1 ≤ (W : Int) ∧ (W : Int) ≤ 8)) by simp [impl_isWidth.f, impl_in_eq]) ?_)
          rw [decide_eq_true h2]
          refine evp rfl (evb ht (evc (impl_in_eq _ _ _) ?_))
          generalize B ^ W = P at hp h3 ⊢
          rw [w64 (x := (P : Int) - 1) (by omega) (by omega), decide_eq_false (show ¬ (0 ≤ n ∧ n ≤ (P : Int) - 1) by omega)]
          exact evn (by simp) (Ev.now _)
        · unfold spec_WordOf.f
          refine evc hask (evp rfl ?_)
          by_cases h4 : n < 0
          · exact evp h4 hj
          · refine evn h4 ?_
            by_cases h5 : n > 4294967296
            · rw [decide_eq_true h5]
              exact hj
            · rw [decide_eq_false h5]
              obtain ⟨N, rfl⟩ := natOf (show 0 ≤ n by omega)
              refine evs (fun k => by rw [spec_WordOf.j0]) ?_
              have hv := spec_gpValue_vev B (by omega) (wdN B W N) (wdN_lt (by omega) _ _) (by rw [wdN_length]; omega)
              rw [wdN_val] at hv
              have hlt : N % B ^ W < B ^ W := Nat.mod_lt _ (Nat.pow_pos (by omega))
              refine evn (by simp) (evb (spec_gpWith_wev B N W (by omega) (by omega) (by omega)) (evb hv (evn (by omega) (Ev.now _))))
    · refine Or.inr ⟨?_, ?_⟩
      · unfold impl_WordOf.f
        refine evc (impl_isBase_eq _) ?_
        rw [decide_eq_true h1]
        refine evp rfl (evc (show impl_isWidth.f w = some (decide (1 ≤ w ∧ w ≤ 8)) by simp [impl_isWidth.f, impl_in_eq]) ?_)
        rw [decide_eq_false h2]
        exact evn (by simp) (Ev.now _)
      · unfold spec_WordOf.f
        have hask : spec_gpAsked.f w b = some false := by
          unfold spec_gpAsked.f
          rw [spec_dgBase_eq, decide_eq_true h1]
          simp only [Option.bind_some, if_true]
          rw [spec_l1In_eq, decide_eq_false h2]
          rfl
        exact evc hask (evn (by simp) hj)
  · refine Or.inr ⟨?_, ?_⟩
    · unfold impl_WordOf.f
      refine evc (impl_isBase_eq _) ?_
      rw [decide_eq_false h1]
      exact evn (by simp) (Ev.now _)
    · unfold spec_WordOf.f
      have hask : spec_gpAsked.f w b = some false := by
        unfold spec_gpAsked.f
        rw [spec_dgBase_eq, decide_eq_false h1]
        rfl
      exact evc hask (evn (by simp) hj)

theorem laws_qSame_loop (post : List Int) : ∀ (pre post' : List Int), post'.length = post.length → (pre ++ post).length ≤ 4611686018427387904 →
    Ev (fun k => laws_qSame.l0 k (pre ++ post) (pre ++ post') ((pre ++ post).length : Int) (pre.length : Int)) (decide (post = post')) := by
  induction post with
  | nil =>
    intro pre post' hl h
    obtain rfl : post' = [] := List.eq_nil_of_length_eq_zero hl
    refine evs (fun k => by rw [laws_qSame.l0]) ?_
    exact evn (by simp) (evr (by simp))
  | cons x post ih =>
    intro pre post' hl h
    obtain ⟨y, post', rfl⟩ : ∃ y z, post' = y :: z := by cases post' with
      | nil => simp at hl
      | cons y z => exact ⟨y, z, rfl⟩
    refine evs (fun k => by rw [laws_qSame.l0]) ?_
    refine evp (by simp; omega) (evp (by omega) (evp (by simp; omega) (evp (by simp; omega) ?_)))
    rw [rd_mid, rd_mid]
    by_cases he : x = y
    · subst he
      refine evp rfl ?_
      have h2 := ih (pre ++ [x]) post' (by simpa using hl) (by simpa using h)
      simp only [List.append_assoc, List.singleton_append] at h2
      rw [w64 (by omega) (by simp at h; omega)]
      simpa using h2
    · exact evn he (evr (by simp [he]))
theorem laws_qSame_ev (l l' : List Int) (h : l.length ≤ 4611686018427387904) : Ev (fun k => laws_qSame.f k l l') (decide (l = l')) := by
  unfold laws_qSame.f
  by_cases hl : l.length = l'.length
  · exact evp (by omega) (by simpa using laws_qSame_loop l [] l' hl.symm (by simpa using h))
  · exact evn (by omega) (evr (by symm; rw [decide_eq_false_iff_not]; exact fun e => hl (by rw [e])))
theorem laws_qSame_self (l : List Int) (h : l.length ≤ 4611686018427387904) : Ev (fun k => laws_qSame.f k l l) true := by simpa using laws_qSame_ev l l h

def dlist : Nat → Nat → List (List Nat)
  | 0, _ => [[]]
  | r + 1, M => (List.range' 0 (M + 1)).flatMap fun x => (dlist r x).map (x :: ·)
def alist (hi : Nat) : Nat → Nat → List (List Nat)
  | 0, _ => [[]]
  | r + 1, lo => (List.range' lo (hi + 1 - lo)).flatMap fun d => (alist hi r d).map (d :: ·)
theorem dlist_mem (r : Nat) : ∀ (M : Nat) (t : List Nat), t ∈ dlist r M ↔ t.length = r ∧ t.Pairwise (fun a b => b ≤ a) ∧ ∀ d ∈ t, d ≤ M := by
  induction r with
  | zero =>
    intro M t
    simp only [dlist, List.mem_singleton]
    constructor
    · rintro rfl; simp
    · rintro ⟨h, _⟩; exact List.eq_nil_of_length_eq_zero h
  | succ r ih =>
    intro M t
    simp only [dlist, List.mem_flatMap, List.mem_range'_1, List.mem_map]
    constructor
    · rintro ⟨x, hx, s, hs, rfl⟩
      obtain ⟨h1, h2, h3⟩ := (ih x s).1 hs
      refine ⟨by simp [h1], List.pairwise_cons.2 ⟨h3, h2⟩, fun d hd => ?_⟩
      rcases List.mem_cons.1 hd with rfl | hd
      · omega
      · have := h3 d hd; omega
    · rintro ⟨h1, h2, h3⟩
      cases t with
      | nil => simp at h1
      | cons x s =>
        obtain ⟨h4, h5⟩ := List.pairwise_cons.1 h2
        have := h3 x (by simp)
        exact ⟨x, by omega, s, (ih x s).2 ⟨by simpa using h1, h5, h4⟩, rfl⟩
theorem alist_mem (hi r : Nat) : ∀ (lo : Nat) (t : List Nat), t ∈ alist hi r lo ↔ t.length = r ∧ t.Pairwise (fun a b => a ≤ b) ∧ ∀ d ∈ t, lo ≤ d ∧ d ≤ hi := by
  induction r with
  | zero =>
    intro lo t
    simp only [alist, List.mem_singleton]
    constructor
    · rintro rfl; simp
    · rintro ⟨h, _⟩; exact List.eq_nil_of_length_eq_zero h
  | succ r ih =>
    intro lo t
    simp only [alist, List.mem_flatMap, List.mem_range'_1, List.mem_map]
    constructor
    · rintro ⟨x, hx, s, hs, rfl⟩
      obtain ⟨h1, h2, h3⟩ := (ih x s).1 hs
      refine ⟨by simp [h1], List.pairwise_cons.2 ⟨fun a ha => (h3 a ha).1, h2⟩, fun d hd => ?_⟩
      rcases List.mem_cons.1 hd with rfl | hd
      · omega
      · have := h3 d hd; omega
    · rintro ⟨h1, h2, h3⟩
      cases t with
      | nil => simp at h1
      | cons x s =>
        obtain ⟨h4, h5⟩ := List.pairwise_cons.1 h2
        have := h3 x (by simp)
        exact ⟨x, by omega, s, (ih x s).2 ⟨by simpa using h1, h5, fun d hd => ⟨h4 d hd, (h3 d (by simp [hd])).2⟩⟩, rfl⟩
theorem fm_len {α β : Type} (f : α → List β) (B : Nat) (l : List α) : (∀ a ∈ l, (f a).length ≤ B) → (l.flatMap f).length ≤ l.length * B := by
  induction l with
  | nil => intro _; simp
  | cons a l ih =>
    intro h
    have h1 := h a (by simp)
    have h2 := ih (fun x hx => h x (by simp [hx]))
    rw [List.flatMap_cons, List.length_append, List.length_cons, Nat.add_mul, Nat.one_mul]
    omega
theorem dlist_len (r : Nat) : ∀ M, M ≤ 15 → (dlist r M).length ≤ 16 ^ r := by
  induction r with
  | zero => intro M _; simp [dlist]
  | succ r ih =>
    intro M hM
    simp only [dlist]
    refine Nat.le_trans (fm_len _ (16 ^ r) _ (fun a ha => ?_)) ?_
    · rw [List.length_map]
      exact ih a (by have := List.mem_range'_1.1 ha; omega)
    · rw [List.length_range', Nat.pow_succ, Nat.mul_comm]
      exact Nat.mul_le_mul_left _ (by omega)
theorem alist_len {hi : Nat} (hh : hi ≤ 15) (r : Nat) : ∀ lo, (alist hi r lo).length ≤ 16 ^ r := by
  induction r with
  | zero => intro lo; simp [alist]
  | succ r ih =>
    intro lo
    simp only [alist]
    refine Nat.le_trans (fm_len _ (16 ^ r) _ (fun a _ => ?_)) ?_
    · rw [List.length_map]
      exact ih a
    · rw [List.length_range', Nat.pow_succ, Nat.mul_comm]
      exact Nat.mul_le_mul_left _ (by omega)
def lx (x y : List Nat) : Prop := impl_allGaps.cm (ic x) (ic y) < 0
theorem lx_cons {x : Nat} {s t : List Nat} (h : lx s t) : lx (x :: s) (x :: t) := by
  unfold lx at h ⊢
  simp only [ic_cons, impl_allGaps.cm]
  rw [if_neg (by omega), if_neg (by omega)]
  exact h
theorem lx_lt {x y : Nat} (h : x < y) (s t : List Nat) : lx (x :: s) (y :: t) := by
  unfold lx
  simp only [ic_cons, impl_allGaps.cm]
  rw [if_pos (by omega)]
  omega
theorem lx_ne {x y : List Nat} (h : lx x y) : x ≠ y := by
  rintro rfl
  unfold lx at h
  rw [impl_allGaps.cm_self] at h
  omega
theorem fm_lx (f : Nat → List (List Nat)) (l : List Nat) : l.Pairwise (· < ·) → (∀ x ∈ l, (f x).Pairwise lx) → (l.flatMap fun x => (f x).map (x :: ·)).Pairwise lx := by
  induction l with
  | nil => intro _ _; simp
  | cons x l ih =>
    intro h hf
    obtain ⟨h1, h2⟩ := List.pairwise_cons.1 h
    rw [List.flatMap_cons, List.pairwise_append]
    refine ⟨?_, ih h2 (fun y hy => hf y (by simp [hy])), fun a ha b hb => ?_⟩
    · rw [List.pairwise_map]
      exact (hf x (by simp)).imp (fun h => lx_cons h)
    · obtain ⟨s, _, rfl⟩ := List.mem_map.1 ha
      obtain ⟨y, hy, hb⟩ := List.mem_flatMap.1 hb
      obtain ⟨t, _, rfl⟩ := List.mem_map.1 hb
      exact lx_lt (h1 y hy) s t
theorem dlist_lx (r : Nat) : ∀ M, (dlist r M).Pairwise lx := by
  induction r with
  | zero => intro M; simp [dlist]
  | succ r ih => intro M; exact fm_lx _ _ List.pairwise_lt_range' (fun x _ => ih x)
theorem alist_lx (hi r : Nat) : ∀ lo, (alist hi r lo).Pairwise lx := by
  induction r with
  | zero => intro M; simp [alist]
  | succ r ih => intro M; exact fm_lx _ _ List.pairwise_lt_range' (fun x _ => ih x)
theorem lists_perm (r hi : Nat) : (dlist r hi).Perm ((alist hi r 0).map List.reverse) := by
  have h1 : (dlist r hi).Nodup := (dlist_lx r hi).imp (fun h => lx_ne h)
  have h2 : ((alist hi r 0).map List.reverse).Nodup := by
    rw [List.Nodup, List.pairwise_map]
    refine (alist_lx hi r 0).imp (fun {a b} h => ?_)
    intro e
    exact lx_ne h (by simpa using congrArg List.reverse e)
  refine (List.perm_ext_iff_of_nodup h1 h2).2 (fun t => ?_)
  rw [dlist_mem, List.mem_map]
  constructor
  · rintro ⟨e1, e2, e3⟩
    refine ⟨t.reverse, (alist_mem hi r 0 _).2 ⟨by simpa using e1, by rw [List.pairwise_reverse]; exact e2, fun d hd => ⟨Nat.zero_le _, e3 d (List.mem_reverse.1 hd)⟩⟩, List.reverse_reverse t⟩
  · rintro ⟨s, hs, rfl⟩
    obtain ⟨e1, e2, e3⟩ := (alist_mem hi r 0 s).1 hs
    exact ⟨by simpa using e1, by rw [List.pairwise_reverse]; exact e2, fun d hd => (e3 d (List.mem_reverse.1 hd)).2⟩
theorem srt_lists (r hi : Nat) : (dlist r hi).map ic = impl_allGaps.srt ((alist hi r 0).map fun t => (ic t).reverse) := by
  refine impl_allGaps.srt_uniq ?_ ?_
  · have h := (lists_perm r hi).map ic
    rw [List.map_map] at h
    have e : (ic ∘ List.reverse) = fun t => (ic t).reverse := funext (fun t => ic_reverse t)
    rw [e] at h
    exact h
  · rw [List.pairwise_map]
    exact (dlist_lx r hi).imp (fun h => Int.le_of_lt h)
theorem reversed_ev (l : List Int) (hl : l.length ≤ 1000000) : Ev (fun k => impl_reversed.f k l) l.reverse := evc (clone_ev l hl) (evb (reverse_ev l (by omega)) (Ev.now _))
theorem on_ev (n hi : Nat) (hn : n ≤ 4) (hh : hi ≤ 15) (r : Nat) : ∀ (pre : List Nat) (lo : Nat) (L : List (List Int)), pre.length + r = n → lo ≤ hi → L.length + 16 ^ r ≤ 1000000 →
    Ev (fun k => impl_allGaps.on (n : Int) (hi : Int) k false (ic pre) (lo : Int) L) (L ++ (alist hi r lo).map fun t => (ic (pre ++ t)).reverse) := by
  induction r with
  | zero =>
    intro pre lo L h _ hL
    refine evs (fun k => by rw [impl_allGaps.on]) ?_
    refine evp (by rw [ic_length]; omega) (evb (reversed_ev (ic pre) (by rw [ic_length]; omega)) (evp (by omega) (evr ?_)))
    simp [alist]
  | succ r ih =>
    have inner : ∀ (pre : List Nat), pre.length + (r + 1) = n → ∀ (j d : Nat) (L : List (List Int)), d + j = hi + 1 → L.length + j * 16 ^ r ≤ 1000000 →
        Ev (fun k => impl_allGaps.on (n : Int) (hi : Int) k true (ic pre) (d : Int) L) (L ++ (List.range' d j).flatMap fun y => (alist hi r y).map fun t => (ic (pre ++ y :: t)).reverse) := by
      intro pre hp j
      induction j with
      | zero =>
        intro d L h _
        refine evs (fun k => by rw [impl_allGaps.on]) ?_
        exact evn (by omega) (evr (by simp))
      | succ j ihj =>
        intro d L h hL
        rw [Nat.add_mul, Nat.one_mul] at hL
        have h1 := ih (pre ++ [d]) d L (by simp; omega) (by omega) (by omega)
        have hlen := alist_len hh r d
        have e1 : ic (pre ++ [d]) = ic pre ++ [(d : Int)] := by simp [ic]
        have e2 : (L ++ (alist hi r d).map fun t => (ic ((pre ++ [d]) ++ t)).reverse) = L ++ (alist hi r d).map fun t => (ic (pre ++ d :: t)).reverse := by
          simp only [List.append_assoc, List.singleton_append]
        rw [e1, e2] at h1
        have h2 := ihj (d + 1) (L ++ (alist hi r d).map fun t => (ic (pre ++ d :: t)).reverse) (by omega) (by rw [List.length_append, List.length_map]; omega)
        have e3 : (L ++ (List.range' d (j + 1)).flatMap fun y => (alist hi r y).map fun t => (ic (pre ++ y :: t)).reverse) = (L ++ (alist hi r d).map fun t => (ic (pre ++ d :: t)).reverse) ++ (List.range' (d + 1) j).flatMap fun y => (alist hi r y).map fun t => (ic (pre ++ y :: t)).reverse := by
          rw [List.range'_succ, List.flatMap_cons, List.append_assoc]
        refine evs (fun k => by rw [impl_allGaps.on]) ?_
        rw [e3, w64 (x := (d : Int) + 1) (by omega) (by omega)]
        exact evp (by omega) (evp (by rw [ic_length]; omega) (evb h1 h2))
    intro pre lo L h hlo hL
    rw [Nat.pow_succ] at hL
    have h3 := inner pre h (hi + 1 - lo) lo L (by omega) (by have := Nat.mul_le_mul_right (16 ^ r) (show hi + 1 - lo ≤ 16 by omega); omega)
    have e4 : (alist hi (r + 1) lo).map (fun t => (ic (pre ++ t)).reverse) = (List.range' lo (hi + 1 - lo)).flatMap fun y => (alist hi r y).map fun t => (ic (pre ++ y :: t)).reverse := by
      simp only [alist, List.map_flatMap, List.map_map]
      rfl
    rw [e4]
    refine evs (fun k => by rw [impl_allGaps.on]) ?_
    exact evn (by rw [ic_length]; omega) h3
theorem gpAll_ev (n : Nat) (hn : n ≤ 4) (r : Nat) : ∀ (pre : List Nat) (M : Nat), pre.length + r = n → M ≤ 15 → Ev (fun k => spec_gpAll.f k (ic pre) (n : Int) (M : Int)) ((dlist r M).map fun t => ic (pre ++ t)) := by
  induction r with
  | zero =>
    intro pre M h _
    refine evs (fun k => by rw [spec_gpAll.f]) ?_
    exact evp (by rw [ic_length]; omega) (evc (l1Own_ev _ (by rw [ic_length]; omega)) (evr (by simp [dlist])))
  | succ r ih =>
    intro pre M h hM
    have hr : 16 ^ r ≤ 65536 := Nat.le_trans (Nat.pow_le_pow_right (by omega) (show r ≤ 4 by omega)) (by decide)
    have inner : ∀ (j d : Nat) (L : List (List Int)), d + j = M + 1 → L.length ≤ d * 65536 →
        Ev (fun k => spec_gpAll.l0 k (ic pre) (n : Int) (M : Int) L (d : Int)) (L ++ (List.range' d j).flatMap fun y => (dlist r y).map fun t => ic (pre ++ y :: t)) := by
      intro j
      induction j with
      | zero =>
        intro d L h _
        refine evs (fun k => by rw [spec_gpAll.l0]) ?_
        exact evn (by omega) (evr (by simp))
      | succ j ihj =>
        intro d L h5 hL
        have h1 := ih (pre ++ [d]) d (by simp; omega) (by omega)
        have hlen := dlist_len r d (by omega)
        have e1 : ic (pre ++ [d]) = ic pre ++ [(d : Int)] := by simp [ic]
        have e2 : ((dlist r d).map fun t => ic ((pre ++ [d]) ++ t)) = (dlist r d).map fun t => ic (pre ++ d :: t) := by
          simp only [List.append_assoc, List.singleton_append]
        rw [e1, e2] at h1
        have h2 := ihj (d + 1) (L ++ (dlist r d).map fun t => ic (pre ++ d :: t)) (by omega) (by rw [List.length_append, List.length_map]; omega)
        have e3 : (L ++ (List.range' d (j + 1)).flatMap fun y => (dlist r y).map fun t => ic (pre ++ y :: t)) = (L ++ (dlist r d).map fun t => ic (pre ++ d :: t)) ++ (List.range' (d + 1) j).flatMap fun y => (dlist r y).map fun t => ic (pre ++ y :: t) := by
          rw [List.range'_succ, List.flatMap_cons, List.append_assoc]
        refine evs (fun k => by rw [spec_gpAll.l0]) ?_
        rw [e3, w64 (x := (d : Int) + 1) (by omega) (by omega)]
        exact evp (by omega) (evc (l1Own_ev _ (by rw [ic_length]; omega)) (evp (by rw [ic_length]; omega) (evb h1 (evp (by rw [List.length_map]; omega) h2))))
    have h3 := inner (M + 1) 0 [] (by omega) (by simp)
    have e4 : (dlist (r + 1) M).map (fun t => ic (pre ++ t)) = (List.range' 0 (M + 1)).flatMap fun y => (dlist r y).map fun t => ic (pre ++ y :: t) := by
      simp only [dlist, List.map_flatMap, List.map_map]
      rfl
    rw [e4]
    refine evs (fun k => by rw [spec_gpAll.f]) ?_
    exact evn (by rw [ic_length]; omega) h3
theorem cmp_eq (x y : Int) : cmp_Compare_int.f x y = some (if x < y then -1 else if x > y then 1 else 0) := by
  unfold cmp_Compare_int.f cmp_isNaN_int.f
  simp only [bne_self_eq_false, Option.bind_some]
  by_cases h1 : x < y
  · rw [if_neg (by simp), if_neg (by simp), if_pos (by omega), if_pos h1]
  · by_cases h2 : x > y
    · rw [if_neg (by simp), if_neg (by simp), if_neg (by omega), if_pos (by omega), if_neg h1, if_pos h2]
    · rw [if_neg (by simp), if_neg (by simp), if_neg (by omega), if_neg (by omega), if_neg h1, if_neg h2]
theorem compare_cm (p : List Int) : ∀ (pre q : List Int), (pre ++ p).length ≤ 1000000 → (pre ++ q).length ≤ 1000000 → Ev (fun k => slices_Compare_int_int.l0 k (pre ++ p) (pre ++ q) (pre ++ p) ((pre ++ p).length : Int) (pre.length : Int)) (impl_allGaps.cm p q) := by
  induction p with
  | nil =>
    intro pre q h1 h2
    refine evs (fun k => by rw [slices_Compare_int_int.l0]) ?_
    refine evn (by simp) ?_
    cases q with
    | nil => exact evn (by simp) (Ev.now _)
    | cons y q => exact evp (by simp; omega) (Ev.now _)
  | cons x p ih =>
    intro pre q h1 h2
    have hl : (pre ++ x :: p).length = pre.length + (p.length + 1) := by simp
    refine evs (fun k => by rw [slices_Compare_int_int.l0]) ?_
    refine evp (by omega) (evp (by omega) (evp (by omega) ?_))
    cases q with
    | nil => exact evp (by simp) (Ev.now _)
    | cons y q =>
      have hl2 : (pre ++ y :: q).length = pre.length + (q.length + 1) := by simp
      refine evn (by omega) (evp (by omega) ?_)
      rw [rd_mid, rd_mid, cmp_eq]
      simp only [impl_allGaps.cm, Option.bind_some]
      by_cases g1 : x < y
      · rw [if_pos g1, if_pos g1]
        exact evn (by omega) (Ev.now _)
      · by_cases g2 : y < x
        · rw [if_neg g1, if_neg g1, if_pos g2, if_pos (show x > y from g2)]
          exact evn (by omega) (Ev.now _)
        · rw [if_neg g1, if_neg g1, if_neg g2, if_neg (show ¬ x > y from g2)]
          obtain rfl : x = y := by omega
          have h3 := ih (pre ++ [x]) q (by simpa using h1) (by simpa using h2)
          have e : (((pre ++ [x]).length : Nat) : Int) = (pre.length : Int) + 1 := by simp
          rw [e, List.append_assoc, List.append_assoc, List.singleton_append, List.singleton_append] at h3
          rw [w64 (x := (pre.length : Int) + 1) (by omega) (by omega)]
          exact evp rfl h3
theorem compare_ev (p q : List Int) (h1 : p.length ≤ 1000000) (h2 : q.length ≤ 1000000) : Ev (fun k => slices_Compare_int_int.f k p q) (impl_allGaps.cm p q) := compare_cm p [] q (by simpa using h1) (by simpa using h2)
theorem ev_all {α β : Type} (L : List α) (g : α → Nat → Option β) (r : α → β) (h : ∀ x ∈ L, Ev (g x) (r x)) : ∃ K, ∀ k, K ≤ k → ∀ x ∈ L, g x k = some (r x) := by
  induction L with
  | nil => exact ⟨0, fun k _ x hx => by simp at hx⟩
  | cons y L ih =>
    obtain ⟨K1, h1⟩ := h y (by simp)
    obtain ⟨K2, h2⟩ := ih (fun x hx => h x (by simp [hx]))
    refine ⟨K1 + K2, fun k hk x hx => ?_⟩
    rcases List.mem_cons.1 hx with rfl | hx
    · exact h1 k (by omega)
    · exact h2 k (by omega) x hx
theorem done_ev (L : List (List Int)) (h0 : L ≠ []) (hl : L.length ≤ 1000000) (h : ∀ o ∈ L, o.length ≤ 1000000) (r : List (List Int)) : Ev (fun k => if impl_allGaps.done k L = true then some r else none) r := by
  have h1 := ev_all L (fun x k => if ∀ y ∈ L, slices_Compare_int_int.f k x y = some (impl_allGaps.cm x y) then some () else none) (fun _ => ()) (fun x hx => by
    obtain ⟨K, hK⟩ := ev_all L (fun y k => slices_Compare_int_int.f k x y) (fun y => impl_allGaps.cm x y) (fun y hy => compare_ev x y (h x hx) (h y hy))
    exact ⟨K, fun k hk => if_pos (hK k hk)⟩)
  obtain ⟨K, hK⟩ := h1
  refine ⟨K, fun k hk => if_pos ((impl_allGaps.done_iff k L).2 ⟨h0, by omega, fun x hx y hy => ?_⟩)⟩
  have h2 := hK k hk x hx
  by_cases g : ∀ y ∈ L, slices_Compare_int_int.f k x y = some (impl_allGaps.cm x y)
  · exact g y hy
  · rw [if_neg g] at h2
    simp at h2
theorem all_yes (W B : Nat) (h1 : 1 ≤ W) (h2 : W ≤ 8) (h3 : 2 ≤ B) (h4 : B ≤ 16) : Ev (fun k => impl_AllGaps.f k (W : Int) (B : Int)) ((dlist (W / 2) (B - 1)).map ic, true) ∧ Ev (fun k => spec_AllGaps.f k (W : Int) (B : Int)) ((dlist (W / 2) (B - 1)).map ic, true) := by
  have eW : wrap64 (Int.tdiv (W : Int) 2) = ((W / 2 : Nat) : Int) := by
    rw [Int.tdiv_eq_ediv_of_nonneg (by omega), w64 (by omega) (by omega)]
    omega
  have eB : wrap64 ((B : Int) - 1) = ((B - 1 : Nat) : Int) := by
    rw [w64 (by omega) (by omega)]
    omega
  have hp : 16 ^ (W / 2) ≤ 65536 := Nat.le_trans (Nat.pow_le_pow_right (by omega) (show W / 2 ≤ 4 by omega)) (by decide)
  constructor
  · unfold impl_AllGaps.f
    refine evc (impl_isBase_eq _) ?_
    rw [decide_eq_true (show 2 ≤ (B : Int) ∧ (B : Int) ≤ 16 by omega)]
    refine evp rfl (evc (show impl_isWidth.f (W : Int) = some (decide (1 ≤ (W : Int) ∧ (W : Int) ≤ 8)) by simp [impl_isWidth.f, impl_in_eq]) ?_)
    rw [decide_eq_true (show 1 ≤ (W : Int) ∧ (W : Int) ≤ 8 by omega)]
    refine evp rfl (evb ?_ (Ev.now _))
    unfold impl_allGaps.f
    rw [eW, eB]
    have h := on_ev (W / 2) (B - 1) (by omega) (by omega) (W / 2) [] 0 [] (by simp) (by omega) (by simp; omega)
    have hl := alist_len (hi := B - 1) (by omega) (W / 2) 0
    have hr := srt_lists (W / 2) (B - 1)
    have hne : (alist (B - 1) (W / 2) 0).map (fun t => (ic ([] ++ t)).reverse) ≠ [] := by
      intro e
      have h5 := (alist_mem (B - 1) (W / 2) 0 (List.replicate (W / 2) 0)).2 ⟨by simp, by rw [List.pairwise_replicate]; right; exact Nat.le_refl _, fun d hd => by rw [(List.mem_replicate.1 hd).2]; omega⟩
      have h6 := List.map_eq_nil_iff.1 e
      rw [h6] at h5
      simp at h5
    rw [show (dlist (W / 2) (B - 1)).map ic = impl_allGaps.srt ((alist (B - 1) (W / 2) 0).map fun t => (ic ([] ++ t)).reverse) from hr]
    refine evb h ?_
    rw [List.nil_append]
    refine done_ev _ hne (by rw [List.length_map]; omega) (fun o ho => ?_) _
    obtain ⟨t, ht, rfl⟩ := List.mem_map.1 ho
    have := ((alist_mem _ _ _ t).1 ht).1
    simp only [List.nil_append, List.length_reverse, ic_length]
    omega
  · unfold spec_AllGaps.f
    have hask : spec_gpAsked.f (W : Int) (B : Int) = some true := by
      unfold spec_gpAsked.f
      rw [spec_dgBase_eq, decide_eq_true (show 2 ≤ (B : Int) ∧ (B : Int) ≤ 16 by omega)]
      simp only [Option.bind_some, if_true]
      rw [spec_l1In_eq, decide_eq_true (show 1 ≤ (W : Int) ∧ (W : Int) ≤ 8 by omega)]
      rfl
    rw [eW, eB]
    have h := gpAll_ev (W / 2) (by omega) (W / 2) [] (B - 1) (by simp) (by omega)
    simp only [List.nil_append] at h
    exact evc hask (evp rfl (evb h (Ev.now _)))
theorem all_no (w b : Int) (h : ¬ ((2 ≤ b ∧ b ≤ 16) ∧ 1 ≤ w ∧ w ≤ 8)) : Ev (fun k => impl_AllGaps.f k w b) (([] : List (List Int)), false) ∧ Ev (fun k => spec_AllGaps.f k w b) (([] : List (List Int)), false) := by
  unfold impl_AllGaps.f spec_AllGaps.f spec_gpAsked.f
  by_cases h1 : 2 ≤ b ∧ b ≤ 16
  · have h2 : ¬ (1 ≤ w ∧ w ≤ 8) := fun h2 => h ⟨h1, h2⟩
    rw [impl_isBase_eq, spec_dgBase_eq, decide_eq_true h1]
    simp only [Option.bind_some, if_true]
    rw [spec_l1In_eq, decide_eq_false h2]
    refine ⟨evc (show impl_isWidth.f w = some false by simp only [impl_isWidth.f, impl_in_eq, Option.bind_some]; rw [decide_eq_false h2]) (evn (by simp) (Ev.now _)), evc rfl (evn (by simp) (Ev.now _))⟩
  · rw [impl_isBase_eq, spec_dgBase_eq, decide_eq_false h1]
    exact ⟨evc rfl (evn (by simp) (Ev.now _)), evc rfl (evn (by simp) (Ev.now _))⟩
theorem cm_same (x : Int) (p q : List Int) : impl_allGaps.cm (x :: p) (x :: q) = impl_allGaps.cm p q := by
  simp only [impl_allGaps.cm]
  rw [if_neg (by omega), if_neg (by omega)]
theorem cm_less {x y : Int} (h : x < y) (p q : List Int) : impl_allGaps.cm (x :: p) (y :: q) = -1 := by
  simp only [impl_allGaps.cm]
  rw [if_pos h]
theorem cm_more {x y : Int} (h : y < x) (p q : List Int) : impl_allGaps.cm (x :: p) (y :: q) = 1 := by
  simp only [impl_allGaps.cm]
  rw [if_neg (by omega), if_pos h]
theorem qLess_loop (p : List Int) : ∀ (pre q : List Int), q.length = p.length → (pre ++ p).length ≤ 1000000 → Ev (fun k => laws_qLess.l0 k (pre ++ p) (pre ++ q) ((pre ++ p).length : Int) (pre.length : Int)) (decide (impl_allGaps.cm p q < 0)) := by
  induction p with
  | nil =>
    intro pre q h _
    obtain rfl : q = [] := List.eq_nil_of_length_eq_zero h
    refine evs (fun k => by rw [laws_qLess.l0]) ?_
    exact evn (by simp) (evr (by decide))
  | cons x p ih =>
    intro pre q h hl
    cases q with
    | nil => simp at h
    | cons y q =>
      have e1 : (pre ++ x :: p).length = pre.length + (p.length + 1) := by simp
      have e2 : (pre ++ y :: q).length = pre.length + (q.length + 1) := by simp
      simp only [List.length_cons] at h
      refine evs (fun k => by rw [laws_qLess.l0]) ?_
      rw [rd_mid, rd_mid]
      refine evp (by omega) (evp (by omega) (evp (by omega) (evp (by omega) ?_)))
      by_cases hxy : x = y
      · subst hxy
        have h3 := ih (pre ++ [x]) q (by omega) (by simpa using hl)
        rw [show (((pre ++ [x]).length : Nat) : Int) = (pre.length : Int) + 1 by simp, List.append_assoc, List.append_assoc, List.singleton_append, List.singleton_append] at h3
        rw [w64 (x := (pre.length : Int) + 1) (by omega) (by omega), cm_same]
        exact evp rfl h3
      · refine evn hxy (evr ?_)
        by_cases hlt : x < y
        · rw [cm_less hlt, decide_eq_true hlt]; rfl
        · rw [cm_more (by omega), decide_eq_false hlt]; rfl
theorem qLess_ev (p q : List Int) (h : q.length = p.length) (hl : p.length ≤ 1000000) : Ev (fun k => laws_qLess.f k p q) (decide (impl_allGaps.cm p q < 0)) := by
  unfold laws_qLess.f
  simpa using qLess_loop p [] q h (by simpa using hl)
theorem rdL2_mid (pre post : List (List Int)) (o : List Int) : rd_L2 (pre ++ o :: post) (pre.length : Int) = o := by simp [rd_L2]
theorem rows_walk (n : Nat) (hn : n ≤ 1000) (X : List (List Int)) (hX : X.length ≤ 1000000) (post : List (List Int)) : ∀ (pre : List (List Int)) (x : List Int), X = pre ++ x :: post → (x :: post).Pairwise (fun a b => impl_allGaps.cm a b < 0) → (∀ o ∈ x :: post, o.length = n) → Ev (fun k => laws_FnStepsByGaps.l1 k X ((pre.length : Int) + 1)) true := by
  induction post with
  | nil =>
    intro pre x hw _ _
    have hl : X.length = pre.length + 1 := by rw [hw]; simp
    refine evs (fun k => by rw [laws_FnStepsByGaps.l1]) ?_
    exact evn (by omega) (Ev.now _)
  | cons y post ih =>
    intro pre x hw hp hl
    obtain ⟨p1, p2⟩ := List.pairwise_cons.1 hp
    have hlen : X.length = pre.length + (post.length + 1 + 1) := by rw [hw]; simp
    have hx : rd_L2 X (pre.length : Int) = x := by rw [hw, rdL2_mid]
    have hy : rd_L2 X ((pre.length : Int) + 1) = y := by
      rw [hw, show pre ++ x :: y :: post = (pre ++ [x]) ++ y :: post by simp, show (pre.length : Int) + 1 = (((pre ++ [x]).length : Nat) : Int) by simp, rdL2_mid]
    have h1 := ih (pre ++ [x]) y (by rw [hw]; simp) p2 (fun o ho => hl o (by simp [List.mem_cons.1 ho]))
    rw [show (((pre ++ [x]).length : Nat) : Int) = (pre.length : Int) + 1 by simp] at h1
    have l1 := hl x (by simp)
    have l2 := hl y (by simp)
    have h2 := qLess_ev x y (by omega) (by omega)
    rw [decide_eq_true (p1 y (by simp))] at h2
    have ew : wrap64 ((pre.length : Int) + 1 - 1) = (pre.length : Int) := by rw [w64 (by omega) (by omega)]; omega
    refine evs (fun k => by rw [laws_FnStepsByGaps.l1]) ?_
    rw [ew, hx, hy, w64 (x := (pre.length : Int) + 1 + 1) (by omega) (by omega)]
    exact evp (by omega) (evp (by omega) (evp (by omega) (evp (by omega) (evb h2 (evp rfl h1)))))
theorem rows_up (n : Nat) (hn : n ≤ 1000) (X : List (List Int)) (hX : X.length ≤ 1000000) (hp : X.Pairwise (fun a b => impl_allGaps.cm a b < 0)) (hl : ∀ o ∈ X, o.length = n) : Ev (fun k => laws_FnStepsByGaps.l1 k X 1) true := by
  cases X with
  | nil =>
    refine evs (fun k => by rw [laws_FnStepsByGaps.l1]) ?_
    exact evn (by simp) (Ev.now _)
  | cons x X =>
    have := rows_walk n hn (x :: X) hX X [] x rfl hp hl
    simpa using this
theorem rows_self (X : List (List Int)) (hr : ∀ x ∈ X, x.length ≤ 1000000) (hX : X.length ≤ 1000000) (post : List (List Int)) : ∀ pre : List (List Int), X = pre ++ post → Ev (fun k => laws_qSameRows.l0 k X X (X.length : Int) (pre.length : Int)) true := by
  induction post with
  | nil =>
    intro pre hw
    refine evs (fun k => by rw [laws_qSameRows.l0]) ?_
    exact evn (by simp [hw]) (Ev.now _)
  | cons x post ih =>
    intro pre hw
    have hl : X.length = pre.length + (post.length + 1) := by rw [hw]; simp
    have hx : rd_L2 X (pre.length : Int) = x := by rw [hw, rdL2_mid]
    have h2 := ih (pre ++ [x]) (by rw [hw]; simp)
    have e2 : (((pre ++ [x]).length : Nat) : Int) = (pre.length : Int) + 1 := by simp
    rw [e2] at h2
    have hxl := hr x (by rw [hw]; simp)
    refine evs (fun k => by rw [laws_qSameRows.l0]) ?_
    rw [hx, w64 (x := (pre.length : Int) + 1) (by omega) (by omega)]
    exact evp (by omega) (evp (by omega) (evp (by omega) (evp (by omega) (evb (laws_qSame_self _ (by omega)) (evp rfl h2)))))
theorem rows_ev (X : List (List Int)) (hr : ∀ x ∈ X, x.length ≤ 1000000) (hX : X.length ≤ 1000000) : Ev (fun k => laws_qSameRows.f k X X) true := by
  unfold laws_qSameRows.f
  exact evp rfl (rows_self X hr hX X [] rfl)
theorem all_both (w b : Int) : ∃ r : List (List Int) × Bool, Ev (fun k => impl_AllGaps.f k w b) r ∧ Ev (fun k => spec_AllGaps.f k w b) r ∧ Ev (fun k => laws_qSameRows.f k r.1 r.1) true ∧ Ev (fun k => laws_FnStepsByGaps.l1 k r.1 1) true := by
  by_cases h : (2 ≤ b ∧ b ≤ 16) ∧ 1 ≤ w ∧ w ≤ 8
  · obtain ⟨B, rfl⟩ := natOf (show 0 ≤ b by omega)
    obtain ⟨W, rfl⟩ := natOf (show 0 ≤ w by omega)
    obtain ⟨h1, h2⟩ := all_yes W B (by omega) (by omega) (by omega) (by omega)
    have hl : ((dlist (W / 2) (B - 1)).map ic).length ≤ 65536 := by
      rw [List.length_map]
      exact Nat.le_trans (dlist_len _ _ (by omega)) (Nat.le_trans (Nat.pow_le_pow_right (by omega) (show W / 2 ≤ 4 by omega)) (by decide))
    have ho : ∀ o ∈ (dlist (W / 2) (B - 1)).map ic, o.length = W / 2 := fun o ho => by
      obtain ⟨t, ht, rfl⟩ := List.mem_map.1 ho
      rw [ic_length]
      exact ((dlist_mem _ _ t).1 ht).1
    refine ⟨_, h1, h2, rows_ev _ (fun x hx => by have := ho x hx; omega) (Nat.le_trans hl (by decide)), rows_up (W / 2) (by omega) _ (Nat.le_trans hl (by decide)) ?_ ho⟩
    rw [List.pairwise_map]
    exact dlist_lx _ _
  · obtain ⟨h1, h2⟩ := all_no w b h
    exact ⟨_, h1, h2, rows_ev _ (by simp) (by simp), rows_up 0 (by omega) _ (by simp) (by simp) (by simp)⟩

theorem laws_qBack_loop (n : Nat) : ∀ (pre post out : List Int), pre.length = n → (pre ++ post).length ≤ 1000000000000 → out.length + pre.length ≤ 1000000000000 → Ev (fun k => laws_qBack.l0 k (pre ++ post) out ((pre.length : Int) - 1)) (out ++ pre.reverse) := by
  induction n with
  | zero =>
    intro pre post out hn _ _
    obtain rfl : pre = [] := List.eq_nil_of_length_eq_zero hn
    refine evs (fun k => by rw [laws_qBack.l0]) ?_
    exact evn (by simp) (evr (by simp))
  | succ n ih =>
    intro pre post out hn hl ho
    have h0 : pre ≠ [] := fun h => by subst h; simp at hn
    obtain ⟨p, x, rfl⟩ : ∃ p x, pre = p ++ [x] := ⟨pre.dropLast, pre.getLast h0, (List.dropLast_concat_getLast h0).symm⟩
    have hp : p.length = n := by simpa using hn
    have e0 : (p ++ [x]) ++ post = p ++ x :: post := by simp
    have e1 : (((p ++ [x]).length : Nat) : Int) - 1 = (p.length : Int) := by simp
    have hl2 : (p ++ x :: post).length = p.length + (post.length + 1) := by simp
    rw [e0] at hl
    rw [hl2] at hl
    have h := ih p (x :: post) (out ++ [x]) hp (by rw [hl2]; exact hl) (by simp at ho ⊢; omega)
    refine evs (fun k => by rw [laws_qBack.l0]) ?_
    rw [e1, e0, rd_mid, hl2, w64 (x := (p.length : Int) - 1) (by omega) (by omega)]
    refine evp (by omega) (evp (by omega) (evp (by omega) (evp (by simp at ho; omega) ?_)))
    have e2 : out ++ (p ++ [x]).reverse = (out ++ [x]) ++ p.reverse := by simp
    rw [e2]
    exact h
theorem laws_qBack_ev (l : List Int) (h : l.length ≤ 1000000000000) : Ev (fun k => laws_qBack.f k l) l.reverse := by
  unfold laws_qBack.f
  rw [w64 (by omega) (by omega)]
  have := laws_qBack_loop l.length l [] [] rfl (by simpa using h) (by simpa using h)
  simpa using this

theorem low_byte (x : Int) : 0 ≤ Go.bits .and .u64 ((IntKind.u64.wrap x) / 1099511627776) 255 ∧ Go.bits .and .u64 ((IntKind.u64.wrap x) / 1099511627776) 255 ≤ 255 := by
  have h0 : 0 ≤ IntKind.u64.wrap x ∧ IntKind.u64.wrap x < 18446744073709551616 := by rw [IntKind.wrap_u64]; omega
  obtain ⟨y, hy⟩ := Int.eq_ofNat_of_zero_le (show 0 ≤ IntKind.u64.wrap x / 1099511627776 by omega)
  rw [hy]
  have h1 := bits_and_u64_nat y 255 (by omega) (by omega)
  have e : y &&& 255 = y % 256 := Nat.and_two_pow_sub_one_eq_mod y 8
  rw [e] at h1
  rw [show ((255 : Int)) = ((255 : Nat) : Int) from rfl, h1]
  omega
theorem next_ok (l : List Int) (hl : ∀ x ∈ l, 0 ≤ x ∧ x ≤ 255) (p s : Int) (h0 : 0 ≤ p) (h1 : p ≤ 1000000000000) :
    ∃ v s' : Int, spec_l1Cur_next.f l p s = some (v, p + 1, s') ∧ 0 ≤ v ∧ v ≤ 255 := by
  unfold spec_l1Cur_next.f
  rw [w64 (x := p + 1) (by omega) (by omega)]
  by_cases hp : p < (l.length : Int)
  · have hm := hl _ (rd_mem l p h0 hp)
    rw [if_pos hp, if_pos h0]
    by_cases hq : p + 1 ≤ (l.length : Int)
    · rw [if_pos hq]
      refine ⟨_, _, rfl, ?_⟩
      rw [w64 (by omega) (by omega)]
      exact hm
    · omega
  · rw [if_neg hp]
    by_cases hq : p + 1 ≤ (l.length : Int)
    · omega
    · rw [if_neg hq]
      refine ⟨_, _, rfl, ?_⟩
      have h := low_byte (IntKind.u64.wrap (IntKind.u64.wrap (s * 6364136223846793005)) + 1442695040888963407)
      rw [w64 (by omega) (by omega)]
      exact h
theorem pick_ok (l : List Int) (hl : ∀ x ∈ l, 0 ≤ x ∧ x ≤ 255) (p s n : Int) (h0 : 0 ≤ p) (h1 : p ≤ 999999999990) (hn : n ≤ 1000000) :
    ∃ v p' s' : Int, spec_l1Cur_pick.f l p s n = some (v, p', s') ∧ 0 ≤ v ∧ v ≤ 1000000 ∧ (v = 0 ∨ v < n) ∧ p ≤ p' ∧ p' ≤ p + 2 := by
  unfold spec_l1Cur_pick.f
  by_cases h : n ≤ 1
  · rw [if_pos h]
    exact ⟨0, p, s, rfl, by omega, by omega, by omega, by omega, by omega⟩
  · rw [if_neg h]
    obtain ⟨v, s1, e1, h2, h3⟩ := next_ok l hl p s h0 (by omega)
    rw [e1]
    simp only [Option.bind_some]
    by_cases h4 : n > 200
    · rw [if_pos h4]
      obtain ⟨v2, s2, e2, h5, h6⟩ := next_ok l hl (p + 1) s1 (by omega) (by omega)
      rw [e2]
      simp only [Option.bind_some]
      rw [if_neg (by omega), w64 (x := v * 256) (by omega) (by omega), w64 (by omega) (by omega)]
      have h7 := Int.tmod_nonneg n (show 0 ≤ v * 256 + v2 by omega)
      have h8 := Int.tmod_lt_of_pos (v * 256 + v2) (show 0 < n by omega)
      exact ⟨_, _, _, rfl, h7, by omega, Or.inr h8, by omega, by omega⟩
    · rw [if_neg h4, if_neg (by omega)]
      have h7 := Int.tmod_nonneg n (show 0 ≤ v by omega)
      have h8 := Int.tmod_lt_of_pos v (show 0 < n by omega)
      exact ⟨_, _, _, rfl, h7, by omega, Or.inr h8, by omega, by omega⟩
theorem among_ok (l : List Int) (hl : ∀ x ∈ l, 0 ≤ x ∧ x ≤ 255) (p s : Int) (m : List Int) (hm : m ≠ []) (hm2 : m.length ≤ 1000000) (h0 : 0 ≤ p) (h1 : p ≤ 999999999990) :
    ∃ v p' s' : Int, spec_l1Cur_among.f l p s m = some (v, p', s') ∧ v ∈ m ∧ p ≤ p' ∧ p' ≤ p + 2 := by
  unfold spec_l1Cur_among.f
  have hpos := List.length_pos_iff.2 hm
  obtain ⟨v, p', s', e1, h2, h3, h4, h5, h6⟩ := pick_ok l hl p s m.length h0 h1 (by omega)
  rw [e1]
  simp only [Option.bind_some]
  rw [if_pos h2, if_pos (by omega)]
  exact ⟨_, _, _, rfl, rd_mem m v h2 (by omega), h5, h6⟩

theorem base_lt (l : List Int) (hl : ∀ x ∈ l, 0 ≤ x ∧ x ≤ 255) (p s : Int) (h0 : 0 ≤ p) (h1 : p ≤ 999999999990) : ∃ v p' s' : Int, spec_l1Cur_base.f l p s = some (v, p', s') ∧ 0 ≤ v ∧ v ≤ 17 ∧ p ≤ p' ∧ p' ≤ p + 2 := by
  unfold spec_l1Cur_base.f
  obtain ⟨v, p', s', e, hv, h2, h3⟩ := among_ok l hl p s [10, 10, 10, 2, 3, 5, 7, 16, 12, 10, 10, 16, 1, 17, 0] (by simp) (by simp) h0 h1
  rw [e]
  have hv2 : 0 ≤ v ∧ v ≤ 17 := by
    simp only [List.mem_cons, List.not_mem_nil, or_false] at hv
    omega
  exact ⟨_, _, _, rfl, hv2.1, hv2.2, h2, h3⟩
theorem chance_ok (l : List Int) (hl : ∀ x ∈ l, 0 ≤ x ∧ x ≤ 255) (p s n : Int) (h0 : 0 ≤ p) (h1 : p ≤ 999999999990) (hn : n ≤ 1000000) : ∃ (v : Bool) (p' s' : Int), spec_l1Cur_one.f l p s n = some (v, p', s') ∧ p ≤ p' ∧ p' ≤ p + 2 := by
  unfold spec_l1Cur_one.f
  obtain ⟨v, p', s', e1, h2, h3, h4, h5, h6⟩ := pick_ok l hl p s n h0 h1 hn
  rw [e1]
  exact ⟨_, _, _, rfl, h5, h6⟩
theorem width_ok (l : List Int) (hl : ∀ x ∈ l, 0 ≤ x ∧ x ≤ 255) (p s : Int) (h0 : 0 ≤ p) (h1 : p ≤ 999999999) : ∃ v b p' s' : Int, spec_l1Cur_width.f l p s = some (v, b, p', s') ∧ p ≤ p' ∧ p' ≤ p + 10 := by
  unfold spec_l1Cur_width.f
  obtain ⟨v, p1, s1, e1, h2, h3⟩ := chance_ok l hl p s 10 h0 (by omega) (by omega)
  rw [e1]
  simp only [Option.bind_some]
  cases v with
  | true =>
    rw [if_pos rfl]
    obtain ⟨w, p2, s2, e2, _, h4, h5⟩ := among_ok l hl p1 s1 [0, 8, 9] (by simp) (by simp) (by omega) (by omega)
    rw [e2]
    simp only [Option.bind_some]
    obtain ⟨b, p3, s3, e3, _, h6, h7⟩ := among_ok l hl p2 s2 [2, 3] (by simp) (by simp) (by omega) (by omega)
    rw [e3]
    exact ⟨_, _, _, _, rfl, by simp only; omega, by simp only; omega⟩
  | false =>
    rw [if_neg (by simp)]
    obtain ⟨b, p2, s2, e2, _, _, h4, h5⟩ := base_lt l hl p1 s1 (by omega) (by omega)
    rw [e2]
    simp only [Option.bind_some]
    by_cases hb : b > 10
    · rw [if_pos hb]
      obtain ⟨w, p3, s3, e3, _, _, _, h6, h7⟩ := pick_ok l hl p2 s2 3 (by omega) (by omega) (by omega)
      rw [e3]
      exact ⟨_, _, _, _, rfl, by simp only; omega, by simp only; omega⟩
    · rw [if_neg hb]
      obtain ⟨w, p3, s3, e3, _, _, _, h6, h7⟩ := pick_ok l hl p2 s2 4 (by omega) (by omega) (by omega)
      rw [e3]
      exact ⟨_, _, _, _, rfl, by simp only; omega, by simp only; omega⟩
theorem wordOf_draw (l : List Int) (hl : ∀ x ∈ l, 0 ≤ x ∧ x ≤ 255) : ∃ n w b : Int, spec_DrawWordOf.f l = some (n, w, b) := by
  unfold spec_DrawWordOf.f
  obtain ⟨w, b, p1, s1, e1, a1, b1⟩ := width_ok l hl 0 0 (by omega) (by omega)
  rw [e1]
  simp only [Option.bind_some]
  obtain ⟨x, p2, s2, e2, _, _, _, a2, b2⟩ := pick_ok l hl p1 s1 256 (by omega) (by omega) (by omega)
  rw [e2]
  simp only [Option.bind_some]
  obtain ⟨y, p3, s3, e3, _, _, _, a3, b3⟩ := pick_ok l hl p2 s2 64 (by omega) (by omega) (by omega)
  rw [e3]
  simp only [Option.bind_some]
  obtain ⟨v, p4, s4, e4, a4, b4⟩ := chance_ok l hl p3 s3 8 (by omega) (by omega) (by omega)
  rw [e4]
  simp only [Option.bind_some]
  cases v with
  | true =>
    rw [if_pos rfl]
    obtain ⟨n, p5, s5, e5, _, a5, b5⟩ := among_ok l hl p4 s4 [(-1), 0, 4294967296, 4294967297, 4611686018427387904] (by simp) (by simp) (by omega) (by omega)
    rw [e5]
    simp only [Option.bind_some]
    obtain ⟨z, p6, s6, e6, _⟩ := pick_ok l hl p5 s5 3 (by omega) (by omega) (by omega)
    rw [e6]
    exact ⟨_, _, _, rfl⟩
  | false =>
    rw [if_neg (by simp)]
    obtain ⟨z, p6, s6, e6, _⟩ := pick_ok l hl p4 s4 3 (by omega) (by omega) (by omega)
    rw [e6]
    exact ⟨_, _, _, rfl⟩
theorem allGaps_draw (l : List Int) (hl : ∀ x ∈ l, 0 ≤ x ∧ x ≤ 255) : ∃ w b : Int, spec_DrawAllGaps.f l = some (w, b) := by
  unfold spec_DrawAllGaps.f
  obtain ⟨w, b, p1, s1, e1, _⟩ := width_ok l hl 0 0 (by omega) (by omega)
  rw [e1]
  exact ⟨_, _, rfl⟩
theorem word_loop (l : List Int) (hl : ∀ x ∈ l, 0 ≤ x ∧ x ≤ 255) (b : Int) (hb : b ≤ 17) (d : Nat) : ∀ (out : List Int) (p s : Int), 1 ≤ out.length + d → out.length + d ≤ 6 → 0 ≤ p → p + 2 * (d : Int) ≤ 1000 →
    ∃ (wd : List Int) (p' s' : Int), Ev (fun k => spec_l1Cur_word.l0 k b out (d : Int) l p s) (wd, b, p', s') ∧ wd.length ≤ 9 ∧ 0 ≤ p' ∧ p' ≤ 1010 := by
  induction d with
  | zero =>
    intro out p s h1 h2 h3 h4
    obtain ⟨v, p1, s1, e1, _, _, _, a1, b1⟩ := pick_ok l hl p s 16 h3 (by omega) (by omega)
    by_cases hv : v = 0
    · obtain ⟨x, p2, s2, e2, _, a2, b2⟩ := among_ok l hl p1 s1 [(-1), b, 4611686018427387904] (by simp) (by simp) (by omega) (by omega)
      refine ⟨out.set (0 : Int).toNat x, p2, s2, ?_, by simp; omega, by omega, by omega⟩
      refine evs (fun k => by rw [spec_l1Cur_word.l0]) ?_
      exact evn (by omega) (evc e1 (evp hv (evc e2 (evp (by omega) (Ev.now _)))))
    · by_cases hv1 : v = 1
      · obtain ⟨x, p2, s2, e2, hx, a2, b2⟩ := among_ok l hl p1 s1 [0, 8, 9] (by simp) (by simp) (by omega) (by omega)
        have hx2 : 0 ≤ x ∧ x ≤ 9 := by
          simp only [List.mem_cons, List.not_mem_nil, or_false] at hx
          omega
        refine ⟨List.replicate x.toNat 0, p2, s2, ?_, by simp; omega, by omega, by omega⟩
        refine evs (fun k => by rw [spec_l1Cur_word.l0]) ?_
        exact evn (by omega) (evc e1 (evn hv (evp hv1 (evc e2 (evp hx2.1 (evp (by simp only; omega) (Ev.now _)))))))
      · refine ⟨out, p1, s1, ?_, by omega, by omega, by omega⟩
        refine evs (fun k => by rw [spec_l1Cur_word.l0]) ?_
        exact evn (by omega) (evc e1 (evn hv (evn hv1 (Ev.now _))))
  | succ d ih =>
    intro out p s h1 h2 h3 h4
    obtain ⟨t, ht, ht2⟩ : ∃ t, spec_l1Most.f 1 b = some t ∧ t ≤ 17 := by
      unfold spec_l1Most.f
      by_cases hb2 : 1 > b
      · exact ⟨1, by rw [if_pos hb2], by omega⟩
      · exact ⟨b, by rw [if_neg hb2], by omega⟩
    obtain ⟨v, p1, s1, e1, _, _, _, a1, b1⟩ := pick_ok l hl p s t h3 (by omega) (by omega)
    obtain ⟨wd, p2, s2, e2, h5, h6, h7⟩ := ih (out ++ [v]) p1 s1 (by simp; omega) (by simp; omega) (by omega) (by omega)
    refine ⟨wd, p2, s2, ?_, h5, h6, h7⟩
    refine evs (fun k => by rw [spec_l1Cur_word.l0]) ?_
    rw [w64 (x := ((d + 1 : Nat) : Int) - 1) (by omega) (by omega), show ((d + 1 : Nat) : Int) - 1 = (d : Int) by omega]
    exact evp (by omega) (evc ht (evc e1 (evp (by omega) e2)))
theorem word_ok (l : List Int) (hl : ∀ x ∈ l, 0 ≤ x ∧ x ≤ 255) : ∃ (wd : List Int) (b p' s' : Int), Ev (fun k => spec_l1Cur_word.f k l 0 0) (wd, b, p', s') ∧ wd.length ≤ 9 ∧ 0 ≤ p' ∧ p' ≤ 1010 := by
  unfold spec_l1Cur_word.f
  obtain ⟨b, p1, s1, e1, _, hb, a1, b1⟩ := base_lt l hl 0 0 (by omega) (by omega)
  obtain ⟨v, p2, s2, e2, h2, _, h3, a2, b2⟩ := pick_ok l hl p1 s1 6 (by omega) (by omega) (by omega)
  obtain ⟨d, hd⟩ := natOf (show 0 ≤ 1 + v by omega)
  obtain ⟨wd, p3, s3, e3, h5, h6, h7⟩ := word_loop l hl b hb d [] p2 s2 (by simp; omega) (by simp; omega) (by omega) (by omega)
  refine ⟨wd, b, p3, s3, ?_, h5, h6, h7⟩
  refine evc e1 (evc e2 ?_)
  simp only
  rw [w64 (x := 1 + v) (by omega) (by omega), hd]
  exact e3
theorem gaps_draw (l : List Int) (hl : ∀ x ∈ l, 0 ≤ x ∧ x ≤ 255) : ∃ (g : List Int) (w b : Int), Ev (fun k => spec_DrawStepByGaps.f k l) (g, w, b) ∧ g.length ≤ 1000 := by
  unfold spec_DrawStepByGaps.f
  obtain ⟨wd, b, p, s, e1, h1, h2, h3⟩ := word_ok l hl
  have hw := spec_gpWord_ev wd b (by omega)
  cases h : iw wd b with
  | false =>
    rw [h] at hw
    exact ⟨_, _, _, evb e1 (evb hw (evn (by simp) (Ev.now _))), by simp⟩
  | true =>
    rw [h] at hw
    obtain ⟨B, ds, rfl, rfl, g1, g2, g3, g4, g5⟩ := iw_of h
    have hg := spec_gpGaps_ev ds (lt16 g2 g5) g4
    have hgl : (ic (gp (so ds))).length ≤ 8 := by rw [ic_length, gp_length, so_length]; omega
    have hj : ∀ (v : Bool) (p1 s1 : Int), 0 ≤ p1 → p1 ≤ 2000 → (v = true → 0 < (ic (gp (so ds))).length) → ∃ (g : List Int) (w b : Int), Ev (fun k => spec_DrawStepByGaps.j0 k (ic ds) (B : Int) (ic (gp (so ds))) v l p1 s1) (g, w, b) ∧ g.length ≤ 1000 := by
      intro v p1 s1 q1 q2 q3
      cases v with
      | true =>
        have q4 := q3 rfl
        obtain ⟨x, p2, s2, e2, r1, r2, r3, a2, b2⟩ := pick_ok l hl p1 s1 ((ic (gp (so ds))).length : Int) q1 (by omega) (by omega)
        obtain ⟨y, p3, s3, e3, _, a3, b3⟩ := among_ok l hl p2 s2 [(-1), (B : Int), 0, wrap64 ((B : Int) - 1)] (by simp) (by simp) (by omega) (by omega)
        obtain ⟨z, p4, s4, e4, _⟩ := pick_ok l hl p3 s3 12 (by omega) (by omega) (by omega)
        refine ⟨(ic (gp (so ds))).set x.toNat y, wrap64 (((ic ds).length : Int) + wrap64 (Int.tdiv z 11)), (B : Int), ?_, by rw [List.length_set]; omega⟩
        refine evs (fun k => by rw [spec_DrawStepByGaps.j0]) ?_
        exact evp rfl (evc e2 (evc e3 (evp r1 (evp (by simp only; omega) (evc e4 (Ev.now _))))))
      | false =>
        obtain ⟨z, p4, s4, e4, _⟩ := pick_ok l hl p1 s1 12 (by omega) (by omega) (by omega)
        refine ⟨ic (gp (so ds)), wrap64 (((ic ds).length : Int) + wrap64 (Int.tdiv z 11)), (B : Int), ?_, by omega⟩
        refine evs (fun k => by rw [spec_DrawStepByGaps.j0]) ?_
        exact evn (by simp) (evc e4 (Ev.now _))
    by_cases hp : ((ic (gp (so ds))).length : Int) > 0
    · obtain ⟨v, p1, s1, e2, a2, b2⟩ := chance_ok l hl p s 8 (by omega) (by omega) (by omega)
      obtain ⟨g, w, b, e3, h4⟩ := hj v p1 s1 (by omega) (by omega) (fun _ => by omega)
      exact ⟨g, w, b, evb e1 (evb hw (evp rfl (evb hg (evp hp (evc e2 e3))))), h4⟩
    · obtain ⟨g, w, b, e3, h4⟩ := hj false p s (by omega) (by omega) (fun h => by simp at h)
      exact ⟨g, w, b, evb e1 (evb hw (evp rfl (evb hg (evn hp e3)))), h4⟩

theorem stp_rev (b : Nat) (ds : List Nat) : stp b ds.reverse = stp b ds := by
  unfold stp
  rw [List.length_reverse, so_rev]
theorem qValue_ev (b : Nat) (ds : List Nat) (hb : 2 ≤ b) (hb2 : b ≤ 16) (h1 : 1 ≤ ds.length) (h2 : ds.length ≤ 8) (hd : ∀ d ∈ ds, d < b) : Ev (fun k => laws_qValue.f k (ic ds) (b : Int)) ((val b 0 ds : Nat) : Int) := by
  unfold laws_qValue.f
  exact evb (value_both b ds hb hb2 h1 h2 hd).1 (Ev.now _)
theorem j5_ok (l0 : List Int) (hl0 : ∀ x ∈ l0, 0 ≤ x ∧ x ≤ 255) : Ev (fun k => laws_FnStepsByGaps.j5 k l0 false) true := by
  obtain ⟨w, b, e1⟩ := allGaps_draw l0 hl0
  obtain ⟨r, a1, a2, a3, a4⟩ := all_both w b
  refine evs (fun k => by rw [laws_FnStepsByGaps.j5]) ?_
  refine evn (by simp) (evc e1 (evb a1 (evb a2 (evn (by simp) (evb a3 ?_)))))
  refine evs (fun k => by rw [laws_FnStepsByGaps.j6]) ?_
  exact evn (by simp) a4
theorem j3_ok (l0 l1 : List Int) (hl0 : ∀ x ∈ l0, 0 ≤ x ∧ x ≤ 255) (hl1 : ∀ x ∈ l1, 0 ≤ x ∧ x ≤ 255) : Ev (fun k => laws_FnStepsByGaps.j3 k l0 l1) true := by
  obtain ⟨g, w, b, e1, hg⟩ := gaps_draw l1 hl1
  obtain ⟨r, a1, a2, a3⟩ := sbg_both g w b (by omega)
  obtain ⟨n, v, c, e2⟩ := wordOf_draw l1 hl1
  refine evs (fun k => by rw [laws_FnStepsByGaps.j3]) ?_
  refine evb e1 (evb a1 (evb a2 (evc e2 ?_)))
  rcases word_both n v c with ⟨N, B, W, rfl, rfl, rfl, h1, h2, h3, h4, h5, h6, h7⟩ | ⟨h6, h7⟩
  · refine evb h6 (evb h7 (evn (by simp) (evb (laws_qSame_self _ (by omega)) (evp rfl (evn (by simp) (evb (laws_qSame_self _ (by simp only [ic_length, wdN_length]; omega)) ?_))))))
    have hv := qValue_ev B (wdN B W N) h1 h2 (by rw [wdN_length]; exact h3) (by rw [wdN_length]; exact h4) (wdN_lt (by omega) _ _)
    rw [wdN_val, Nat.mod_eq_of_lt h5] at hv
    refine evs (fun k => by rw [laws_FnStepsByGaps.j4]) ?_
    refine evn (by simp) (evp rfl (evb hv ?_))
    rw [show ((N : Int) != (N : Int)) = false by simp]
    exact j5_ok l0 hl0
  · refine evb h6 (evb h7 (evn (by simp) (evb (laws_qSame_self _ (by omega)) (evp rfl (evn (by simp) (evb (laws_qSame_self _ (by simp)) ?_))))))
    refine evs (fun k => by rw [laws_FnStepsByGaps.j4]) ?_
    exact evn (by simp) (evn (by simp) (j5_ok l0 hl0))
theorem falls_loop (l0 l1 G : List Int) (hG : G.length ≤ 1000000) (h3 : Ev (fun k => laws_FnStepsByGaps.j3 k l0 l1) true) (post : List Int) : ∀ (pre : List Int) (x : Int), G = pre ++ x :: post → chn (x :: post) = true → Ev (fun k => laws_FnStepsByGaps.l0 k l0 l1 G ((pre.length : Int) + 1)) true := by
  induction post with
  | nil =>
    intro pre x hw _
    have hl : G.length = pre.length + 1 := by rw [hw]; simp
    refine evs (fun k => by rw [laws_FnStepsByGaps.l0]) ?_
    exact evn (by omega) h3
  | cons y post ih =>
    intro pre x hw h
    have hlen : G.length = pre.length + (post.length + 1 + 1) := by rw [hw]; simp
    have hx : rd G (pre.length : Int) = x := by rw [hw, rd_mid]
    have hy : rd G ((pre.length : Int) + 1) = y := by
      rw [hw, show pre ++ x :: y :: post = (pre ++ [x]) ++ y :: post by simp]
      exact rd_mid' _ _ _ _ (by simp)
    simp only [chn, Bool.and_eq_true, Bool.not_eq_true', decide_eq_false_iff_not] at h
    have h1 := ih (pre ++ [x]) y (by rw [hw]; simp) h.2
    rw [show (((pre ++ [x]).length : Nat) : Int) = (pre.length : Int) + 1 by simp] at h1
    have ew : wrap64 ((pre.length : Int) + 1 - 1) = (pre.length : Int) := by rw [w64 (by omega) (by omega)]; omega
    refine evs (fun k => by rw [laws_FnStepsByGaps.l0]) ?_
    rw [ew, hx, hy, w64 (x := (pre.length : Int) + 1 + 1) (by omega) (by omega)]
    exact evp (by omega) (evp (by omega) (evp (by omega) (evp (by omega) (evn h.1 h1))))
theorem falls_ok (l0 l1 G : List Int) (hG : G.length ≤ 1000000) (h3 : Ev (fun k => laws_FnStepsByGaps.j3 k l0 l1) true) (h : chn G = true) : Ev (fun k => laws_FnStepsByGaps.l0 k l0 l1 G 1) true := by
  cases G with
  | nil =>
    refine evs (fun k => by rw [laws_FnStepsByGaps.l0]) ?_
    exact evn (by simp) h3
  | cons x G =>
    have := falls_loop l0 l1 (x :: G) hG h3 G [] x rfl h
    simpa using this
theorem FnStepsByGaps : laws_FnStepsByGaps.Pure := by
  intro l0 l1 _ _ w0 _ _ w1
  have hb : ∀ l : List Int, (∀ x ∈ l, (Lit.int .u8 x).wf = true) → ∀ x ∈ l, 0 ≤ x ∧ x ≤ 255 := by
    intro l h x hx
    have := h x hx
    simpa [Lit.wf, IntKind.min, IntKind.max, IntKind.signed, IntKind.bits] using this
  have hl0 := hb l0 w0
  have hl1 := hb l1 w1
  have h3 := j3_ok l0 l1 hl0 hl1
  refine Ev.rounds (g := fun k => laws_FnStepsByGaps.f k l0 l1) ?_
  unfold laws_FnStepsByGaps.f
  obtain ⟨t, ht⟩ : ∃ t, laws_big.f l0 l1 = some t := by
    unfold laws_big.f
    split <;> exact ⟨_, rfl⟩
  refine evc ht ?_
  cases t with
  | true => exact evp rfl (Ev.now _)
  | false =>
    refine evn (by simp) ?_
    obtain ⟨wd, b, p, s, e1, h1, _, _⟩ := word_ok l0 hl0
    have hd : Ev (fun k => spec_DrawSortedStep.f k l0) (wd, b) := by
      unfold spec_DrawSortedStep.f
      exact evb e1 (Ev.now _)
    refine evb hd ?_
    clear e1 hd
    cases h : iw wd b with
    | false =>
      obtain ⟨a1, a2, a3, a4, a5, a6⟩ := word_no wd b (by omega) h
      refine evb a1 (evb a2 (evb a3 (evb a4 (evb a5 (evb a6 (evn (by simp) (evb (laws_qSame_self _ (by simp)) (evp rfl (evn (by simp) (evb (laws_qSame_self _ (by simp)) (evp rfl (evn (by simp) (evp rfl (evn (by simp) ?_))))))))))))))
      refine evs (fun k => by rw [laws_FnStepsByGaps.j0]) ?_
      exact evn (by simp) (evn (by simp) h3)
    | true =>
      obtain ⟨B, ds, rfl, rfl, g1, g2, g3, g4, g5⟩ := iw_of h
      obtain ⟨a3, a4⟩ := gaps_both B ds g1 g2 g3 g4 g5
      obtain ⟨a5, a6⟩ := value_both B ds g1 g2 g3 g4 g5
      have a1 := impl_step_ev B ds g1 g2 g3 g4 g5
      have a2 := spec_step_ev B ds g1 g2 g3 g4 g5
      obtain ⟨s1, s2, s3⟩ := stp_word B ds g1 g5
      have hgl : (ic (gp (so ds))).length ≤ 1000000 := by rw [ic_length, gp_length, so_length]; omega
      have hsl : (ic (stp B ds)).length ≤ 4611686018427387904 := by rw [ic_length, s1]; omega
      have hch : chn (ic (gp (so ds))) = true := desc_chn _ (gp_desc (so_sorted ds))
      refine evb a1 (evb a2 (evb a3 (evb a4 (evb a5 (evb a6 (evn (by simp) (evb (laws_qSame_self _ hsl) (evp rfl (evn (by simp) (evb (laws_qSame_self _ (Nat.le_trans hgl (by decide))) (evp rfl (evn (by simp) (evp rfl (evn (by simp) ?_))))))))))))))
      have c1 := impl_sbg_yes (B := B) (W := ds.length) (g := gp (so ds)) g1 g2 g3 g4 (by rw [gp_length, so_length]) (gp_lt (so_lt g5) (by omega)) hch
      have c2 := impl_word_yes (B := B) (W := ds.length) (n := val B 0 ds) g1 g2 g3 g4 (val_lt0 ds g5)
      rw [wdN_of (by omega) ds g5] at c2
      have c3 := impl_step_ev B ds.reverse g1 g2 (by simpa using g3) (by simpa using g4) (fun d hd => g5 d (List.mem_reverse.1 hd))
      rw [stp_rev, ic_reverse] at c3
      have c4 := qValue_ev B (stp B ds) g1 g2 (by omega) (by omega) s2
      refine evs (fun k => by rw [laws_FnStepsByGaps.j0]) ?_
      rw [ic_length]
      refine evn (by simp) (evp rfl (evb c1 (evb c2 (evb (laws_qBack_ev (ic ds) (by rw [ic_length]; omega)) (evb c3 (evp rfl (evb (laws_qSame_self _ hsl) (evp rfl (evp rfl (evb (laws_qSame_self _ (by simp only [ic_length]; omega)) (evp rfl (evp rfl (evb (laws_qSame_self _ hsl) (evp rfl (evb c4 ?_)))))))))))))))
      have em : wrap64 ((B : Int) - 1) = ((B - 1 : Nat) : Int) := by rw [w64 (by omega) (by omega)]; omega
      rw [em, tmod_cast, s3]
      refine evn (by omega) (evp rfl ?_)
      rw [show ((((ic (stp B ds)).length : Nat) : Int) != ((ds.length : Nat) : Int)) = false by rw [ic_length, s1]; simp]
      refine evs (fun k => by rw [laws_FnStepsByGaps.j1]) ?_
      exact evn (by simp) (falls_ok l0 l1 _ hgl h3 hch)

end Go.Proofs.YtkkhldjhhjpobaaGreat.Pure
