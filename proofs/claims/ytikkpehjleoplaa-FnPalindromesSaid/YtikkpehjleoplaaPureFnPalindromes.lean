/- For all codes: reversed numbers are reversed back but for zeros at their end, and the next palindrome has none between. -/
import Derived.Test.YtikkpehjleoplaaPFnPalindromesx6
import Derived.Test.YtikkpehjleoplaaWMore
set_option linter.unusedVariables false
set_option linter.unusedSimpArgs false
namespace Go.Proofs.Ytikkpehjleoplaa.Pure
open Go.RowKit Go.Proofs.Ytikkpehjleoplaa.PFnPalindromes Go.Proofs.YtikkpehjleoplaaW.PrintWords Go.Proofs.YtikkpehjleoplaaW.PrintLast

theorem w64 {x : Int} (h1 : -9223372036854775808 ≤ x) (h2 : x ≤ 9223372036854775807) : wrap64 x = x := by unfold wrap64; omega

theorem w64n (n : Nat) (h : n ≤ 9223372036854775807) : wrap64 (n : Int) = (n : Int) := w64 (by omega) (by omega)

theorem evp {α : Type} {c : Prop} [Decidable c] {a b : Nat → Option α} {r : α} (h : c) (k : Ev a r) : Ev (fun n => if c then a n else b n) r := Ev.congr (fun _ => if_pos h) k
theorem evn {α : Type} {c : Prop} [Decidable c] {a b : Nat → Option α} {r : α} (h : ¬ c) (k : Ev b r) : Ev (fun n => if c then a n else b n) r := Ev.congr (fun _ => if_neg h) k
theorem evr {α : Type} {x r : α} (h : x = r) : Ev (fun _ => some x) r := h ▸ Ev.now x
theorem evb {α β : Type} {g : Nat → Option α} {f : Nat → α → Option β} {a : α} {r : β} (h : Ev g a) (k : Ev (fun n => f n a) r) : Ev (fun n => (g n).bind fun x => f n x) r := Ev.bind h k
theorem evc {α β : Type} {x : Option α} {a : α} {f : Nat → α → Option β} {r : β} (h : x = some a) (k : Ev (fun n => f n a) r) : Ev (fun n => x.bind fun y => f n y) r := by subst h; exact k
theorem evs {α : Type} {g f : Nat → Option α} {r : α} (h : ∀ k, g (k + 1) = f k) (k : Ev f r) : Ev g r := Ev.step h k
theorem evu {α : Type} {g : Nat → Option α} {r s : α} (h : Ev g r) (k : Ev g s) : r = s := by
  obtain ⟨K, h⟩ := h
  obtain ⟨L, k⟩ := k
  have := (h (K + L) (by omega)).symm.trans (k (K + L) (by omega))
  injection this

theorem rd_mid (pre post : List Int) (x : Int) : rd (pre ++ x :: post) (pre.length : Int) = x := by simp [rd]
theorem rd_mid' (pre post : List Int) (x i : Int) (h : i = pre.length) : rd (pre ++ x :: post) i = x := by subst h; exact rd_mid pre post x
theorem set_mid {α : Type} (pre post : List α) (x y : α) : (pre ++ x :: post).set pre.length y = pre ++ y :: post := by simp
theorem set_midI {α : Type} (pre post : List α) (x y : α) (i : Int) (h : i = pre.length) : (pre ++ x :: post).set i.toNat y = pre ++ y :: post := by subst h; simp
theorem rd_nat (xs : List Int) (i : Nat) : rd xs (i : Int) = xs.getD i 0 := by simp [rd]
theorem rd_get (xs : List Int) (i : Nat) (h : i < xs.length) : rd xs (i : Int) = xs[i] := by simp [rd, h]
theorem rd_mem (xs : List Int) (i : Int) (h0 : 0 ≤ i) (h : i < xs.length) : rd xs i ∈ xs := by
  have hi : i.toNat < xs.length := by omega
  simp only [rd, List.getD_eq_getElem?_getD, List.getElem?_eq_getElem hi, Option.getD_some]
  exact List.getElem_mem hi
/-- m, m + 1, .. -/
def iota (m : Int) : Nat → List Int
  | 0 => []
  | n + 1 => m :: iota (m + 1) n
theorem iota_length (m : Int) (n : Nat) : (iota m n).length = n := by induction n generalizing m with
  | zero => rfl
  | succ n ih => simp [iota, ih]
/-- A list is cut in two. -/
theorem cut_at {α : Type} (xs : List α) (i : Nat) (h : i < xs.length) : ∃ pre x post, xs = pre ++ x :: post ∧ pre.length = i := by
  refine ⟨xs.take i, xs[i], xs.drop (i + 1), ?_, by simp; omega⟩
  simp
theorem wf64 {x : Int} (h : (Lit.int .i64 x).wf = true) : -9223372036854775808 ≤ x ∧ x ≤ 9223372036854775807 := by
  have h2 : (decide (IntKind.i64.min ≤ x) && decide (x ≤ IntKind.i64.max)) = true := h
  rw [show IntKind.i64.min = -9223372036854775808 from rfl, show IntKind.i64.max = 9223372036854775807 from rfl] at h2
  simpa using h2

def ic (l : List Nat) : List Int := l.map (fun x : Nat => (x : Int))
theorem ic_nil : ic [] = [] := rfl
theorem ic_cons (x : Nat) (l : List Nat) : ic (x :: l) = (x : Int) :: ic l := rfl
theorem ic_append (l m : List Nat) : ic (l ++ m) = ic l ++ ic m := by simp [ic]
theorem ic_length (l : List Nat) : (ic l).length = l.length := by simp [ic]
theorem ic_drop (l : List Nat) (k : Nat) : (ic l).drop k = ic (l.drop k) := by simp [ic, List.map_drop]
def digs (n b : Nat) : Nat → Nat → List Nat
  | 0, _ => []
  | k + 1, a => a * b / n :: digs n b k (a * b % n)
theorem digs_length (n b k : Nat) : ∀ a, (digs n b k a).length = k := by
  induction k with
  | zero => intro a; rfl
  | succ k ih => intro a; simp [digs, ih]

def lsd (b : Nat) : Nat → Nat → List Nat
  | 0, _ => []
  | f + 1, n => if n = 0 then [] else n % b :: lsd b f (n / b)
theorem lsd_zero (b f : Nat) : lsd b f 0 = [] := by cases f <;> simp [lsd]
theorem lsd_fuel {b : Nat} (hb : 2 ≤ b) (n : Nat) : ∀ f g : Nat, n ≤ f → n ≤ g → lsd b f n = lsd b g n := by
  induction n using Nat.strongRecOn with
  | _ n ih =>
    intro f g hf hg
    by_cases h : n = 0
    · subst h
      rw [lsd_zero, lsd_zero]
    · obtain ⟨f, rfl⟩ : ∃ x, f = x + 1 := ⟨f - 1, by omega⟩
      obtain ⟨g, rfl⟩ : ∃ x, g = x + 1 := ⟨g - 1, by omega⟩
      have hlt : n / b < n := Nat.div_lt_self (by omega) (by omega)
      simp only [lsd, if_neg h]
      rw [ih (n / b) hlt f g (by omega) (by omega)]
/-- The least place in front; nothing for 0. -/
def low (b n : Nat) : List Nat := lsd b n n
theorem low_zero (b : Nat) : low b 0 = [] := rfl
theorem low_succ {b n : Nat} (hb : 2 ≤ b) (hn : 1 ≤ n) : low b n = n % b :: low b (n / b) := by
  obtain ⟨m, rfl⟩ : ∃ x, n = x + 1 := ⟨n - 1, by omega⟩
  have hlt : (m + 1) / b < m + 1 := Nat.div_lt_self (by omega) (by omega)
  show lsd b (m + 1) (m + 1) = _
  simp only [lsd]
  rw [if_neg (by omega)]
  show _ = _ :: lsd b _ _
  rw [lsd_fuel hb ((m + 1) / b) m ((m + 1) / b) (by omega) (Nat.le_refl _)]
/-- The digits of a number, the greatest place in front. -/
def dgl (b n : Nat) : List Nat := if n = 0 then [0] else (low b n).reverse
def val (b : Nat) (v : Nat) : List Nat → Nat
  | [] => v
  | d :: l => val b (v * b + d) l
theorem val_append (b v : Nat) (l m : List Nat) : val b v (l ++ m) = val b (val b v l) m := by
  induction l generalizing v with
  | nil => rfl
  | cons d l ih => exact ih _
theorem val_ge {b : Nat} (hb : 1 ≤ b) (l : List Nat) : ∀ v : Nat, v ≤ val b v l := by
  induction l with
  | nil => intro v; exact Nat.le_refl _
  | cons d l ih =>
    intro v
    have h := ih (v * b + d)
    have h2 : v * 1 ≤ v * b := Nat.mul_le_mul_left _ hb
    simp only [val]
    omega
theorem low_lt {b : Nat} (hb : 2 ≤ b) (n : Nat) : ∀ d ∈ low b n, d < b := by
  induction n using Nat.strongRecOn with
  | _ n ih =>
    by_cases h : n = 0
    · subst h
      simp [low_zero]
    · have hlt : n / b < n := Nat.div_lt_self (by omega) (by omega)
      rw [low_succ hb (by omega)]
      intro d hd
      rcases List.mem_cons.1 hd with rfl | hd
      · exact Nat.mod_lt _ (by omega)
      · exact ih _ hlt d hd
theorem low_val {b : Nat} (hb : 2 ≤ b) (n : Nat) : val b 0 (low b n).reverse = n := by
  induction n using Nat.strongRecOn with
  | _ n ih =>
    by_cases h : n = 0
    · subst h
      rfl
    · have hlt : n / b < n := Nat.div_lt_self (by omega) (by omega)
      rw [low_succ hb (by omega), List.reverse_cons, val_append, ih _ hlt]
      simp only [val]
      have := Nat.div_add_mod n b
      rw [Nat.mul_comm (n / b) b]
      omega
theorem dgl_val {b : Nat} (hb : 2 ≤ b) (n : Nat) : val b 0 (dgl b n) = n := by
  unfold dgl
  by_cases h : n = 0
  · subst h
    rw [if_pos rfl]
    simp [val]
  · rw [if_neg h, low_val hb]
theorem dgl_lt {b : Nat} (hb : 2 ≤ b) (n : Nat) : ∀ d ∈ dgl b n, d < b := by
  unfold dgl
  by_cases h : n = 0
  · subst h
    rw [if_pos rfl]
    intro d hd
    rw [List.mem_singleton.1 hd]
    omega
  · rw [if_neg h]
    intro d hd
    exact low_lt hb n d (List.mem_reverse.1 hd)
theorem low_len {b : Nat} (hb : 2 ≤ b) (k : Nat) : ∀ n : Nat, n < 2 ^ k → (low b n).length ≤ k := by
  induction k with
  | zero =>
    intro n hn
    have : n = 0 := by rw [Nat.pow_zero] at hn; omega
    subst this
    simp [low_zero]
  | succ k ih =>
    intro n hn
    by_cases h : n = 0
    · subst h
      simp [low_zero]
    · rw [low_succ hb (by omega), List.length_cons]
      have h2 : n / b < 2 ^ k := by
        refine Nat.div_lt_of_lt_mul ?_
        rw [Nat.pow_succ] at hn
        have : 2 * 2 ^ k ≤ b * 2 ^ k := Nat.mul_le_mul_right _ hb
        omega
      have := ih _ h2
      omega
theorem dgl_len1 {b : Nat} (hb : 2 ≤ b) (n : Nat) (hn : n ≤ 1000000000001) : 1 ≤ (dgl b n).length ∧ (dgl b n).length ≤ 40 := by
  unfold dgl
  by_cases h : n = 0
  · subst h
    rw [if_pos rfl]
    simp
  · rw [if_neg h, List.length_reverse]
    refine ⟨?_, low_len hb 40 n (by omega)⟩
    rw [low_succ hb (by omega), List.length_cons]
    omega
theorem dgl_len {b : Nat} (hb : 2 ≤ b) (n : Nat) (hn : n ≤ 1000000000000) : 1 ≤ (dgl b n).length ∧ (dgl b n).length ≤ 40 := dgl_len1 hb n (by omega)
def lsum : List Nat → Nat
  | [] => 0
  | d :: l => d + lsum l
def lmul : List Nat → Nat
  | [] => 1
  | d :: l => d * lmul l
/-- The digit sum and the digit product. -/
def dsum (b n : Nat) : Nat := lsum (dgl b n)
def dmul (b n : Nat) : Nat := lmul (dgl b n)
theorem lsum_zero (l : List Nat) (b : Nat) (h : lsum l = 0) : val b 0 l = 0 := by
  induction l with
  | nil => rfl
  | cons d l ih =>
    simp only [lsum] at h
    have hd : d = 0 := by omega
    subst hd
    simp only [val, Nat.zero_mul, Nat.add_zero]
    exact ih (by omega)
theorem dsum_pos {b : Nat} (hb : 2 ≤ b) (n : Nat) (hn : 1 ≤ n) : 1 ≤ dsum b n := by
  have h := dgl_val hb n
  have h2 := lsum_zero (dgl b n) b
  unfold dsum
  by_cases h3 : lsum (dgl b n) = 0
  · have := h2 h3
    omega
  · omega
theorem lsum_le {b : Nat} (hb : 1 ≤ b) (l : List Nat) : ∀ v : Nat, v + lsum l ≤ val b v l := by
  induction l with
  | nil => intro v; simp [lsum, val]
  | cons d l ih =>
    intro v
    have h := ih (v * b + d)
    have h2 : v * 1 ≤ v * b := Nat.mul_le_mul_left _ hb
    simp only [lsum, val]
    omega
theorem lmul_le {b : Nat} (l : List Nat) : ∀ v : Nat, (∀ d ∈ l, d < b) → v * lmul l ≤ val b v l := by
  induction l with
  | nil => intro v _; simp [lmul, val]
  | cons d l ih =>
    intro v h
    have h1 := h d (by simp)
    have h2 : v * d ≤ v * b := Nat.mul_le_mul_left _ (by omega)
    have h3 := ih (v * b + d) (fun x hx => h x (by simp [hx]))
    have h4 : v * d * lmul l ≤ (v * b + d) * lmul l := Nat.mul_le_mul_right _ (by omega)
    simp only [lmul, val]
    rw [← Nat.mul_assoc]
    omega
theorem dsum_le {b : Nat} (hb : 2 ≤ b) (n : Nat) : dsum b n ≤ n := by
  have h := lsum_le (b := b) (by omega) (dgl b n) 0
  rw [dgl_val hb] at h
  unfold dsum
  omega
theorem dmul_le {b : Nat} (hb : 2 ≤ b) (n : Nat) : dmul b n ≤ n := by
  have h := dgl_val hb n
  have hl := dgl_lt hb n
  unfold dmul
  cases hd : dgl b n with
  | nil =>
    unfold dgl at hd
    split at hd
    · cases hd
    · rename_i hn
      rw [low_succ hb (by omega)] at hd
      simp at hd
  | cons d l =>
    rw [hd] at h hl
    have h2 := lmul_le (b := b) l d (fun x hx => hl x (by simp [hx]))
    simp only [val, Nat.zero_mul, Nat.zero_add] at h
    simp only [lmul]
    omega
theorem val_mono {b : Nat} (hb : 1 ≤ b) (l : List Nat) (j v : Nat) : val b v (l.take j) ≤ val b v l := by
  have h := val_ge hb (l.drop j) (val b v (l.take j))
  rw [← val_append, List.take_append_drop] at h
  exact h
theorem lmul_take {b : Nat} (hb : 2 ≤ b) (n j : Nat) : lmul ((dgl b n).take j) ≤ n + 1 := by
  have h := dgl_val hb n
  have hl := dgl_lt hb n
  have hm := val_mono (b := b) (by omega) (dgl b n) j 0
  cases hd : (dgl b n).take j with
  | nil => simp [lmul]
  | cons d l =>
    rw [hd] at hm
    have hl2 : ∀ x ∈ (dgl b n).take j, x < b := fun x hx => hl x (List.mem_of_mem_take hx)
    rw [hd] at hl2
    have h2 := lmul_le (b := b) l d (fun x hx => hl2 x (by simp [hx]))
    simp only [val, Nat.zero_mul, Nat.zero_add] at hm
    simp only [lmul]
    omega

theorem val_lt {b : Nat} (l : List Nat) : ∀ v : Nat, (∀ d ∈ l, d < b) → val b v l < (v + 1) * b ^ l.length := by
  induction l with
  | nil => intro v _; simp [val]
  | cons d l ih =>
    intro v h
    have h1 := ih (v * b + d) (fun x hx => h x (by simp [hx]))
    have hd := h d (by simp)
    have h2 : (v * b + d + 1) * b ^ l.length ≤ (v + 1) * b * b ^ l.length := Nat.mul_le_mul_right _ (by rw [Nat.add_mul]; omega)
    simp only [val, List.length_cons]
    rw [Nat.pow_succ, Nat.mul_comm (b ^ l.length) b, ← Nat.mul_assoc]
    omega
theorem val_split (b : Nat) (l : List Nat) : ∀ v : Nat, val b v l = v * b ^ l.length + val b 0 l := by
  induction l with
  | nil => intro v; simp [val]
  | cons d l ih =>
    intro v
    simp only [val, List.length_cons]
    rw [ih (v * b + d), ih (0 * b + d), Nat.add_mul, Nat.pow_succ, Nat.mul_comm (b ^ l.length) b, ← Nat.mul_assoc]
    simp only [Nat.zero_mul, Nat.zero_add]
    omega
theorem val_lt0 {b : Nat} (l : List Nat) (h : ∀ d ∈ l, d < b) : val b 0 l < b ^ l.length := by
  have := val_lt l 0 h
  simpa using this
theorem val_cons (b d : Nat) (l : List Nat) : val b 0 (d :: l) = d * b ^ l.length + val b 0 l := by
  simp only [val, Nat.zero_mul, Nat.zero_add]
  exact val_split b l d
theorem val_app (b : Nat) (l m : List Nat) : val b 0 (l ++ m) = val b 0 l * b ^ m.length + val b 0 m := by
  rw [val_append, val_split b m]
theorem div_unique {E a r c s : Nat} (hr : r < E) (hs : s < E) (h : a * E + r = c * E + s) : a = c ∧ r = s := by
  have h1 : (a * E + r) / E = a := by rw [Nat.mul_comm, Nat.mul_add_div (by omega), Nat.div_eq_of_lt hr, Nat.add_zero]
  have h2 : (c * E + s) / E = c := by rw [Nat.mul_comm, Nat.mul_add_div (by omega), Nat.div_eq_of_lt hs, Nat.add_zero]
  have h3 : a = c := by rw [← h1, h, h2]
  subst h3
  exact ⟨rfl, by omega⟩
theorem val_inj {b : Nat} (x : List Nat) : ∀ y : List Nat, x.length = y.length → (∀ d ∈ x, d < b) → (∀ d ∈ y, d < b) → val b 0 x = val b 0 y → x = y := by
  induction x with
  | nil =>
    intro y hl _ _ _
    exact (List.eq_nil_of_length_eq_zero hl.symm).symm
  | cons d x ih =>
    intro y hl hx hy h
    cases y with
    | nil => simp at hl
    | cons e y =>
      have hl2 : x.length = y.length := by simpa using hl
      rw [val_cons, val_cons, hl2] at h
      have hx2 : ∀ d ∈ x, d < b := fun z hz => hx z (by simp [hz])
      have hy2 : ∀ d ∈ y, d < b := fun z hz => hy z (by simp [hz])
      obtain ⟨h1, h2⟩ := div_unique (by have := val_lt0 x hx2; rw [hl2] at this; exact this) (val_lt0 y hy2) h
      rw [h1, ih y hl2 hx2 hy2 h2]
theorem low_lower {b : Nat} (hb : 2 ≤ b) (n : Nat) : 1 ≤ n → b ^ ((low b n).length - 1) ≤ n := by
  induction n using Nat.strongRecOn with
  | _ n ih =>
    intro hn
    have hlt : n / b < n := Nat.div_lt_self (by omega) (by omega)
    rw [low_succ hb hn, List.length_cons, Nat.add_sub_cancel]
    by_cases h : n / b = 0
    · rw [h, low_zero]
      simpa using hn
    · have h2 := ih (n / b) hlt (Nat.pos_of_ne_zero h)
      have h3 : 1 ≤ (low b (n / b)).length := by rw [low_succ hb (Nat.pos_of_ne_zero h), List.length_cons]; omega
      have h4 : b ^ (low b (n / b)).length = b ^ ((low b (n / b)).length - 1) * b := by rw [← Nat.pow_succ]; congr 1; omega
      have h5 : b ^ ((low b (n / b)).length - 1) * b ≤ n / b * b := Nat.mul_le_mul_right _ h2
      have h6 := Nat.div_mul_le_self n b
      omega
theorem dgl_lower {b : Nat} (hb : 2 ≤ b) (n : Nat) (hn : 1 ≤ n) : b ^ ((dgl b n).length - 1) ≤ n := by
  unfold dgl
  rw [if_neg (by omega), List.length_reverse]
  exact low_lower hb n hn
theorem dgl_upper {b : Nat} (hb : 2 ≤ b) (n : Nat) : n < b ^ (dgl b n).length := by
  have h := val_lt0 (dgl b n) (dgl_lt hb n)
  rw [dgl_val hb] at h
  exact h
theorem dgl_pos (b n : Nat) (hb : 2 ≤ b) : 1 ≤ (dgl b n).length := by
  unfold dgl
  by_cases h : n = 0
  · rw [if_pos h]; simp
  · rw [if_neg h, List.length_reverse, low_succ hb (by omega), List.length_cons]; omega
/-- As many digits as the powers around tell. -/
theorem dgl_length {b : Nat} (hb : 2 ≤ b) (n w : Nat) (hw : 1 ≤ w) (h1 : b ^ (w - 1) ≤ n) (h2 : n < b ^ w) : (dgl b n).length = w := by
  have hp : 0 < b ^ (w - 1) := Nat.pow_pos (by omega)
  have h3 := dgl_lower hb n (by omega)
  have h4 := dgl_upper hb n
  have h5 := dgl_pos b n hb
  by_cases h : (dgl b n).length < w
  · have : b ^ (dgl b n).length ≤ b ^ (w - 1) := Nat.pow_le_pow_right (by omega) (by omega)
    omega
  · by_cases h6 : w < (dgl b n).length
    · have : b ^ w ≤ b ^ ((dgl b n).length - 1) := Nat.pow_le_pow_right (by omega) (by omega)
      omega
    · omega
theorem dgl_of_val {b : Nat} (hb : 2 ≤ b) (L : List Nat) (hL : 1 ≤ L.length) (hd : ∀ d ∈ L, d < b) (h : b ^ (L.length - 1) ≤ val b 0 L) : dgl b (val b 0 L) = L :=
  val_inj _ _ (dgl_length hb _ _ hL h (val_lt0 L hd)) (dgl_lt hb _) hd (dgl_val hb _)

def pal (b n : Nat) : Prop := (dgl b n).reverse = dgl b n
instance (b n : Nat) : Decidable (pal b n) := by unfold pal; infer_instance
def mirL (w : Nat) (F : List Nat) : List Nat := F ++ (F.take (w - F.length)).reverse
theorem mirL_length {w : Nat} {F : List Nat} (h : F.length = (w + 1) / 2) : (mirL w F).length = w := by
  simp only [mirL, List.length_append, List.length_reverse, List.length_take]
  omega
theorem mirL_lt {b w : Nat} {F : List Nat} (h : ∀ d ∈ F, d < b) : ∀ d ∈ mirL w F, d < b := by
  intro d hd
  rcases List.mem_append.1 hd with hd | hd
  · exact h d hd
  · exact h d (List.mem_of_mem_take (List.mem_reverse.1 hd))
theorem mirL_rev {w : Nat} {F : List Nat} (h : F.length = (w + 1) / 2) : (mirL w F).reverse = mirL w F := by
  simp only [mirL, List.reverse_append, List.reverse_reverse]
  by_cases he : w - F.length = F.length
  · rw [he, List.take_length]
  · have h1 : w - F.length = F.length - 1 := by omega
    rw [h1]
    by_cases h0 : F = []
    · subst h0; rfl
    · obtain ⟨G, x, rfl⟩ : ∃ G x, F = G ++ [x] := ⟨F.dropLast, F.getLast h0, (List.dropLast_concat_getLast h0).symm⟩
      simp
theorem pal_mirL {Q : List Nat} (h : Q.reverse = Q) : Q = mirL Q.length (Q.take ((Q.length + 1) / 2)) := by
  obtain ⟨w, hw⟩ : ∃ w, Q.length = w := ⟨_, rfl⟩
  rw [hw]
  have h1 : (Q.take ((w + 1) / 2)).length = (w + 1) / 2 := by rw [List.length_take]; omega
  unfold mirL
  rw [h1, List.take_take, show min (w - (w + 1) / 2) ((w + 1) / 2) = w - (w + 1) / 2 by omega]
  have h2 : Q.drop ((w + 1) / 2) = (Q.take (w - (w + 1) / 2)).reverse := by
    conv => lhs; rw [← h]
    rw [List.drop_reverse, hw]
  rw [← h2, List.take_append_drop]
theorem half_E {w : Nat} (hw : 1 ≤ w) (b : Nat) : b ^ (w - 1) = b ^ ((w + 1) / 2 - 1) * b ^ (w - (w + 1) / 2) := by
  rw [← Nat.pow_add]
  congr 1
  omega
theorem mirL_val (b w : Nat) (F : List Nat) (h : F.length = (w + 1) / 2) (hd : ∀ d ∈ F, d < b) : ∃ r, val b 0 (mirL w F) = val b 0 F * b ^ (w - (w + 1) / 2) + r ∧ r < b ^ (w - (w + 1) / 2) := by
  have hl : ((F.take (w - F.length)).reverse).length = w - (w + 1) / 2 := by rw [List.length_reverse, List.length_take]; omega
  have hv := val_lt0 (b := b) ((F.take (w - F.length)).reverse) (fun d h1 => hd d (List.mem_of_mem_take (List.mem_reverse.1 h1)))
  refine ⟨val b 0 ((F.take (w - F.length)).reverse), ?_, ?_⟩
  · unfold mirL
    rw [val_app, hl]
  · rw [hl] at hv
    exact hv
/-- One with as many digits and the same front is this one. -/
theorem pal_same {b : Nat} (hb : 2 ≤ b) (P w : Nat) (F : List Nat) (hF : F.length = (w + 1) / 2) (hd : ∀ d ∈ F, d < b) (hP : pal b P) (hl : (dgl b P).length = w) (hf : P / b ^ (w - (w + 1) / 2) = val b 0 F) : P = val b 0 (mirL w F) := by
  have h1 := pal_mirL hP
  rw [hl] at h1
  have hlt := dgl_lt hb P
  have hlt2 : ∀ d ∈ (dgl b P).take ((w + 1) / 2), d < b := fun d h => hlt d (List.mem_of_mem_take h)
  have hl2 : ((dgl b P).take ((w + 1) / 2)).length = (w + 1) / 2 := by rw [List.length_take]; omega
  obtain ⟨r, h2, h3⟩ := mirL_val b w _ hl2 hlt2
  rw [← h1, dgl_val hb] at h2
  have h4 : P / b ^ (w - (w + 1) / 2) = val b 0 ((dgl b P).take ((w + 1) / 2)) := by
    obtain ⟨X, hX⟩ : ∃ X, val b 0 ((dgl b P).take ((w + 1) / 2)) = X := ⟨_, rfl⟩
    rw [hX] at h2 ⊢
    rw [h2, Nat.mul_comm, Nat.mul_add_div (by omega), Nat.div_eq_of_lt h3, Nat.add_zero]
  have h5 := val_inj _ F (by rw [hl2, hF]) hlt2 hd (by rw [← h4, hf])
  rw [h5] at h1
  rw [← h1, dgl_val hb]
/-- The least number of at least t with the same digits backwards. -/
def NextPal (b t m : Nat) : Prop := t ≤ m ∧ pal b m ∧ ∀ P, t ≤ P → P < m → ¬ pal b P
theorem next_front {b : Nat} (hb : 2 ≤ b) (w t : Nat) (F : List Nat) (hw : 1 ≤ w) (hF : F.length = (w + 1) / 2) (hd : ∀ d ∈ F, d < b) (ht : b ^ (w - 1) ≤ t) (hf : val b 0 F * b ^ (w - (w + 1) / 2) ≤ t) (hM : t ≤ val b 0 (mirL w F)) : NextPal b t (val b 0 (mirL w F)) := by
  have hl := mirL_length hF
  have hM2 : b ^ (w - 1) ≤ val b 0 (mirL w F) := by omega
  have hdg := dgl_of_val hb (mirL w F) (by omega) (mirL_lt hd) (by rw [hl]; exact hM2)
  obtain ⟨r, h2, h3⟩ := mirL_val b w F hF hd
  have hup := val_lt0 (mirL w F) (mirL_lt hd)
  rw [hl] at hup
  refine ⟨hM, ?_, fun P h4 h5 h6 => ?_⟩
  · unfold pal
    rw [hdg]
    exact mirL_rev hF
  · have hlP := dgl_length hb P w hw (by omega) (by omega)
    have hfP : P / b ^ (w - (w + 1) / 2) = val b 0 F := by
      rw [Nat.div_eq_iff (by omega)]
      omega
    have := pal_same hb P w F hF hd h6 hlP hfP
    omega
theorem next_after {b : Nat} (hb : 2 ≤ b) (w t : Nat) (F G : List Nat) (hw : 1 ≤ w) (hF : F.length = (w + 1) / 2) (hd : ∀ d ∈ F, d < b) (hG : G.length = (w + 1) / 2) (hdG : ∀ d ∈ G, d < b) (hFG : val b 0 G = val b 0 F + 1) (ht : b ^ (w - 1) ≤ t) (hf : val b 0 F * b ^ (w - (w + 1) / 2) ≤ t) (hf2 : t ≤ (val b 0 F + 1) * b ^ (w - (w + 1) / 2)) (hM : val b 0 (mirL w F) < t) : NextPal b t (val b 0 (mirL w G)) := by
  have hl := mirL_length hG
  obtain ⟨r, h2, h3⟩ := mirL_val b w F hF hd
  obtain ⟨s, g2, g3⟩ := mirL_val b w G hG hdG
  have hM2 : t ≤ val b 0 (mirL w G) := by rw [g2, hFG]; omega
  have hdg := dgl_of_val hb (mirL w G) (by omega) (mirL_lt hdG) (by rw [hl]; omega)
  have hup := val_lt0 (mirL w G) (mirL_lt hdG)
  rw [hl] at hup
  refine ⟨hM2, ?_, fun P h4 h5 h6 => ?_⟩
  · unfold pal
    rw [hdg]
    exact mirL_rev hG
  · have hlP := dgl_length hb P w hw (by omega) (by omega)
    rw [hFG, Nat.add_mul, Nat.one_mul] at g2
    rw [Nat.add_mul, Nat.one_mul] at hf2
    by_cases hc : P < val b 0 F * b ^ (w - (w + 1) / 2) + b ^ (w - (w + 1) / 2)
    · have hfP : P / b ^ (w - (w + 1) / 2) = val b 0 F := by
        rw [Nat.div_eq_iff (by omega)]
        omega
      have := pal_same hb P w F hF hd h6 hlP hfP
      omega
    · have hfP : P / b ^ (w - (w + 1) / 2) = val b 0 G := by
        rw [hFG, Nat.div_eq_iff (by omega), Nat.add_mul, Nat.one_mul]
        omega
      have := pal_same hb P w G hG hdG h6 hlP hfP
      rw [this] at h5
      omega
theorem val_repl0 (b : Nat) (n : Nat) : val b 0 (List.replicate n 0) = 0 := by
  induction n with
  | zero => rfl
  | succ n ih =>
    rw [List.replicate_succ]
    simp only [val, Nat.zero_mul, Nat.zero_add]
    exact ih
theorem val_repl {b : Nat} (hb : 2 ≤ b) (n : Nat) : val b 0 (List.replicate n (b - 1)) + 1 = b ^ n := by
  induction n with
  | zero => rfl
  | succ n ih =>
    rw [List.replicate_succ, val_cons, List.length_replicate, Nat.pow_succ]
    have h : (b - 1) * b ^ n + b ^ n = b ^ n * b := by
      have : (b - 1 + 1) * b ^ n = b * b ^ n := by rw [show b - 1 + 1 = b by omega]
      rw [Nat.add_mul, Nat.one_mul] at this
      rw [this, Nat.mul_comm]
    omega
theorem val_one (b w : Nat) (hw : 1 ≤ w) : val b 0 (1 :: (List.replicate (w - 1) 0 ++ [1])) = b ^ w + 1 := by
  rw [val_cons, val_app, val_repl0, List.length_append, List.length_replicate]
  simp only [List.length_cons, List.length_nil, val]
  rw [show w - 1 + (0 + 1) = w by omega]
  omega
theorem next_wide {b : Nat} (hb : 2 ≤ b) (w t : Nat) (F : List Nat) (hw : 1 ≤ w) (hF : F.length = (w + 1) / 2) (hd : ∀ d ∈ F, d < b) (hmax : val b 0 F + 1 = b ^ ((w + 1) / 2)) (ht : b ^ (w - 1) ≤ t) (hf : val b 0 F * b ^ (w - (w + 1) / 2) ≤ t) (hf2 : t ≤ (val b 0 F + 1) * b ^ (w - (w + 1) / 2)) (hM : val b 0 (mirL w F) < t) : NextPal b t (b ^ w + 1) := by
  obtain ⟨r, h2, h3⟩ := mirL_val b w F hF hd
  have hw2 : b ^ ((w + 1) / 2) * b ^ (w - (w + 1) / 2) = b ^ w := by rw [← Nat.pow_add]; congr 1; omega
  have hone : ∀ d ∈ (1 :: (List.replicate (w - 1) 0 ++ [1])), d < b := by
    intro d h
    simp only [List.mem_cons, List.mem_append, List.mem_replicate, List.not_mem_nil, or_false] at h
    omega
  have hlen : (1 :: (List.replicate (w - 1) 0 ++ [1])).length = w + 1 := by simp; omega
  have hdg := dgl_of_val hb (1 :: (List.replicate (w - 1) 0 ++ [1])) (by omega) hone (by rw [hlen, val_one b w hw, Nat.add_sub_cancel]; omega)
  rw [val_one b w hw] at hdg
  have hpow : dgl b (b ^ w) = 1 :: List.replicate w 0 := by
    have hv : val b 0 (1 :: List.replicate w 0) = b ^ w := by rw [val_cons, val_repl0, List.length_replicate]; omega
    have := dgl_of_val hb (1 :: List.replicate w 0) (by simp) (fun d h => by
      simp only [List.mem_cons, List.mem_replicate] at h
      omega) (by rw [hv]; simp)
    rw [hv] at this
    exact this
  rw [hmax, hw2] at hf2
  refine ⟨by omega, ?_, fun P h4 h5 h6 => ?_⟩
  · unfold pal
    rw [hdg]
    simp
  · by_cases hc : P = b ^ w
    · subst hc
      unfold pal at h6
      rw [hpow] at h6
      obtain ⟨w, rfl⟩ : ∃ x, w = x + 1 := ⟨w - 1, by omega⟩
      rw [List.reverse_cons, List.reverse_replicate, List.replicate_succ, List.cons_append] at h6
      injection h6 with h7 _
      omega
    · have hlP := dgl_length hb P w hw (by omega) (by omega)
      have hfP : P / b ^ (w - (w + 1) / 2) = val b 0 F := by
        rw [Nat.div_eq_iff (by omega)]
        have : (val b 0 F + 1) * b ^ (w - (w + 1) / 2) = b ^ w := by rw [hmax, hw2]
        rw [Nat.add_mul, Nat.one_mul] at this
        omega
      have := pal_same hb P w F hF hd h6 hlP hfP
      omega
theorem nextPal_unique {b t m m' : Nat} (h : NextPal b t m) (h' : NextPal b t m') : m = m' := by
  obtain ⟨h1, h2, h3⟩ := h
  obtain ⟨g1, g2, g3⟩ := h'
  by_cases c : m < m'
  · exact absurd h2 (g3 m h1 c)
  · by_cases c2 : m' < m
    · exact absurd g2 (h3 m' g1 c2)
    · omega

theorem ic_reverse (l : List Nat) : ic l.reverse = (ic l).reverse := by simp [ic]
theorem ic_rd (pre post : List Nat) (x : Nat) : rd (ic (pre ++ x :: post)) (pre.length : Int) = (x : Int) := by
  rw [ic_append, ic_cons, show ((pre.length : Nat) : Int) = (((ic pre).length : Nat) : Int) by simp [ic], rd_mid]

theorem impl_in_eq (a b c : Int) : impl_in.f a b c = some (decide (b ≤ a ∧ a ≤ c)) := by
  unfold impl_in.f
  by_cases h : b ≤ a <;> simp [h]
theorem spec_l1In_eq (a b c : Int) : spec_l1In.f a b c = some (decide (b ≤ a ∧ a ≤ c)) := by
  unfold spec_l1In.f
  by_cases h : b ≤ a <;> simp [h]

theorem impl_isBase_eq (b : Int) : impl_isBase.f b = some (decide (2 ≤ b ∧ b ≤ 16)) := by simp only [impl_isBase.f, impl_in_eq, Option.bind_some]
theorem spec_dgBase_eq (b : Int) : spec_dgBase.f b = some (decide (2 ≤ b ∧ b ≤ 16)) := by simp only [spec_dgBase.f, spec_l1In_eq, Option.bind_some]

theorem impl_isNumber_eq (n b : Int) : impl_isNumber.f n b = some (decide ((0 ≤ n ∧ n ≤ 1000000000000) ∧ 2 ≤ b ∧ b ≤ 16)) := by
  simp only [impl_isNumber.f, impl_in_eq, impl_isBase_eq, Option.bind_some, decide_eq_true_eq]
  by_cases h : 0 ≤ n ∧ n ≤ 1000000000000 <;> simp [h]
theorem spec_dgAsked_eq (n b : Int) : spec_dgAsked.f n b = some (decide ((0 ≤ n ∧ n ≤ 1000000000000) ∧ 2 ≤ b ∧ b ≤ 16)) := by
  simp only [spec_dgAsked.f, spec_dgNumber.f, spec_l1In_eq, spec_dgBase_eq, Option.bind_some, decide_eq_true_eq]
  by_cases h : 0 ≤ n ∧ n ≤ 1000000000000 <;> simp [h]

theorem pigeon (n : Nat) : ∀ f : Nat → Nat, (∀ i, i ≤ n → f i < n) → ∃ i j, i < j ∧ j ≤ n ∧ f i = f j := by
  induction n with
  | zero => intro f h; exact absurd (h 0 (Nat.le_refl _)) (by omega)
  | succ n ih =>
    intro f h
    by_cases hc : ∃ i, i ≤ n ∧ f i = f (n + 1)
    · obtain ⟨i, hi, he⟩ := hc
      exact ⟨i, n + 1, by omega, Nat.le_refl _, he⟩
    · have hv := h (n + 1) (Nat.le_refl _)
      have hne : ∀ i, i ≤ n → f i ≠ f (n + 1) := fun i hi he => hc ⟨i, hi, he⟩
      obtain ⟨i, j, hij, hj, he⟩ := ih (fun i => if f i = n then f (n + 1) else f i) (fun i hi => by
        have h1 := h i (by omega)
        have h2 := hne i hi
        show (if f i = n then f (n + 1) else f i) < n
        split <;> omega)
      refine ⟨i, j, hij, by omega, ?_⟩
      have h1 := hne i (by omega)
      have h2 := hne j hj
      (try simp only at he)
      split at he <;> split at he <;> omega
theorem least_of {P : Nat → Prop} (h : ∃ k, P k) : ∃ k, P k ∧ ∀ j, j < k → ¬ P j := by
  obtain ⟨k, hk⟩ := h
  induction k using Nat.strongRecOn with
  | _ k ih =>
    by_cases hc : ∃ j, j < k ∧ P j
    · obtain ⟨j, hj, hp⟩ := hc
      exact ih j hj hp
    · exact ⟨k, hk, fun j hj hp => hc ⟨j, hj, hp⟩⟩
theorem mod_of_dvd_sub {a n : Nat} (h1 : 1 ≤ a) (h : n ∣ a - 1) : a % n = 1 % n := by
  obtain ⟨q, hq⟩ := h
  have : a = n * q + 1 := by omega
  rw [this, Nat.mul_add_mod]
theorem pow_back (b n : Nat) (hb : 0 < b) (hn : 0 < n) (hc : Nat.Coprime n b) : ∃ k, 1 ≤ k ∧ k ≤ n ∧ b ^ k % n = 1 % n := by
  obtain ⟨i, j, hij, hj, he⟩ := pigeon n (fun i => b ^ i % n) (fun i _ => Nat.mod_lt _ hn)
  refine ⟨j - i, by omega, by omega, mod_of_dvd_sub (Nat.pow_pos hb) ?_⟩
  have h1 := Nat.sub_mod_eq_zero_of_mod_eq he.symm
  have h2 := Nat.dvd_of_mod_eq_zero h1
  have h3 : b ^ j - b ^ i = b ^ i * (b ^ (j - i) - 1) := by
    rw [Nat.mul_sub, ← Nat.pow_add, Nat.mul_one]
    congr 2
    omega
  rw [h3] at h2
  exact Nat.Coprime.dvd_of_dvd_mul_left (Nat.Coprime.pow_right _ hc) h2
theorem tmod_cast (a b : Nat) : Int.tmod (a : Int) (b : Int) = ((a % b : Nat) : Int) := (Int.ofNat_tmod a b).symm
theorem tdiv_cast (a b : Nat) : Int.tdiv (a : Int) (b : Int) = ((a / b : Nat) : Int) := (Int.ofNat_tdiv a b).symm
theorem natOf {a : Int} (h : 0 ≤ a) : ∃ n : Nat, a = (n : Int) := ⟨a.toNat, by omega⟩

theorem reverse_loop (n : Nat) : ∀ (mid pre post : List Int), mid.length ≤ n → pre.length = post.length → (pre ++ mid ++ post).length ≤ 1000000000000 →
    Ev (fun k => slices_Reverse_int_int.l0 k (pre ++ mid ++ post) (pre.length : Int) ((pre.length : Int) + (mid.length : Int) - 1)) (pre ++ mid.reverse ++ post) := by
  induction n with
  | zero =>
    intro mid pre post hm _ _
    obtain rfl : mid = [] := List.eq_nil_of_length_eq_zero (by omega)
    refine evs (fun k => by rw [slices_Reverse_int_int.l0]) ?_
    exact evn (by simp; omega) (evr (by simp))
  | succ n ih =>
    intro mid pre post hm hp hl
    cases mid with
    | nil =>
      refine evs (fun k => by rw [slices_Reverse_int_int.l0]) ?_
      exact evn (by simp; omega) (evr (by simp))
    | cons a t =>
      by_cases ht : t = []
      · subst ht
        refine evs (fun k => by rw [slices_Reverse_int_int.l0]) ?_
        exact evn (by simp) (evr (by simp))
      · obtain ⟨m, b, rfl⟩ : ∃ m b, t = m ++ [b] := ⟨t.dropLast, t.getLast ht, (List.dropLast_concat_getLast ht).symm⟩
        simp only [List.length_append, List.length_cons, List.length_nil] at hm hl
        have e0 : pre ++ (a :: (m ++ [b])) ++ post = pre ++ a :: (m ++ b :: post) := by simp
        have e1 : pre ++ (a :: (m ++ [b])) ++ post = (pre ++ a :: m) ++ b :: post := by simp
        have hj : ((pre.length : Int) + (((a :: (m ++ [b])).length : Nat) : Int) - 1) = (((pre ++ a :: m).length : Nat) : Int) := by simp; omega
        have r1 : rd (pre ++ (a :: (m ++ [b])) ++ post) (((pre ++ a :: m).length : Nat) : Int) = b := by rw [e1, rd_mid]
        have r0 : rd (pre ++ (a :: (m ++ [b])) ++ post) ((pre.length : Nat) : Int) = a := by rw [e0, rd_mid]
        have hset : ((pre ++ (a :: (m ++ [b])) ++ post).set (pre.length : Int).toNat b).set (((pre ++ a :: m).length : Nat) : Int).toNat a = (pre ++ [b]) ++ m ++ (a :: post) := by
          rw [e0, Int.toNat_natCast, Int.toNat_natCast, set_mid]
          have e2 : pre ++ b :: (m ++ b :: post) = (pre ++ b :: m) ++ b :: post := by simp
          have e3 : (pre ++ a :: m).length = (pre ++ b :: m).length := by simp
          rw [e2, e3, set_mid]
          simp
        have h := ih m (pre ++ [b]) (a :: post) (by omega) (by simp; omega) (by simp; omega)
        have hj2 : (((pre ++ a :: m).length : Nat) : Int) = (pre.length : Int) + (m.length : Int) + 1 := by simp; omega
        have hlen : (((pre ++ (a :: (m ++ [b])) ++ post).length : Nat) : Int) = (pre.length : Int) + (m.length : Int) + 2 + (post.length : Int) := by simp; omega
        refine evs (fun k => by rw [slices_Reverse_int_int.l0]) ?_
        rw [hj, r1, r0, hset, hlen, hj2, w64 (x := (pre.length : Int) + 1) (by omega) (by omega), w64 (x := (pre.length : Int) + (m.length : Int) + 1 - 1) (by omega) (by omega)]
        refine evp (by omega) (evp (by omega) (evp (by omega) (evp (by omega) (evp (by omega) ?_))))
        have e4 : (((pre ++ [b]).length : Nat) : Int) = (pre.length : Int) + 1 := by simp
        rw [e4, show (pre.length : Int) + 1 + (m.length : Int) - 1 = (pre.length : Int) + (m.length : Int) + 1 - 1 by omega] at h
        have e5 : (pre ++ [b]) ++ m.reverse ++ (a :: post) = pre ++ (a :: (m ++ [b])).reverse ++ post := by simp
        rw [e5] at h
        exact h
theorem reverse_ev (l : List Int) (h : l.length ≤ 1000000000000) : Ev (fun k => slices_Reverse_int_int.f k l) l.reverse := by
  unfold slices_Reverse_int_int.f
  rw [w64 (by omega) (by omega)]
  have := reverse_loop l.length l [] [] (Nat.le_refl _) rfl (by simpa using h)
  simpa using this

theorem l1Own_ev (l : List Int) (h : l.length ≤ 1000000) : spec_l1Own.f l = some l := by
  unfold spec_l1Own.f
  simp only [Option.bind_some, List.nil_append, List.length_nil]
  rw [if_pos (by omega)]
theorem clone_ev (l : List Int) (h : l.length ≤ 1000000) : slices_Clone_int_int.f l = some l := by
  unfold slices_Clone_int_int.f
  rw [if_pos (by omega)]

theorem spec_dgOf_loop (b : Nat) (hb : 2 ≤ b) (n : Nat) : ∀ acc : List Nat, acc.length + (low b n).length ≤ 1000000 → n ≤ 1000000000001 → Ev (fun k => spec_dgOf.l0 k (n : Int) (b : Int) (ic acc)) (ic ((low b n).reverse ++ acc)) := by
  induction n using Nat.strongRecOn with
  | _ n ih =>
    intro acc hl hn
    refine evs (fun k => by rw [spec_dgOf.l0]) ?_
    by_cases h : n = 0
    · subst h
      exact evn (by omega) (evr (by simp [low_zero]))
    · have hlt : n / b < n := Nat.div_lt_self (by omega) (by omega)
      rw [low_succ hb (by omega), List.length_cons] at hl
      have h2 := ih (n / b) hlt (n % b :: acc) (by simp only [List.length_cons]; omega) (by omega)
      rw [tmod_cast, tdiv_cast, w64n (n / b) (by omega), low_succ hb (by omega)]
      refine evp (by omega) (evn (by omega) ?_)
      simp only [Option.bind_some]
      refine evp (by simp only [List.length_cons, List.length_nil, ic_length]; omega) ?_
      simpa [ic] using h2
theorem spec_dgOf_ev1 (b n : Nat) (hb : 2 ≤ b) (hn : n ≤ 1000000000001) : Ev (fun k => spec_dgOf.f k (n : Int) (b : Int)) (ic (dgl b n)) := by
  unfold spec_dgOf.f
  by_cases h : n = 0
  · subst h
    exact evp (by omega) (evr (by simp [dgl, ic]))
  · have hl := low_len hb 40 n (by omega)
    have h2 := spec_dgOf_loop b hb n [] (by simp; omega) hn
    unfold dgl
    rw [if_neg h]
    exact evn (by omega) (by simpa [ic] using h2)
theorem impl_digitsOf_loop (b : Nat) (hb : 2 ≤ b) (n : Nat) : ∀ acc : List Nat, acc.length + (low b n).length ≤ 1000000 → n ≤ 1000000000001 → Ev (fun k => impl_digitsOf.l0 k (n : Int) (b : Int) (ic acc)) (ic (acc ++ low b n).reverse) := by
  induction n using Nat.strongRecOn with
  | _ n ih =>
    intro acc hl hn
    refine evs (fun k => by rw [impl_digitsOf.l0]) ?_
    by_cases h : n = 0
    · subst h
      refine evn (by omega) (evb (reverse_ev (ic acc) (by rw [ic_length]; omega)) (evr ?_))
      rw [low_zero, List.append_nil, ic_reverse]
    · have hlt : n / b < n := Nat.div_lt_self (by omega) (by omega)
      rw [low_succ hb (by omega), List.length_cons] at hl
      have h2 := ih (n / b) hlt (acc ++ [n % b]) (by simp only [List.length_append, List.length_cons, List.length_nil]; omega) (by omega)
      rw [tmod_cast, tdiv_cast, w64n (n / b) (by omega), low_succ hb (by omega)]
      refine evp (by omega) (evn (by omega) (evp (by rw [ic_length]; omega) ?_))
      rw [ic_append, List.append_assoc] at h2
      simpa [ic] using h2
theorem impl_digitsOf_ev1 (b n : Nat) (hb : 2 ≤ b) (hn : n ≤ 1000000000001) : Ev (fun k => impl_digitsOf.f k (n : Int) (b : Int)) (ic (dgl b n)) := by
  unfold impl_digitsOf.f
  have hdv : n / b ≤ n := Nat.div_le_self _ _
  have hl := low_len hb 40 (n / b) (by omega)
  have h2 := impl_digitsOf_loop b hb (n / b) [n % b] (by simp only [List.length_cons, List.length_nil]; omega) (by omega)
  rw [tmod_cast, tdiv_cast, w64n (n / b) (by omega)]
  refine evn (by omega) ?_
  unfold dgl
  by_cases h : n = 0
  · subst h
    rw [if_pos rfl]
    rw [Nat.zero_div, low_zero] at h2 
    simpa [ic, Nat.zero_mod] using h2
  · rw [if_neg h, low_succ hb (by omega)]
    simpa [ic] using h2
theorem spec_dgOf_ev (b n : Nat) (hb : 2 ≤ b) (hn : n ≤ 1000000000000) : Ev (fun k => spec_dgOf.f k (n : Int) (b : Int)) (ic (dgl b n)) := spec_dgOf_ev1 b n hb (by omega)
theorem impl_digitsOf_ev (b n : Nat) (hb : 2 ≤ b) (hn : n ≤ 1000000000000) : Ev (fun k => impl_digitsOf.f k (n : Int) (b : Int)) (ic (dgl b n)) := impl_digitsOf_ev1 b n hb (by omega)

theorem impl_value_loop (b : Nat) (hb : 2 ≤ b) (hb2 : b ≤ 16) (post : List Nat) : ∀ (pre : List Nat) (v : Nat), v ≤ 1000000000000 → (∀ d ∈ post, d < b) → (pre ++ post).length ≤ 1000000000000 →
    Ev (fun k => impl_value.l0 k (b : Int) (v : Int) (ic (pre ++ post)) ((pre ++ post).length : Int) (pre.length : Int)) (if val b v post ≤ 1000000000000 then ((val b v post : Nat) : Int) else 1000000000001) := by
  induction post with
  | nil =>
    intro pre v hv hd hl
    refine evs (fun k => by rw [impl_value.l0]) ?_
    exact evn (by simp) (evr (by simp [val, hv]))
  | cons d post ih =>
    intro pre v hv hd hl
    have hl2 : (pre ++ d :: post).length = pre.length + (post.length + 1) := by simp
    have hd1 := hd d (by simp)
    have hm : v * b ≤ 1000000000000 * 16 := Nat.mul_le_mul hv hb2
    have e1 : (v : Int) * (b : Int) = ((v * b : Nat) : Int) := (Int.natCast_mul _ _).symm
    have e2 : ((v * b : Nat) : Int) + (d : Int) = ((v * b + d : Nat) : Int) := by omega
    refine evs (fun k => by rw [impl_value.l0]) ?_
    rw [ic_rd, ic_length, hl2, e1, w64n (v * b) (by omega), e2, w64n (v * b + d) (by omega), w64 (x := (pre.length : Int) + 1) (by omega) (by omega)]
    refine evp (by omega) (evp (by omega) (evp (by omega) ?_))
    rw [show val b v (d :: post) = val b (v * b + d) post from rfl]
    by_cases h : v * b + d ≤ 1000000000000
    · have h3 := ih (pre ++ [d]) (v * b + d) h (fun x hx => hd x (by simp [hx])) (by simp at hl ⊢; omega)
      rw [List.append_assoc, List.singleton_append, hl2] at h3
      have e3 : (((pre ++ [d]).length : Nat) : Int) = (pre.length : Int) + 1 := by simp
      rw [e3] at h3
      exact evn (by omega) h3
    · have h4 := val_ge (b := b) (by omega) post (v * b + d)
      rw [if_neg (by omega)]
      exact evp (by omega) (Ev.now _)
theorem impl_value_ev (b : Nat) (hb : 2 ≤ b) (hb2 : b ≤ 16) (l : List Nat) (hd : ∀ d ∈ l, d < b) (hl : l.length ≤ 1000000000000) : Ev (fun k => impl_value.f k (ic l) (b : Int)) (if val b 0 l ≤ 1000000000000 then ((val b 0 l : Nat) : Int) else 1000000000001) := by
  have h := impl_value_loop b hb hb2 l [] 0 (by omega) hd (by simpa using hl)
  unfold impl_value.f
  rw [ic_length]
  simpa using h
theorem spec_dgFrom_loop (b : Nat) (hb : 2 ≤ b) (hb2 : b ≤ 16) (post : List Nat) : ∀ (pre : List Nat) (v : Nat), v ≤ 1000000000000 → (∀ d ∈ post, d < b) → (pre ++ post).length ≤ 1000000000000 →
    Ev (fun k => spec_dgFrom.l0 k (b : Int) (v : Int) (ic (pre ++ post)) ((pre ++ post).length : Int) (pre.length : Int)) (if val b v post ≤ 1000000000000 then (((val b v post : Nat) : Int), true) else (0, false)) := by
  induction post with
  | nil =>
    intro pre v hv hd hl
    refine evs (fun k => by rw [spec_dgFrom.l0]) ?_
    exact evn (by simp) (evr (by simp [val, hv]))
  | cons d post ih =>
    intro pre v hv hd hl
    have hl2 : (pre ++ d :: post).length = pre.length + (post.length + 1) := by simp
    have hd1 := hd d (by simp)
    have hm : v * b ≤ 1000000000000 * 16 := Nat.mul_le_mul hv hb2
    have e1 : (v : Int) * (b : Int) = ((v * b : Nat) : Int) := (Int.natCast_mul _ _).symm
    have e2 : ((v * b : Nat) : Int) + (d : Int) = ((v * b + d : Nat) : Int) := by omega
    refine evs (fun k => by rw [spec_dgFrom.l0]) ?_
    rw [ic_rd, ic_length, hl2, e1, w64n (v * b) (by omega), e2, w64n (v * b + d) (by omega), w64 (x := (pre.length : Int) + 1) (by omega) (by omega)]
    refine evp (by omega) (evp (by omega) (evp (by omega) ?_))
    rw [show val b v (d :: post) = val b (v * b + d) post from rfl]
    by_cases h : v * b + d ≤ 1000000000000
    · have h3 := ih (pre ++ [d]) (v * b + d) h (fun x hx => hd x (by simp [hx])) (by simp at hl ⊢; omega)
      rw [List.append_assoc, List.singleton_append, hl2] at h3
      have e3 : (((pre ++ [d]).length : Nat) : Int) = (pre.length : Int) + 1 := by simp
      rw [e3] at h3
      exact evn (by omega) h3
    · have h4 := val_ge (b := b) (by omega) post (v * b + d)
      rw [if_neg (by omega)]
      exact evp (by omega) (Ev.now _)
/-- A number, if it is not too great. -/
def told (n : Nat) : Int × Bool := if n ≤ 1000000000000 then ((n : Int), true) else (0, false)
theorem spec_dgFrom_ev (b : Nat) (hb : 2 ≤ b) (hb2 : b ≤ 16) (l : List Nat) (hd : ∀ d ∈ l, d < b) (hl : l.length ≤ 1000000000000) : Ev (fun k => spec_dgFrom.f k (ic l) (b : Int)) (told (val b 0 l)) := by
  have h := spec_dgFrom_loop b hb hb2 l [] 0 (by omega) hd (by simpa using hl)
  unfold spec_dgFrom.f told
  rw [ic_length]
  simpa using h
theorem impl_told_value (n : Nat) : impl_told.f (if n ≤ 1000000000000 then (n : Int) else 1000000000001) = some (told n) := by
  unfold impl_told.f told
  by_cases h : n ≤ 1000000000000
  · rw [if_pos h, if_pos h, if_neg (by omega)]
  · rw [if_neg h, if_neg h, if_pos (by omega)]

theorem dgBack_loop (n : Nat) : ∀ (pre post out : List Int), pre.length = n → (pre ++ post).length ≤ 1000000000000 → out.length + pre.length ≤ 1000000000000 → Ev (fun k => spec_dgBack.l0 k (pre ++ post) out ((pre.length : Int) - 1)) (out ++ pre.reverse) := by
  induction n with
  | zero =>
    intro pre post out hn _ _
    obtain rfl : pre = [] := List.eq_nil_of_length_eq_zero hn
    refine evs (fun k => by rw [spec_dgBack.l0]) ?_
    exact evn (by simp) (evr (by simp))
  | succ n ih =>
    intro pre post out hn hl ho
    have h0 : pre ≠ [] := fun h => by subst h; simp at hn
    obtain ⟨p, x, rfl⟩ : ∃ p x, pre = p ++ [x] := ⟨pre.dropLast, pre.getLast h0, (List.dropLast_concat_getLast h0).symm⟩
    have hp : p.length = n := by simpa using hn
    have e0 : (p ++ [x]) ++ post = p ++ x :: post := by simp
    have e1 : (((p ++ [x]).length : Nat) : Int) - 1 = (p.length : Int) := by simp
    have hl2 : (p ++ x :: post).length = p.length + (post.length + 1) := by simp
    rw [e0] at hl
    rw [hl2] at hl
    have h := ih p (x :: post) (out ++ [x]) hp (by rw [hl2]; exact hl) (by simp at ho ⊢; omega)
    refine evs (fun k => by rw [spec_dgBack.l0]) ?_
    rw [e1, e0, rd_mid, hl2, w64 (x := (p.length : Int) - 1) (by omega) (by omega)]
    refine evp (by omega) (evp (by omega) (evp (by omega) (evp (by simp at ho; omega) ?_)))
    have e2 : out ++ (p ++ [x]).reverse = (out ++ [x]) ++ p.reverse := by simp
    rw [e2]
    exact h
theorem dgBack_ev (l : List Int) (h : l.length ≤ 1000000000000) : Ev (fun k => spec_dgBack.f k l) l.reverse := by
  unfold spec_dgBack.f
  rw [w64 (by omega) (by omega)]
  have := dgBack_loop l.length l [] [] rfl (by simpa using h) (by simpa using h)
  simpa using this

theorem slices_Equal_int_int_loop (post : List Int) : ∀ (pre post' : List Int), post'.length = post.length → (pre ++ post).length ≤ 4611686018427387904 →
    Ev (fun k => slices_Equal_int_int.l0 k (pre ++ post) (pre ++ post') ((pre ++ post).length : Int) (pre.length : Int)) (decide (post = post')) := by
  induction post with
  | nil =>
    intro pre post' hl h
    obtain rfl : post' = [] := List.eq_nil_of_length_eq_zero hl
    refine evs (fun k => by rw [slices_Equal_int_int.l0]) ?_
    exact evn (by simp) (evr (by simp))
  | cons x post ih =>
    intro pre post' hl h
    obtain ⟨y, post', rfl⟩ : ∃ y z, post' = y :: z := by cases post' with
      | nil => simp at hl
      | cons y z => exact ⟨y, z, rfl⟩
    refine evs (fun k => by rw [slices_Equal_int_int.l0]) ?_
    refine evp (by simp; omega) (evp (by omega) (evp (by simp; omega) (evp (by simp; omega) ?_)))
    rw [rd_mid, rd_mid]
    by_cases he : x = y
    · subst he
      refine evp rfl ?_
      have h2 := ih (pre ++ [x]) post' (by simpa using hl) (by simpa using h)
      simp only [List.append_assoc, List.singleton_append] at h2
      rw [w64 (by omega) (by simp at h; omega)]
      simpa using h2
    · exact evn he (evr (by simp [he]))
theorem slices_Equal_int_int_ev (l l' : List Int) (h : l.length ≤ 4611686018427387904) : Ev (fun k => slices_Equal_int_int.f k l l') (decide (l = l')) := by
  unfold slices_Equal_int_int.f
  by_cases hl : l.length = l'.length
  · exact evp (by omega) (by simpa using slices_Equal_int_int_loop l [] l' hl.symm (by simpa using h))
  · exact evn (by omega) (evr (by symm; rw [decide_eq_false_iff_not]; exact fun e => hl (by rw [e])))
theorem slices_Equal_int_int_self (l : List Int) (h : l.length ≤ 4611686018427387904) : Ev (fun k => slices_Equal_int_int.f k l l) true := by simpa using slices_Equal_int_int_ev l l h

theorem spec_l1Same_loop (post : List Int) : ∀ (pre post' : List Int), post'.length = post.length → (pre ++ post).length ≤ 4611686018427387904 →
    Ev (fun k => spec_l1Same.l0 k (pre ++ post) (pre ++ post') ((pre ++ post).length : Int) (pre.length : Int)) (decide (post = post')) := by
  induction post with
  | nil =>
    intro pre post' hl h
    obtain rfl : post' = [] := List.eq_nil_of_length_eq_zero hl
    refine evs (fun k => by rw [spec_l1Same.l0]) ?_
    exact evn (by simp) (evr (by simp))
  | cons x post ih =>
    intro pre post' hl h
    obtain ⟨y, post', rfl⟩ : ∃ y z, post' = y :: z := by cases post' with
      | nil => simp at hl
      | cons y z => exact ⟨y, z, rfl⟩
    refine evs (fun k => by rw [spec_l1Same.l0]) ?_
    refine evp (by simp; omega) (evp (by omega) (evp (by simp; omega) (evp (by simp; omega) ?_)))
    rw [rd_mid, rd_mid]
    by_cases he : x = y
    · subst he
      refine evp rfl ?_
      have h2 := ih (pre ++ [x]) post' (by simpa using hl) (by simpa using h)
      simp only [List.append_assoc, List.singleton_append] at h2
      rw [w64 (by omega) (by simp at h; omega)]
      simpa using h2
    · exact evn he (evr (by simp [he]))
theorem spec_l1Same_ev (l l' : List Int) (h : l.length ≤ 4611686018427387904) : Ev (fun k => spec_l1Same.f k l l') (decide (l = l')) := by
  unfold spec_l1Same.f
  by_cases hl : l.length = l'.length
  · exact evp (by omega) (by simpa using spec_l1Same_loop l [] l' hl.symm (by simpa using h))
  · exact evn (by omega) (evr (by symm; rw [decide_eq_false_iff_not]; exact fun e => hl (by rw [e])))
theorem spec_l1Same_self (l : List Int) (h : l.length ≤ 4611686018427387904) : Ev (fun k => spec_l1Same.f k l l) true := by simpa using spec_l1Same_ev l l h

theorem reversed_ev (l : List Nat) (h : l.length ≤ 1000000) : Ev (fun k => impl_reversed.f k (ic l)) (ic l.reverse) := by
  unfold impl_reversed.f
  rw [clone_ev _ (by rw [ic_length]; exact h)]
  simp only [Option.bind_some]
  refine evb (reverse_ev (ic l) (by rw [ic_length]; omega)) (evr ?_)
  rw [ic_reverse]
theorem impl_mirrored_ev (w : Nat) (F : List Nat) (hw : w ≤ 100000) (hF : F.length = (w + 1) / 2) : Ev (fun k => impl_mirrored.f k (ic F) (w : Int)) (ic (mirL w F)) := by
  have e : (w : Int) - (F.length : Int) = ((w - F.length : Nat) : Int) := by omega
  have ht : (ic F).take (w - F.length) = ic (F.take (w - F.length)) := by simp [ic, List.map_take]
  unfold impl_mirrored.f
  rw [clone_ev _ (by rw [ic_length]; omega), ic_length, e, w64n _ (by omega), Int.toNat_natCast, ht]
  simp only [Option.bind_some]
  refine evp (by omega) (evp (by omega) (evb (reversed_ev (F.take (w - F.length)) (by rw [List.length_take]; omega)) (evp ?_ (evr ?_))))
  · simp only [ic_length, List.length_reverse, List.length_take]
    omega
  · rw [← ic_append]
    rfl
theorem sym_eq (b n : Nat) : decide (ic (dgl b n) = ic (dgl b n).reverse) = decide (pal b n) := by
  have hinj : ∀ x y : List Nat, ic x = ic y → x = y := by
    intro x
    induction x with
    | nil => intro y h; cases y with
      | nil => rfl
      | cons e y => simp [ic] at h
    | cons d x ih =>
      intro y h
      cases y with
      | nil => simp [ic] at h
      | cons e y =>
        simp only [ic_cons, List.cons.injEq] at h
        rw [ih y h.2]
        congr 1
        omega
  unfold pal
  by_cases h : (dgl b n).reverse = dgl b n
  · rw [decide_eq_true h, h]
    simp
  · rw [decide_eq_false h]
    exact decide_eq_false (fun h2 => h (hinj _ _ h2).symm)
theorem impl_isPal_ev (b n : Nat) (hb : 2 ≤ b) (hb2 : b ≤ 16) (hn : n ≤ 1000000000000) : Ev (fun k => impl_IsPalindrome.f k (n : Int) (b : Int)) (decide (pal b n), true) := by
  have hl := dgl_len hb n hn
  simp only [impl_IsPalindrome.f, impl_isNumber_eq, Option.bind_some, decide_eq_true_eq]
  refine evp (by omega) (evb (impl_digitsOf_ev b n hb hn) (evb (a := decide (pal b n)) ?_ (Ev.now _)))
  refine evb (reversed_ev (dgl b n) (by omega)) (evb (slices_Equal_int_int_ev _ _ (by rw [ic_length]; omega)) (evr ?_))
  exact sym_eq b n
theorem spec_isPal_ev (b n : Nat) (hb : 2 ≤ b) (hb2 : b ≤ 16) (hn : n ≤ 1000000000000) : Ev (fun k => spec_IsPalindrome.f k (n : Int) (b : Int)) (decide (pal b n), true) := by
  have hl := dgl_len hb n hn
  simp only [spec_IsPalindrome.f, spec_dgAsked_eq, Option.bind_some, decide_eq_true_eq]
  refine evp (by omega) (evb (spec_dgOf_ev b n hb hn) (evb (a := decide (pal b n)) ?_ (Ev.now _)))
  refine evb (dgBack_ev (ic (dgl b n)) (by rw [ic_length]; omega)) ?_
  rw [← ic_reverse]
  refine evb (spec_l1Same_ev _ _ (by rw [ic_length]; omega)) (evr ?_)
  exact sym_eq b n
/-- Digits with the second half as the first one backwards. -/
theorem dgMirrored_loop (D M : List Nat) (w h : Nat) (hD : D.length = w) (hM : M.length = w) (hw : w ≤ 100000) (hh : h = (w + 1) / 2) (h1 : ∀ i (hi : i < w), i < h → M[i]'(by omega) = D[i]'(by omega)) (h2 : ∀ i (hi : i < w), h ≤ i → M[i]'(by omega) = D[w - 1 - i]'(by omega)) (d : Nat) :
    ∀ i, i + d = w → Ev (fun k => spec_dgMirrored.l0 k (ic (M.take i ++ D.drop i)) (w : Int) (i : Int)) (ic M) := by
  induction d with
  | zero =>
    intro i hi
    refine evs (fun k => by rw [spec_dgMirrored.l0]) ?_
    refine evn (by omega) (evr ?_)
    rw [List.take_of_length_le (by omega), List.drop_of_length_le (by omega), List.append_nil]
  | succ d ih =>
    intro i hi
    have hn := ih (i + 1) (by omega)
    have hlen : (ic (M.take i ++ D.drop i)).length = w := by rw [ic_length, List.length_append, List.length_take, List.length_drop]; omega
    have e0 : (((ic (M.take i ++ D.drop i)).length : Nat) : Int) = (w : Int) := by rw [hlen]
    have e1 : (w : Int) - 1 - (i : Int) = ((w - 1 - i : Nat) : Int) := by omega
    have ed : D.drop i = D[i]'(by omega) :: D.drop (i + 1) := (List.drop_eq_getElem_cons (by omega))
    have em : M.take (i + 1) = M.take i ++ [M[i]'(by omega)] := by rw [List.take_succ_eq_append_getElem (by omega)]
    have hlt : (M.take i).length = i := by rw [List.length_take]; omega
    refine evs (fun k => by rw [spec_dgMirrored.l0]) ?_
    rw [e0, w64 (x := (w : Int) - 1) (by omega) (by omega), e1, w64n (w - 1 - i) (by omega), w64 (x := (i : Int) + 1) (by omega) (by omega), show (i : Int) + 1 = ((i + 1 : Nat) : Int) by omega]
    refine evp (by omega) ?_
    by_cases hc : i < h
    · refine evn (by omega) ?_
      have e2 : M.take (i + 1) ++ D.drop (i + 1) = M.take i ++ D.drop i := by
        rw [em, ed, h1 i (by omega) hc, List.append_assoc]
        rfl
      rw [e2] at hn
      exact hn
    · have hr : rd (ic (M.take i ++ D.drop i)) ((w - 1 - i : Nat) : Int) = ((M[i]'(by omega) : Nat) : Int) := by
        rw [rd_get _ _ (by rw [hlen]; omega)]
        have e3 : (M.take i ++ D.drop i)[w - 1 - i]'(by rw [← ic_length, hlen]; omega) = M[i]'(by omega) := by
          rw [List.getElem_append_left (by rw [hlt]; omega), List.getElem_take, h1 (w - 1 - i) (by omega) (by omega), h2 i (by omega) (by omega)]
        simp only [ic, List.getElem_map, e3]
      have hset : (ic (M.take i ++ D.drop i)).set i ((M[i]'(by omega) : Nat) : Int) = ic (M.take (i + 1) ++ D.drop (i + 1)) := by
        rw [em, ed, ic_append, ic_cons]
        have e4 : i = (ic (M.take i)).length := by rw [ic_length, hlt]
        conv => lhs; arg 2; rw [e4]
        rw [set_mid, ← ic_cons, ← ic_append, List.append_assoc]
        rfl
      rw [hr, Int.toNat_natCast, hset]
      exact evp (by omega) (evp (by omega) (evp (by omega) (evp (by omega) (evp (by omega) hn))))
theorem dgMirrored_ev (D : List Nat) (hD : D.length ≤ 100000) : Ev (fun k => spec_dgMirrored.f k (ic D)) (ic (mirL D.length (D.take ((D.length + 1) / 2)))) := by
  obtain ⟨w, hw⟩ : ∃ w, D.length = w := ⟨_, rfl⟩
  obtain ⟨h, hh⟩ : ∃ h, h = (w + 1) / 2 := ⟨_, rfl⟩
  rw [hw, ← hh]
  have hlF : (D.take h).length = h := by rw [List.length_take]; omega
  have hlM : (mirL w (D.take h)).length = w := mirL_length (by rw [hlF, hh])
  have hm : mirL w (D.take h) = D.take h ++ (D.take (w - h)).reverse := by
    unfold mirL
    rw [hlF, List.take_take, show min (w - h) h = w - h by omega]
  unfold spec_dgMirrored.f
  rw [l1Own_ev _ (by rw [ic_length]; omega)]
  simp only [Option.bind_some, ic_length, hw]
  have hloop := dgMirrored_loop D (mirL w (D.take h)) w h hw hlM (by omega) hh (fun i hi h1 => by
    simp only [hm]
    rw [List.getElem_append_left (by omega), List.getElem_take]) (fun i hi h1 => by
    simp only [hm]
    rw [List.getElem_append_right (by omega), List.getElem_reverse, List.getElem_take]
    congr 1
    simp only [List.length_take]
    omega) w 0 (by omega)
  simpa using hloop
theorem compare_loop (b : Nat) (hb : 2 ≤ b) (post : List Nat) : ∀ (pre post' : List Nat), post'.length = post.length → (pre ++ post).length ≤ 1000000000000 → (∀ d ∈ post, d < b) → (∀ d ∈ post', d < b) →
    ∃ c : Int, (c < 0 ↔ val b 0 post < val b 0 post') ∧ Ev (fun k => slices_Compare_int_int.l0 k (ic (pre ++ post)) (ic (pre ++ post')) (ic (pre ++ post)) ((pre ++ post).length : Int) (pre.length : Int)) c := by
  induction post with
  | nil =>
    intro pre post' hl h _ _
    obtain rfl : post' = [] := List.eq_nil_of_length_eq_zero hl
    refine ⟨0, by simp, evs (fun k => by rw [slices_Compare_int_int.l0]) ?_⟩
    exact evn (by simp) (evn (by simp) (Ev.now _))
  | cons x post ih =>
    intro pre post' hl h hd hd'
    obtain ⟨y, post', rfl⟩ : ∃ y z, post' = y :: z := by cases post' with
      | nil => simp at hl
      | cons y z => exact ⟨y, z, rfl⟩
    have hl2 : post'.length = post.length := by simpa using hl
    have hA : (pre ++ x :: post).length = pre.length + (post.length + 1) := by simp
    have hB : (pre ++ y :: post').length = pre.length + (post.length + 1) := by simp; omega
    have hv := val_lt0 (b := b) post (fun d h => hd d (by simp [h]))
    have hv' := val_lt0 (b := b) post' (fun d h => hd' d (by simp [h]))
    rw [hl2] at hv'
    have hc : cmp_Compare_int.f (x : Int) (y : Int) = some (if x < y then -1 else if x > y then 1 else 0) := by
      unfold cmp_Compare_int.f cmp_isNaN_int.f
      simp only [bne_self_eq_false, Option.bind_some]
      by_cases h1 : x < y
      · rw [if_neg (by simp), if_neg (by simp), if_pos (by omega), if_pos h1]
      · by_cases h2 : x > y
        · rw [if_neg (by simp), if_neg (by simp), if_neg (by omega), if_pos (by omega), if_neg h1, if_pos h2]
        · rw [if_neg (by simp), if_neg (by simp), if_neg (by omega), if_neg (by omega), if_neg h1, if_neg h2]
    rw [val_cons, val_cons, hl2]
    by_cases h1 : x < y
    · have h5 : (x + 1) * b ^ post.length ≤ y * b ^ post.length := Nat.mul_le_mul_right _ h1
      rw [Nat.add_mul, Nat.one_mul] at h5
      refine ⟨-1, by constructor <;> intro _ <;> omega, evs (fun k => by rw [slices_Compare_int_int.l0]) ?_⟩
      rw [ic_rd, ic_rd, hc, ic_length, ic_length, hA, hB, if_pos h1]
      simp only [Option.bind_some]
      exact evp (by omega) (evp (by omega) (evp (by omega) (evn (by omega) (evp (by omega) (evn (by omega) (Ev.now _))))))
    · by_cases h2 : x > y
      · have h5 : (y + 1) * b ^ post.length ≤ x * b ^ post.length := Nat.mul_le_mul_right _ h2
        rw [Nat.add_mul, Nat.one_mul] at h5
        refine ⟨1, by constructor <;> intro _ <;> omega, evs (fun k => by rw [slices_Compare_int_int.l0]) ?_⟩
        rw [ic_rd, ic_rd, hc, ic_length, ic_length, hA, hB, if_neg h1, if_pos h2]
        simp only [Option.bind_some]
        exact evp (by omega) (evp (by omega) (evp (by omega) (evn (by omega) (evp (by omega) (evn (by omega) (Ev.now _))))))
      · obtain rfl : x = y := by omega
        obtain ⟨c, h3, h4⟩ := ih (pre ++ [x]) post' hl2 (by simp at h ⊢; omega) (fun d h => hd d (by simp [h])) (fun d h => hd' d (by simp [h]))
        refine ⟨c, by rw [h3]; omega, evs (fun k => by rw [slices_Compare_int_int.l0]) ?_⟩
        rw [List.append_assoc, List.singleton_append, List.append_assoc, List.singleton_append, hA] at h4
        have e3 : (((pre ++ [x]).length : Nat) : Int) = (pre.length : Int) + 1 := by simp
        rw [e3] at h4
        rw [ic_rd, ic_rd, hc, ic_length, ic_length, hA, hB, if_neg h1, if_neg h2, w64 (x := (pre.length : Int) + 1) (by omega) (by omega)]
        simp only [Option.bind_some]
        exact evp (by omega) (evp (by omega) (evp (by omega) (evn (by omega) (evp (by omega) (evp trivial h4)))))
theorem compare_ev (b : Nat) (hb : 2 ≤ b) (x y : List Nat) (hl : y.length = x.length) (h : x.length ≤ 1000000) (hx : ∀ d ∈ x, d < b) (hy : ∀ d ∈ y, d < b) : ∃ c : Int, (c < 0 ↔ val b 0 x < val b 0 y) ∧ Ev (fun k => slices_Compare_int_int.f k (ic x) (ic y)) c := by
  obtain ⟨c, h1, h2⟩ := compare_loop b hb x [] y hl (by simpa using (by omega : x.length ≤ 1000000000000)) hx hy
  refine ⟨c, h1, ?_⟩
  unfold slices_Compare_int_int.f
  rw [ic_length]
  simpa using h2

theorem impl_digitSum_loop (post : List Nat) : ∀ (pre : List Nat) (a : Nat), (pre ++ post).length ≤ 1000000000000 → a + lsum post ≤ 1000000000000000000 →
    Ev (fun k => impl_digitSum.l0 k (a : Int) (ic (pre ++ post)) ((pre ++ post).length : Int) (pre.length : Int)) ((a + lsum post : Nat) : Int) := by
  induction post with
  | nil =>
    intro pre a h1 h2
    refine evs (fun k => by rw [impl_digitSum.l0]) ?_
    exact evn (by simp) (evr (by simp [lsum]))
  | cons d post ih =>
    intro pre a h1 h2
    simp only [lsum] at h2
    have hl : (pre ++ d :: post).length = pre.length + (post.length + 1) := by simp
    have h3 := ih (pre ++ [d]) (a + d) (by simp at h1 ⊢; omega) (by omega)
    rw [List.append_assoc, List.singleton_append] at h3
    refine evs (fun k => by rw [impl_digitSum.l0]) ?_
    rw [ic_rd, ic_length, hl, w64 (x := (a : Int) + (d : Int)) (by omega) (by omega), w64 (x := (pre.length : Int) + 1) (by omega) (by omega)]
    refine evp (by omega) (evp (by omega) (evp (by omega) ?_))
    rw [hl] at h3
    have e1 : (((pre ++ [d]).length : Nat) : Int) = (pre.length : Int) + 1 := by simp
    have e2 : ((a + d : Nat) : Int) = (a : Int) + (d : Int) := by omega
    rw [e1, e2] at h3
    have e3 : a + lsum (d :: post) = a + d + lsum post := by simp only [lsum]; omega
    rw [e3]
    exact h3
theorem impl_digitSum_all (l : List Nat) (h1 : l.length ≤ 1000000000000) (h2 : lsum l ≤ 1000000000000000000) : Ev (fun k => impl_digitSum.l0 k 0 (ic l) ((ic l).length : Int) 0) ((lsum l : Nat) : Int) := by
  have h := impl_digitSum_loop l [] 0 (by simpa using h1) (by omega)
  rw [ic_length]
  simpa using h

theorem low_byte (x : Int) : 0 ≤ Go.bits .and .u64 ((IntKind.u64.wrap x) / 1099511627776) 255 ∧ Go.bits .and .u64 ((IntKind.u64.wrap x) / 1099511627776) 255 ≤ 255 := by
  have h0 : 0 ≤ IntKind.u64.wrap x ∧ IntKind.u64.wrap x < 18446744073709551616 := by rw [IntKind.wrap_u64]; omega
  obtain ⟨y, hy⟩ := Int.eq_ofNat_of_zero_le (show 0 ≤ IntKind.u64.wrap x / 1099511627776 by omega)
  rw [hy]
  have h1 := bits_and_u64_nat y 255 (by omega) (by omega)
  have e : y &&& 255 = y % 256 := Nat.and_two_pow_sub_one_eq_mod y 8
  rw [e] at h1
  rw [show ((255 : Int)) = ((255 : Nat) : Int) from rfl, h1]
  omega
theorem next_ok (l : List Int) (hl : ∀ x ∈ l, 0 ≤ x ∧ x ≤ 255) (p s : Int) (h0 : 0 ≤ p) (h1 : p ≤ 1000000000000) :
    ∃ v s' : Int, spec_l1Cur_next.f l p s = some (v, p + 1, s') ∧ 0 ≤ v ∧ v ≤ 255 := by
  unfold spec_l1Cur_next.f
  rw [w64 (x := p + 1) (by omega) (by omega)]
  by_cases hp : p < (l.length : Int)
  · have hm := hl _ (rd_mem l p h0 hp)
    rw [if_pos hp, if_pos h0]
    by_cases hq : p + 1 ≤ (l.length : Int)
    · rw [if_pos hq]
      refine ⟨_, _, rfl, ?_⟩
      rw [w64 (by omega) (by omega)]
      exact hm
    · omega
  · rw [if_neg hp]
    by_cases hq : p + 1 ≤ (l.length : Int)
    · omega
    · rw [if_neg hq]
      refine ⟨_, _, rfl, ?_⟩
      have h := low_byte (IntKind.u64.wrap (IntKind.u64.wrap (s * 6364136223846793005)) + 1442695040888963407)
      rw [w64 (by omega) (by omega)]
      exact h
theorem pick_ok (l : List Int) (hl : ∀ x ∈ l, 0 ≤ x ∧ x ≤ 255) (p s n : Int) (h0 : 0 ≤ p) (h1 : p ≤ 999999999990) (hn : n ≤ 1000000) :
    ∃ v p' s' : Int, spec_l1Cur_pick.f l p s n = some (v, p', s') ∧ 0 ≤ v ∧ v ≤ 1000000 ∧ (v = 0 ∨ v < n) ∧ p ≤ p' ∧ p' ≤ p + 2 := by
  unfold spec_l1Cur_pick.f
  by_cases h : n ≤ 1
  · rw [if_pos h]
    exact ⟨0, p, s, rfl, by omega, by omega, by omega, by omega, by omega⟩
  · rw [if_neg h]
    obtain ⟨v, s1, e1, h2, h3⟩ := next_ok l hl p s h0 (by omega)
    rw [e1]
    simp only [Option.bind_some]
    by_cases h4 : n > 200
    · rw [if_pos h4]
      obtain ⟨v2, s2, e2, h5, h6⟩ := next_ok l hl (p + 1) s1 (by omega) (by omega)
      rw [e2]
      simp only [Option.bind_some]
      rw [if_neg (by omega), w64 (x := v * 256) (by omega) (by omega), w64 (by omega) (by omega)]
      have h7 := Int.tmod_nonneg n (show 0 ≤ v * 256 + v2 by omega)
      have h8 := Int.tmod_lt_of_pos (v * 256 + v2) (show 0 < n by omega)
      exact ⟨_, _, _, rfl, h7, by omega, Or.inr h8, by omega, by omega⟩
    · rw [if_neg h4, if_neg (by omega)]
      have h7 := Int.tmod_nonneg n (show 0 ≤ v by omega)
      have h8 := Int.tmod_lt_of_pos v (show 0 < n by omega)
      exact ⟨_, _, _, rfl, h7, by omega, Or.inr h8, by omega, by omega⟩
theorem among_ok (l : List Int) (hl : ∀ x ∈ l, 0 ≤ x ∧ x ≤ 255) (p s : Int) (m : List Int) (hm : m ≠ []) (hm2 : m.length ≤ 1000000) (h0 : 0 ≤ p) (h1 : p ≤ 999999999990) :
    ∃ v p' s' : Int, spec_l1Cur_among.f l p s m = some (v, p', s') ∧ v ∈ m ∧ p ≤ p' ∧ p' ≤ p + 2 := by
  unfold spec_l1Cur_among.f
  have hpos := List.length_pos_iff.2 hm
  obtain ⟨v, p', s', e1, h2, h3, h4, h5, h6⟩ := pick_ok l hl p s m.length h0 h1 (by omega)
  rw [e1]
  simp only [Option.bind_some]
  rw [if_pos h2, if_pos (by omega)]
  exact ⟨_, _, _, rfl, rd_mem m v h2 (by omega), h5, h6⟩

theorem base_ok (l : List Int) (hl : ∀ x ∈ l, 0 ≤ x ∧ x ≤ 255) (p s : Int) (h0 : 0 ≤ p) (h1 : p ≤ 999999999990) : ∃ v p' s' : Int, spec_l1Cur_base.f l p s = some (v, p', s') ∧ p ≤ p' ∧ p' ≤ p + 2 := by
  unfold spec_l1Cur_base.f
  obtain ⟨v, p', s', e, _, h2, h3⟩ := among_ok l hl p s [10, 10, 10, 2, 3, 5, 7, 16, 12, 10, 10, 16, 1, 17, 0] (by simp) (by simp) h0 h1
  rw [e]
  exact ⟨_, _, _, rfl, h2, h3⟩

theorem one_ok (l : List Int) (hl : ∀ x ∈ l, 0 ≤ x ∧ x ≤ 255) (p s n : Int) (h0 : 0 ≤ p) (h1 : p ≤ 999999999990) (hn : n ≤ 1000000) : ∃ (v : Bool) (p' s' : Int), spec_l1Cur_one.f l p s n = some (v, p', s') ∧ p ≤ p' ∧ p' ≤ p + 2 := by
  obtain ⟨v1, p1, s1, e1, a1, b1, c1, d1, f1⟩ := pick_ok l hl p s n h0 h1 hn
  unfold spec_l1Cur_one.f
  rw [e1]
  exact ⟨_, _, _, rfl, d1, f1⟩
theorem sureNumber_loop (l : List Int) (hl : ∀ x ∈ l, 0 ≤ x ∧ x ≤ 255) (d : Nat) : ∀ x p s : Int, 0 ≤ p → p + 2 * (d : Int) ≤ 100000000 → ∃ v p' s' : Int, Ev (fun k => spec_l1Cur_sureNumber.l0 k x (d : Int) l p s) (v, p', s') ∧ p ≤ p' ∧ p' ≤ p + 2 * (d : Int) := by
  induction d with
  | zero =>
    intro x p s h0 h1
    exact ⟨x, p, s, evs (fun k => by rw [spec_l1Cur_sureNumber.l0]) (evn (by omega) (Ev.now _)), by omega, by omega⟩
  | succ d ih =>
    intro x p s h0 h1
    obtain ⟨v, p1, s1, e1, _, _, _, h2, h3⟩ := pick_ok l hl p s 10 h0 (by omega) (by omega)
    obtain ⟨v', p2, s2, e2, h4, h5⟩ := ih (wrap64 (wrap64 (x * 10) + v)) p1 s1 (by omega) (by omega)
    refine ⟨v', p2, s2, evs (fun k => by rw [spec_l1Cur_sureNumber.l0]) (evp (by omega) ?_), by omega, by omega⟩
    simp only [e1, Option.bind_some]
    rw [w64 (x := (((d + 1 : Nat)) : Int) - 1) (by omega) (by omega), show (((d + 1 : Nat)) : Int) - 1 = (d : Int) by omega]
    exact e2
theorem sureNumber_ok (l : List Int) (hl : ∀ x ∈ l, 0 ≤ x ∧ x ≤ 255) (p s : Int) (h0 : 0 ≤ p) (h1 : p ≤ 90000000) : ∃ v p' s' : Int, Ev (fun k => spec_l1Cur_sureNumber.f k l p s) (v, p', s') ∧ p ≤ p' ∧ p' ≤ p + 30 := by
  obtain ⟨v1, p1, s1, e1, a1, b1, c1, d1, f1⟩ := pick_ok l hl p s 8 (by omega) (by omega) (by omega)
  simp only [spec_l1Cur_sureNumber.f, e1, Option.bind_some]
  by_cases h0 : v1 = 0
  · obtain ⟨v2, p2, s2, e2, a2, b2, c2, d2, f2⟩ := pick_ok l hl p1 s1 256 (by omega) (by omega) (by omega)
    refine ⟨v2, p2, s2, evp h0 ?_, by omega, by omega⟩
    simp only [e2, Option.bind_some]
    exact Ev.now _
  · by_cases h1 : v1 = 1
    · obtain ⟨v, p2, s2, e2, _, h2, h3⟩ := among_ok l hl p1 s1 [0, 1, 9, 10, 99, 100, 153, 370, 1000, 6174, 9999, 999999999999, 1000000000000] (by simp) (by simp) (by omega) (by omega)
      refine ⟨v, p2, s2, evn h0 (evp h1 ?_), by omega, by omega⟩
      simp only [e2, Option.bind_some]
      exact Ev.now _
    · by_cases h2 : v1 = 2
      · obtain ⟨v2, p2, s2, e2, a2, b2, c2, d2, f2⟩ := pick_ok l hl p1 s1 256 (by omega) (by omega) (by omega)
        obtain ⟨v3, p3, s3, e3, a3, b3, c3, d3, f3⟩ := pick_ok l hl p2 s2 256 (by omega) (by omega) (by omega)
        refine ⟨wrap64 (v2 * v3), p3, s3, evn h0 (evn h1 (evp h2 ?_)), by omega, by omega⟩
        simp only [e2, e3, Option.bind_some]
        exact Ev.now _
      · obtain ⟨v2, p2, s2, e2, a2, b2, c2, d2, f2⟩ := pick_ok l hl p1 s1 11 (by omega) (by omega) (by omega)
        obtain ⟨d, rfl⟩ := natOf (a := v2) a2
        obtain ⟨v3, p3, s3, e3, h4, h5⟩ := sureNumber_loop l hl (1 + d) 0 p2 s2 (by omega) (by omega)
        refine ⟨v3, p3, s3, evn h0 (evn h1 (evn h2 ?_)), by omega, by omega⟩
        simp only [e2, Option.bind_some]
        rw [w64 (x := (1 : Int) + (d : Int)) (by omega) (by omega)]
        simpa using e3
theorem number_ok (l : List Int) (hl : ∀ x ∈ l, 0 ≤ x ∧ x ≤ 255) (p s : Int) (h0 : 0 ≤ p) (h1 : p ≤ 80000000) : ∃ v p' s' : Int, Ev (fun k => spec_l1Cur_number.f k l p s) (v, p', s') ∧ p ≤ p' ∧ p' ≤ p + 40 := by
  obtain ⟨v1, p1, s1, e1, d1, f1⟩ := one_ok l hl p s 20 (by omega) (by omega) (by omega)
  simp only [spec_l1Cur_number.f, e1, Option.bind_some]
  by_cases h0 : v1 = true
  · obtain ⟨v, p2, s2, e2, _, h2, h3⟩ := among_ok l hl p1 s1 [(-1), 1000000000001, 4611686018427387904, (-4611686018427387904)] (by simp) (by simp) (by omega) (by omega)
    refine ⟨v, p2, s2, evp h0 ?_, by omega, by omega⟩
    simp only [e2, Option.bind_some]
    exact Ev.now _
  · obtain ⟨v, p2, s2, e2, h2, h3⟩ := sureNumber_ok l hl p1 s1 (by omega) (by omega)
    exact ⟨v, p2, s2, evn h0 (evb e2 (Ev.now _)), by omega, by omega⟩

theorem impl_digitSum_ev (b n : Nat) (hb : 2 ≤ b) (hn : n ≤ 1000000000000) : Ev (fun k => impl_digitSum.f k (n : Int) (b : Int)) ((dsum b n : Nat) : Int) := by
  have hl := dgl_len hb n hn
  have hs := dsum_le hb n
  unfold dsum at hs
  exact evb (impl_digitsOf_ev b n hb hn) (impl_digitSum_all (dgl b n) (by omega) (by omega))
theorem sum_impl (b n : Nat) (hb : 2 ≤ b) (hb2 : b ≤ 16) (hn : n ≤ 1000000000000) : Ev (fun k => impl_DigitSum.f k (n : Int) (b : Int)) ((dsum b n : Int), true) := by
  simp only [impl_DigitSum.f, impl_isNumber_eq, Option.bind_some, decide_eq_true_eq]
  exact evp (by omega) (evb (impl_digitSum_ev b n hb hn) (Ev.now _))
theorem front (b N : Nat) (hb : 2 ≤ b) : ∃ (w h : Nat) (F : List Nat), (dgl b N).length = w ∧ h = (w + 1) / 2 ∧ F = (dgl b N).take h ∧ 1 ≤ w ∧ F.length = (w + 1) / 2 ∧ (∀ d ∈ F, d < b) ∧ val b 0 F * b ^ (w - (w + 1) / 2) ≤ N ∧
    N + 1 ≤ (val b 0 F + 1) * b ^ (w - (w + 1) / 2) ∧ b ^ (w - 1) ≤ N + 1 ∧ (1 ≤ N → b ^ (w - 1) ≤ N) ∧ b ^ (h - 1) ≤ val b 0 F + 1 ∧ val b 0 F + 1 ≤ b ^ h := by
  obtain ⟨w, hw⟩ : ∃ w, (dgl b N).length = w := ⟨_, rfl⟩
  have h1 := dgl_pos b N hb
  rw [hw] at h1
  have hlt := dgl_lt hb N
  have hF : ((dgl b N).take ((w + 1) / 2)).length = (w + 1) / 2 := by rw [List.length_take]; omega
  have hd : ∀ d ∈ (dgl b N).take ((w + 1) / 2), d < b := fun d h => hlt d (List.mem_of_mem_take h)
  have hd2 : ∀ d ∈ (dgl b N).drop ((w + 1) / 2), d < b := fun d h => hlt d (List.mem_of_mem_drop h)
  have hv : val b 0 ((dgl b N).take ((w + 1) / 2)) * b ^ (w - (w + 1) / 2) + val b 0 ((dgl b N).drop ((w + 1) / 2)) = N := by
    have h2 := val_app b ((dgl b N).take ((w + 1) / 2)) ((dgl b N).drop ((w + 1) / 2))
    rw [List.take_append_drop, dgl_val hb, List.length_drop, hw] at h2
    exact h2.symm
  have hr := val_lt0 _ hd2
  rw [List.length_drop, hw] at hr
  have hup := val_lt0 _ hd
  rw [hF] at hup
  have hlow : 1 ≤ N → b ^ (w - 1) ≤ N := fun h => by
    have := dgl_lower hb N h
    rw [hw] at this
    exact this
  have hlow1 : b ^ (w - 1) ≤ N + 1 := by
    by_cases h : 1 ≤ N
    · have := hlow h; omega
    · have h0 : N = 0 := by omega
      subst h0
      have : w = 1 := by rw [← hw]; rfl
      subst this
      simp
  refine ⟨w, (w + 1) / 2, _, hw, rfl, rfl, h1, hF, hd, by omega, by rw [Nat.add_mul, Nat.one_mul]; omega, hlow1, hlow, ?_, by omega⟩
  have hE := half_E h1 b
  have hEpos : 0 < b ^ (w - (w + 1) / 2) := Nat.pow_pos (by omega)
  have h3 : b ^ ((w + 1) / 2 - 1) * b ^ (w - (w + 1) / 2) ≤ (val b 0 ((dgl b N).take ((w + 1) / 2)) + 1) * b ^ (w - (w + 1) / 2) := by
    rw [← hE, Nat.add_mul, Nat.one_mul]
    omega
  exact Nat.le_of_mul_le_mul_right h3 hEpos
theorem wrap_succ (n : Nat) (h : n ≤ 1000000000000) : wrap64 ((n : Int) + 1) = ((n + 1 : Nat) : Int) := by
  rw [w64 (by omega) (by omega)]
  omega
theorem half_w (w : Nat) (hw : w ≤ 1000) : wrap64 (Int.tdiv (wrap64 ((w : Int) + 1)) 2) = (((w + 1) / 2 : Nat) : Int) := by
  rw [w64 (x := (w : Int) + 1) (by omega) (by omega), show (w : Int) + 1 = ((w + 1 : Nat) : Int) by omega, show ((2 : Int)) = ((2 : Nat) : Int) from rfl, tdiv_cast, w64n _ (by omega)]
theorem ic_take (l : List Nat) (k : Nat) : (ic l).take k = ic (l.take k) := by simp [ic, List.map_take]
theorem next_impl (b n : Nat) (hb : 2 ≤ b) (hb2 : b ≤ 16) (hn : n ≤ 1000000000000) : ∃ m, NextPal b (n + 1) m ∧ Ev (fun k => impl_NextPalindrome.f k (n : Int) (b : Int)) (told m) := by
  obtain ⟨w, h, F, hw, hh, hFe, w1, hF, hd, f1, f2, f3, f4, f5, f6⟩ := front b (n + 1) hb
  have hlen := dgl_len1 hb (n + 1) (by omega)
  rw [hw] at hlen
  have hlt := dgl_lt hb (n + 1)
  have hml := mirL_length hF
  have hask : impl_isNumber.f (n : Int) (b : Int) = some true := by
    rw [impl_isNumber_eq, decide_eq_true (by omega)]
  obtain ⟨c, hc, hcev⟩ := compare_ev b hb (mirL w F) (dgl b (n + 1)) (by rw [hw, hml]) (by rw [hml]; omega) (mirL_lt hd) hlt
  rw [dgl_val hb] at hc
  have hmir := impl_mirrored_ev w F (by omega) hF
  have hle : (ic (dgl b (n + 1))).length = w := by rw [ic_length, hw]
  by_cases h0 : val b 0 (mirL w F) < n + 1
  · obtain ⟨r, m1, m2⟩ := mirL_val b w F hF hd
    have hEpos : 0 < b ^ (w - (w + 1) / 2) := Nat.pow_pos (by omega)
    have hvF : val b 0 F ≤ 1000000000000 := by
      have : val b 0 F * 1 ≤ val b 0 F * b ^ (w - (w + 1) / 2) := Nat.mul_le_mul_left _ hEpos
      omega
    have hne : val b 0 F + 1 ≠ b ^ h := by
      intro he
      have h2 := val_repl hb h
      have h3 : F = List.replicate h (b - 1) := val_inj F _ (by rw [hF, List.length_replicate, hh]) hd (fun d h => by rw [List.mem_replicate] at h; omega) (by omega)
      have h4 : mirL w F = List.replicate w (b - 1) := by
        unfold mirL
        rw [hF, ← hh, h3, List.take_replicate, List.reverse_replicate, List.replicate_append_replicate]
        congr 1
        omega
      have h5 := val_repl hb w
      have h6 := dgl_upper hb (n + 1)
      rw [hw] at h6
      rw [h4] at h0
      omega
    obtain ⟨G, hG⟩ : ∃ G, G = dgl b (val b 0 F + 1) := ⟨_, rfl⟩
    have hGl : G.length = (w + 1) / 2 := by
      rw [hG, ← hh]
      exact dgl_length hb _ h (by omega) f5 (by omega)
    have hGd : ∀ d ∈ G, d < b := by rw [hG]; exact dgl_lt hb _
    have hGv : val b 0 G = val b 0 F + 1 := by rw [hG, dgl_val hb]
    have hval := impl_value_ev b hb hb2 F hd (by omega)
    rw [if_pos hvF] at hval
    have hdig := impl_digitsOf_ev1 b (val b 0 F + 1) hb (by omega)
    rw [← hG] at hdig
    have hmir2 := impl_mirrored_ev w G (by omega) hGl
    have hval2 := impl_value_ev b hb hb2 (mirL w G) (mirL_lt hGd) (by rw [mirL_length hGl]; omega)
    refine ⟨val b 0 (mirL w G), next_after hb w (n + 1) F G w1 hF hd hGl hGd hGv (f4 (by omega)) f1 (by omega) h0, ?_⟩
    unfold impl_NextPalindrome.f
    rw [wrap_succ n (by omega)]
    refine evc hask (evp rfl (evb (impl_digitsOf_ev1 b (n + 1) hb (by omega)) ?_))
    rw [hle, half_w w (by omega), ← hh, Int.toNat_natCast, ic_take, ← hFe]
    refine evp (by omega) (evp (by omega) (evc rfl (evb hmir (evb hcev (evp (hc.2 h0) (evb hval ?_))))))
    rw [wrap_succ _ (by omega)]
    refine evb hdig (evb hmir2 (evb hval2 ?_))
    rw [impl_told_value]
    exact Ev.now _
  · have hval2 := impl_value_ev b hb hb2 (mirL w F) (mirL_lt hd) (by rw [hml]; omega)
    refine ⟨val b 0 (mirL w F), next_front hb w (n + 1) F w1 hF hd (f4 (by omega)) f1 (by omega), ?_⟩
    unfold impl_NextPalindrome.f
    rw [wrap_succ n (by omega)]
    refine evc hask (evp rfl (evb (impl_digitsOf_ev1 b (n + 1) hb (by omega)) ?_))
    rw [hle, half_w w (by omega), ← hh, Int.toNat_natCast, ic_take, ← hFe]
    refine evp (by omega) (evp (by omega) (evc rfl (evb hmir (evb hcev (evn (fun hx => h0 (hc.1 hx)) (evb hval2 ?_))))))
    rw [impl_told_value]
    exact Ev.now _
theorem one_set (w : Nat) (hw : 1 ≤ w) : ((List.replicate (w + 1) (0 : Int)).set 0 1).set w 1 = ic (1 :: (List.replicate (w - 1) 0 ++ [1])) := by
  obtain ⟨x, rfl⟩ : ∃ x, w = x + 1 := ⟨w - 1, by omega⟩
  have e : List.replicate (x + 1 + 1) (0 : Int) = 0 :: (List.replicate x 0 ++ [0]) := by rw [List.replicate_succ, List.replicate_succ']
  have e2 := set_mid (List.replicate x (0 : Int)) [] 0 1
  rw [List.length_replicate] at e2
  rw [e, List.set_cons_zero, List.set_cons_succ, e2]
  simp [ic]
theorem spec_j0_ev (b n : Nat) (hb : 2 ≤ b) (hb2 : b ≤ 16) (hn : n ≤ 1000000000000) (w h : Nat) (F : List Nat) (hw : (dgl b n).length = w) (hh : h = (w + 1) / 2) (hFe : F = (dgl b n).take h) (w1 : 1 ≤ w) (hF : F.length = (w + 1) / 2) (hd : ∀ d ∈ F, d < b) (hvF : val b 0 F ≤ n) (f5 : b ^ (h - 1) ≤ val b 0 F + 1) (f6 : val b 0 F + 1 ≤ b ^ h) (x : Int) :
    ∃ m, Ev (fun k => spec_NextPalindrome.j0 k (b : Int) (ic (dgl b n)) x false) (told m) ∧ ((val b 0 F + 1 = b ^ h ∧ m = b ^ w + 1) ∨ ∃ G : List Nat, G.length = (w + 1) / 2 ∧ (∀ d ∈ G, d < b) ∧ val b 0 G = val b 0 F + 1 ∧ m = val b 0 (mirL w G)) := by
  have hlen := dgl_len hb n hn
  rw [hw] at hlen
  have hle : (ic (dgl b n)).length = w := by rw [ic_length, hw]
  obtain ⟨G, hG⟩ : ∃ G, G = dgl b (val b 0 F + 1) := ⟨_, rfl⟩
  have hGd : ∀ d ∈ G, d < b := by rw [hG]; exact dgl_lt hb _
  have hGv : val b 0 G = val b 0 F + 1 := by rw [hG, dgl_val hb]
  have hfrom := spec_dgFrom_ev b hb hb2 F hd (by omega)
  have ht : told (val b 0 F) = ((val b 0 F : Int), true) := by unfold told; rw [if_pos (by omega)]
  rw [ht] at hfrom
  have hdig := spec_dgOf_ev1 b (val b 0 F + 1) hb (by omega)
  rw [← hG] at hdig
  by_cases hm : val b 0 F + 1 = b ^ h
  · have hGl : G.length = h + 1 := by
      rw [hG]
      refine dgl_length hb _ (h + 1) (by omega) (by rw [Nat.add_sub_cancel]; omega) ?_
      rw [Nat.pow_succ]
      have hp : 0 < b ^ h := Nat.pow_pos (by omega)
      have : b ^ h * 2 ≤ b ^ h * b := Nat.mul_le_mul_left _ hb
      omega
    have hone : ∀ d ∈ (1 :: (List.replicate (w - 1) 0 ++ [1])), d < b := by
      intro d h
      simp only [List.mem_cons, List.mem_append, List.mem_replicate, List.not_mem_nil, or_false] at h
      omega
    have hlen2 : (1 :: (List.replicate (w - 1) 0 ++ [1])).length = w + 1 := by simp; omega
    have hf2 := spec_dgFrom_ev b hb hb2 _ hone (by omega)
    rw [val_one b w w1] at hf2
    refine ⟨b ^ w + 1, ?_, Or.inl ⟨hm, rfl⟩⟩
    refine evs (fun k => by rw [spec_NextPalindrome.j0]) ?_
    rw [hle, half_w w (by omega), ← hh, Int.toNat_natCast, ic_take, ← hFe]
    refine evn (by simp) (evp (by omega) (evp (by omega) (evb hfrom ?_)))
    rw [wrap_succ _ (by omega)]
    refine evb hdig (evp (by rw [ic_length]; omega) ?_)
    rw [w64 (x := (w : Int) + 1) (by omega) (by omega), show ((w : Int) + 1).toNat = w + 1 by omega, show ((0 : Int)).toNat = 0 from rfl, Int.toNat_natCast]
    simp only [Option.bind_some]
    rw [one_set w w1, List.length_replicate]
    exact evp (by omega) (evp (by omega) (evp (by omega) (evp (by omega) (evp (by omega) (evb hf2 (Ev.now _))))))
  · have hGl : G.length = h := by
      rw [hG]
      exact dgl_length hb _ h (by omega) f5 (by omega)
    have hlr : (G ++ (dgl b n).drop h).length = w := by rw [List.length_append, List.length_drop, hw, hGl]; omega
    have hm2 := dgMirrored_ev (G ++ (dgl b n).drop h) (by omega)
    rw [hlr, ← hh, List.take_left' hGl] at hm2
    have hf2 := spec_dgFrom_ev b hb hb2 (mirL w G) (mirL_lt hGd) (by rw [mirL_length (by omega)]; omega)
    refine ⟨val b 0 (mirL w G), ?_, Or.inr ⟨G, by omega, hGd, hGv, rfl⟩⟩
    refine evs (fun k => by rw [spec_NextPalindrome.j0]) ?_
    rw [hle, half_w w (by omega), ← hh, Int.toNat_natCast, ic_take, ← hFe]
    refine evn (by simp) (evp (by omega) (evp (by omega) (evb hfrom ?_)))
    rw [wrap_succ _ (by omega)]
    refine evb hdig (evn (by rw [ic_length]; omega) ?_)
    simp only [Option.bind_some]
    rw [ic_drop]
    refine evp (by rw [ic_length, ic_length, List.length_drop]; omega) ?_
    rw [← ic_append]
    exact evb hm2 (evb hf2 (Ev.now _))
theorem next_spec (b n : Nat) (hb : 2 ≤ b) (hb2 : b ≤ 16) (hn : n ≤ 1000000000000) : ∃ m, NextPal b (n + 1) m ∧ Ev (fun k => spec_NextPalindrome.f k (n : Int) (b : Int)) (told m) := by
  obtain ⟨w, h, F, hw, hh, hFe, w1, hF, hd, f1, f2, f3, f4, f5, f6⟩ := front b n hb
  have hlen := dgl_len hb n hn
  rw [hw] at hlen
  have hml := mirL_length hF
  have hEpos : 0 < b ^ (w - (w + 1) / 2) := Nat.pow_pos (by omega)
  have hvF : val b 0 F ≤ n := by
    have : val b 0 F * 1 ≤ val b 0 F * b ^ (w - (w + 1) / 2) := Nat.mul_le_mul_left _ hEpos
    omega
  have hm := dgMirrored_ev (dgl b n) (by omega)
  rw [hw, ← hh, ← hFe] at hm
  have hf := spec_dgFrom_ev b hb hb2 (mirL w F) (mirL_lt hd) (by rw [hml]; omega)
  have hask : spec_dgAsked.f (n : Int) (b : Int) = some true := by
    rw [spec_dgAsked_eq, decide_eq_true (by omega)]
  unfold spec_NextPalindrome.f
  by_cases h0 : n + 1 ≤ val b 0 (mirL w F)
  · refine ⟨val b 0 (mirL w F), next_front hb w (n + 1) F w1 hF hd f3 (by omega) h0, ?_⟩
    refine evc hask (evp rfl (evb (spec_dgOf_ev b n hb hn) (evb hm (evb hf ?_))))
    by_cases hc : val b 0 (mirL w F) ≤ 1000000000000
    · have ht : told (val b 0 (mirL w F)) = ((val b 0 (mirL w F) : Int), true) := by unfold told; rw [if_pos hc]
      rw [ht]
      refine evp rfl ?_
      refine evs (fun k => by rw [spec_NextPalindrome.j0]) ?_
      exact evp (decide_eq_true (by simp only; omega)) (Ev.now _)
    · obtain ⟨m, g1, g2⟩ := spec_j0_ev b n hb hb2 hn w h F hw hh hFe w1 hF hd hvF f5 f6 0
      have hbig : val b 0 (mirL w F) < m := by
        rcases g2 with ⟨_, rfl⟩ | ⟨G, k1, k2, k3, rfl⟩
        · have := val_lt0 (mirL w F) (mirL_lt hd)
          rw [hml] at this
          omega
        · obtain ⟨r, m1, m2⟩ := mirL_val b w F hF hd
          obtain ⟨s, m3, m4⟩ := mirL_val b w G k1 k2
          rw [m1, m3, k3, Nat.add_mul, Nat.one_mul]
          omega
      have ht : told (val b 0 (mirL w F)) = (0, false) := by unfold told; rw [if_neg hc]
      have ht2 : told m = (0, false) := by unfold told; rw [if_neg (by omega)]
      rw [ht2] at g1
      rw [ht]
      exact evn (by simp) g1
  · obtain ⟨m, g1, g2⟩ := spec_j0_ev b n hb hb2 hn w h F hw hh hFe w1 hF hd hvF f5 f6 (val b 0 (mirL w F))
    refine ⟨m, ?_, ?_⟩
    · rcases g2 with ⟨k0, rfl⟩ | ⟨G, k1, k2, k3, rfl⟩
      · exact next_wide hb w (n + 1) F w1 hF hd (by rw [← hh]; exact k0) f3 (by omega) f2 (by omega)
      · exact next_after hb w (n + 1) F G w1 hF hd k1 k2 k3 f3 (by omega) f2 (by omega)
    · refine evc hask (evp rfl (evb (spec_dgOf_ev b n hb hn) (evb hm (evb hf ?_))))
      have ht : told (val b 0 (mirL w F)) = ((val b 0 (mirL w F) : Int), true) := by unfold told; rw [if_pos (by omega)]
      have hdec : decide ((val b 0 (mirL w F) : Int) > (n : Int)) = false := decide_eq_false (by omega)
      rw [ht]
      simp only [hdec]
      exact evp trivial g1
theorem drawNumberBase_ok (l : List Int) (hl : ∀ x ∈ l, 0 ≤ x ∧ x ≤ 255) : ∃ n b p s : Int, Ev (fun k => spec_l1Cur_number.f k l 0 0) (n, p, s) ∧ ∃ p2 s2 : Int, spec_l1Cur_base.f l p s = some (b, p2, s2) ∧ 0 ≤ p2 ∧ p2 ≤ 1000 := by
  obtain ⟨n, p, s, e1, h1, h2⟩ := number_ok l hl 0 0 (by omega) (by omega)
  obtain ⟨b, p2, s2, e2, h3, h4⟩ := base_ok l hl p s (by omega) (by omega)
  exact ⟨n, b, p, s, e1, p2, s2, e2, by omega, by omega⟩
theorem drawDigitsOf_ok (l : List Int) (hl : ∀ x ∈ l, 0 ≤ x ∧ x ≤ 255) : ∃ n b : Int, Ev (fun k => spec_DrawReverseNumber.f k l) (n, b) := by
  obtain ⟨n, b, p, s, e1, p2, s2, e2, _, _⟩ := drawNumberBase_ok l hl
  refine ⟨n, b, evb (a := (n, b)) (evb e1 ?_) (Ev.now _)⟩
  simp only [e2, Option.bind_some]
  exact Ev.now _
theorem drawPal_ok (l : List Int) (hl : ∀ x ∈ l, 0 ≤ x ∧ x ≤ 255) : ∃ n b : Int, Ev (fun k => spec_DrawNextPalindrome.f k l) (n, b) := by
  obtain ⟨n, b, p, s, e1, p2, s2, e2, h1, h2⟩ := drawNumberBase_ok l hl
  have key : ∃ n' b' : Int, Ev (fun k => spec_DrawIsPalindrome.f k l) (n', b') := by
    have no : Ev (fun k => spec_DrawIsPalindrome.j0 k n b false) (n, b) := by
      refine evs (fun k => by rw [spec_DrawIsPalindrome.j0]) ?_
      exact evn (by simp) (Ev.now _)
    unfold spec_DrawIsPalindrome.f
    by_cases h : (0 ≤ n ∧ n ≤ 1000000000000) ∧ 2 ≤ b ∧ b ≤ 16
    · obtain ⟨v, p3, s3, e3, _, _⟩ := one_ok l hl p2 s2 2 (by omega) (by omega) (by omega)
      cases v with
      | false =>
        refine ⟨n, b, evb e1 ?_⟩
        simp only [e2, e3, spec_dgAsked_eq, Option.bind_some, decide_eq_true_eq]
        exact evp h no
      | true =>
        obtain ⟨n, rfl⟩ := natOf (a := n) (by omega)
        obtain ⟨b, rfl⟩ := natOf (a := b) (by omega)
        have hb : 2 ≤ b := by omega
        have hlen := dgl_len hb n (by omega)
        have hm := dgMirrored_ev (dgl b n) (by omega)
        have hF : ((dgl b n).take (((dgl b n).length + 1) / 2)).length = ((dgl b n).length + 1) / 2 := by rw [List.length_take]; omega
        have hd : ∀ d ∈ (dgl b n).take (((dgl b n).length + 1) / 2), d < b := fun d h => dgl_lt hb n d (List.mem_of_mem_take h)
        have hf := spec_dgFrom_ev b hb (by omega) (mirL (dgl b n).length ((dgl b n).take (((dgl b n).length + 1) / 2))) (mirL_lt hd) (by rw [mirL_length hF]; omega)
        have hj : ∃ n' b' : Int, Ev (fun k => spec_DrawIsPalindrome.j0 k (n : Int) (b : Int) true) (n', b') := by
          obtain ⟨r, hr⟩ : ∃ r, told (val b 0 (mirL (dgl b n).length ((dgl b n).take (((dgl b n).length + 1) / 2)))) = r := ⟨_, rfl⟩
          rw [hr] at hf
          by_cases ht : r.2 = true
          · refine ⟨r.1, b, ?_⟩
            refine evs (fun k => by rw [spec_DrawIsPalindrome.j0]) ?_
            exact evp rfl (evb (spec_dgOf_ev b n hb (by omega)) (evb hm (evb hf (evp ht (Ev.now _)))))
          · refine ⟨n, b, ?_⟩
            refine evs (fun k => by rw [spec_DrawIsPalindrome.j0]) ?_
            exact evp rfl (evb (spec_dgOf_ev b n hb (by omega)) (evb hm (evb hf (evn ht (Ev.now _)))))
        obtain ⟨n', b', hj⟩ := hj
        refine ⟨n', b', evb e1 ?_⟩
        simp only [e2, e3, spec_dgAsked_eq, Option.bind_some, decide_eq_true_eq]
        exact evp h hj
    · refine ⟨n, b, evb e1 ?_⟩
      simp only [e2, spec_dgAsked_eq, Option.bind_some, decide_eq_true_eq]
      exact evn h no
  obtain ⟨n', b', h⟩ := key
  exact ⟨n', b', evb h (Ev.now _)⟩
theorem rev_lt {b : Nat} (hb : 2 ≤ b) (n : Nat) : ∀ d ∈ (dgl b n).reverse, d < b := fun d h => dgl_lt hb n d (List.mem_reverse.1 h)
theorem rev_impl (b n : Nat) (hb : 2 ≤ b) (hb2 : b ≤ 16) (hn : n ≤ 1000000000000) : Ev (fun k => impl_ReverseNumber.f k (n : Int) (b : Int)) (told (val b 0 (dgl b n).reverse)) := by
  have hl := dgl_len hb n hn
  simp only [impl_ReverseNumber.f, impl_isNumber_eq, Option.bind_some, decide_eq_true_eq]
  refine evp (by omega) (evb (impl_digitsOf_ev b n hb hn) (evb (reversed_ev (dgl b n) (by omega)) (evb (impl_value_ev b hb hb2 _ (rev_lt hb n) (by rw [List.length_reverse]; omega)) ?_)))
  rw [impl_told_value]
  exact Ev.now _
theorem rev_spec (b n : Nat) (hb : 2 ≤ b) (hb2 : b ≤ 16) (hn : n ≤ 1000000000000) : Ev (fun k => spec_ReverseNumber.f k (n : Int) (b : Int)) (told (val b 0 (dgl b n).reverse)) := by
  have hl := dgl_len hb n hn
  simp only [spec_ReverseNumber.f, spec_dgAsked_eq, Option.bind_some, decide_eq_true_eq]
  refine evp (by omega) (evb (spec_dgOf_ev b n hb hn) (evb (dgBack_ev (ic (dgl b n)) (by rw [ic_length]; omega)) ?_))
  rw [← ic_reverse]
  exact evb (spec_dgFrom_ev b hb hb2 _ (rev_lt hb n) (by rw [List.length_reverse]; omega)) (Ev.now _)
/-- Without a zero at the end the digits of the reversed number are the reversed ones. -/
theorem rev_digits {b : Nat} (hb : 2 ≤ b) (n : Nat) (hn : n % b ≠ 0) : dgl b (val b 0 (dgl b n).reverse) = (dgl b n).reverse := by
  have h0 : n ≠ 0 := fun h => by subst h; simp at hn
  have hl := dgl_pos b n hb
  have e : (dgl b n).reverse = n % b :: low b (n / b) := by
    unfold dgl
    rw [if_neg h0, List.reverse_reverse, low_succ hb (by omega)]
  refine dgl_of_val hb _ (by rw [List.length_reverse]; exact hl) (rev_lt hb n) ?_
  rw [e, val_cons, List.length_cons, Nat.add_sub_cancel]
  have : 1 * b ^ (low b (n / b)).length ≤ n % b * b ^ (low b (n / b)).length := Nat.mul_le_mul_right _ (by omega)
  omega
theorem lsum_reverse (l : List Nat) : lsum l.reverse = lsum l := by
  have happ : ∀ x y : List Nat, lsum (x ++ y) = lsum x + lsum y := by
    intro x y
    induction x with
    | nil => simp [lsum]
    | cons d x ih => simp only [List.cons_append, lsum, ih]; omega
  induction l with
  | nil => rfl
  | cons d l ih => rw [List.reverse_cons, happ, ih]; simp only [lsum]; omega
theorem j6_no (x y z : Int) : Ev (fun k => laws_FnPalindromes.j6 k x y z false) true := by
  refine evs (fun k => by rw [laws_FnPalindromes.j6]) ?_
  exact evn (by simp) (Ev.now _)
theorem j6_ok (b n : Nat) (hb : 2 ≤ b) (hb2 : b ≤ 16) (hn : n ≤ 1000000000000) (h0 : n % b ≠ 0) (m : Nat) (hm : m = val b 0 (dgl b n).reverse) (hm2 : m ≤ 1000000000000) : Ev (fun k => laws_FnPalindromes.j6 k (n : Int) (b : Int) (m : Int) true) true := by
  have hd := rev_digits hb n h0
  rw [← hm] at hd
  have hr := rev_impl b m hb hb2 hm2
  rw [hd, List.reverse_reverse, dgl_val hb] at hr
  have ht : told n = ((n : Int), true) := by unfold told; rw [if_pos hn]
  rw [ht] at hr
  have hs1 := sum_impl b m hb hb2 hm2
  have hs2 := sum_impl b n hb hb2 hn
  have hs : dsum b m = dsum b n := by unfold dsum; rw [hd, lsum_reverse]
  rw [hs] at hs1
  have hp : decide (pal b n) = ((m : Int) == (n : Int)) := by
    by_cases h : pal b n
    · have : m = n := by
        rw [hm, h, dgl_val hb]
      rw [decide_eq_true h, this]
      simp
    · have : m ≠ n := fun he => h (by unfold pal; rw [← hd, he])
      rw [decide_eq_false h]
      exact (beq_eq_false_iff_ne.2 (by omega)).symm
  refine evs (fun k => by rw [laws_FnPalindromes.j6]) ?_
  refine evp rfl (evb hr (evb hs1 (evb hs2 (evb (impl_isPal_ev b n hb hb2 hn) (evp rfl (evp rfl (evp rfl (evp rfl (evp rfl (evp rfl (evr ?_)))))))))))
  rw [hp]
  simp
theorem j4_ok (l : List Int) (hl : ∀ x ∈ l, 0 ≤ x ∧ x ≤ 255) : Ev (fun k => laws_FnPalindromes.j4 k l) true := by
  obtain ⟨n, b, e⟩ := drawDigitsOf_ok l hl
  refine evs (fun k => by rw [laws_FnPalindromes.j4]) ?_
  refine evb e ?_
  by_cases h : (0 ≤ n ∧ n ≤ 1000000000000) ∧ 2 ≤ b ∧ b ≤ 16
  · obtain ⟨n, rfl⟩ := natOf (a := n) (by omega)
    obtain ⟨b, rfl⟩ := natOf (a := b) (by omega)
    have hb : 2 ≤ b := by omega
    refine evb (rev_impl b n hb (by omega) (by omega)) (evb (rev_spec b n hb (by omega) (by omega)) (evn (by simp) ?_))
    refine evs (fun k => by rw [laws_FnPalindromes.j5]) ?_
    refine evn (by simp) ?_
    by_cases ht : val b 0 (dgl b n).reverse ≤ 1000000000000
    · have ht2 : told (val b 0 (dgl b n).reverse) = ((val b 0 (dgl b n).reverse : Int), true) := by unfold told; rw [if_pos ht]
      rw [ht2]
      refine evp rfl (evn (by omega) ?_)
      rw [tmod_cast]
      by_cases h0 : n % b = 0
      · have e0 : (((n % b : Nat) : Int) != 0) = false := by rw [h0]; rfl
        rw [e0]
        exact j6_no _ _ _
      · have e0 : (((n % b : Nat) : Int) != 0) = true := bne_iff_ne.2 (by omega)
        rw [e0]
        exact j6_ok b n hb (by omega) (by omega) h0 _ rfl ht
    · have ht2 : told (val b 0 (dgl b n).reverse) = (0, false) := by unfold told; rw [if_neg ht]
      rw [ht2]
      exact evn (by simp) (j6_no _ _ _)
  · have g1 : Ev (fun k => impl_ReverseNumber.f k n b) (0, false) := by
      simp only [impl_ReverseNumber.f, impl_isNumber_eq, Option.bind_some, decide_eq_true_eq]
      exact evn h (Ev.now _)
    have g2 : Ev (fun k => spec_ReverseNumber.f k n b) (0, false) := by
      simp only [spec_ReverseNumber.f, spec_dgAsked_eq, Option.bind_some, decide_eq_true_eq]
      exact evn h (Ev.now _)
    refine evb g1 (evb g2 (evn (by simp) ?_))
    refine evs (fun k => by rw [laws_FnPalindromes.j5]) ?_
    exact evn (by simp) (evn (by simp) (j6_no _ _ _))
theorem l0_ok (l : List Int) (hl : ∀ x ∈ l, 0 ≤ x ∧ x ≤ 255) (b n m : Nat) (hb : 2 ≤ b) (hb2 : b ≤ 16) (hn : n ≤ 1000000000000) (hm : m ≤ 1000000000000) (hno : ∀ P, n + 1 ≤ P → P < m → ¬ pal b P) (d : Nat) : ∀ x : Nat, n + 1 ≤ x → x + d = m →
    Ev (fun k => laws_FnPalindromes.l0 k l (n : Int) (b : Int) (m : Int) (x : Int)) true := by
  have no : ∀ x : Int, Ev (fun k => laws_FnPalindromes.j3 k l (n : Int) (b : Int) (m : Int) x false) true := by
    intro x
    refine evs (fun k => by rw [laws_FnPalindromes.j3]) ?_
    exact evn (by simp) (j4_ok l hl)
  induction d with
  | zero =>
    intro x h1 h2
    refine evs (fun k => by rw [laws_FnPalindromes.l0]) ?_
    exact evn (by omega) (no _)
  | succ d ih =>
    intro x h1 h2
    refine evs (fun k => by rw [laws_FnPalindromes.l0]) ?_
    refine evp (by omega) ?_
    by_cases hc : (x : Int) < wrap64 ((n : Int) + 40)
    · rw [decide_eq_true hc]
      clear hc
      have hp := impl_isPal_ev b x hb hb2 (by omega)
      rw [decide_eq_false (hno x h1 (by omega))] at hp
      refine evs (fun k => by rw [laws_FnPalindromes.j3]) ?_
      refine evp rfl (evb hp (evp rfl (evn (by simp) ?_)))
      rw [w64 (x := (x : Int) + 1) (by omega) (by omega)]
      exact ih (x + 1) (by omega) (by omega)
    · rw [decide_eq_false hc]
      exact no _
theorem j0_yes (l : List Int) (hl : ∀ x ∈ l, 0 ≤ x ∧ x ≤ 255) (b n m : Nat) (hb : 2 ≤ b) (hb2 : b ≤ 16) (hn : n ≤ 1000000000000) (hc : m ≤ 1000000000000) (hm : NextPal b (n + 1) m) : Ev (fun k => laws_FnPalindromes.j0 k l (n : Int) (b : Int) (m : Int) true false) true := by
  obtain ⟨h1, h2, h3⟩ := hm
  have hp := impl_isPal_ev b m hb hb2 hc
  rw [decide_eq_true h2] at hp
  have hl0 := l0_ok l hl b n m hb hb2 hn hc h3 (m - (n + 1)) (n + 1) (by omega) (by omega)
  refine evs (fun k => by rw [laws_FnPalindromes.j0]) ?_
  refine evn (by simp) (evp rfl (evb hp (evn (by omega) (evp rfl ?_))))
  refine evs (fun k => by rw [laws_FnPalindromes.j1]) ?_
  rw [wrap_succ n hn]
  exact evn (by simp) hl0
theorem FnPalindromes : laws_FnPalindromes.Pure := by
  intro l0 l1 _ _ w0 _ _ w1
  have hb : ∀ l : List Int, (∀ x ∈ l, (Lit.int .u8 x).wf = true) → ∀ x ∈ l, 0 ≤ x ∧ x ≤ 255 := by
    intro l h x hx
    have := h x hx
    simpa [Lit.wf, IntKind.min, IntKind.max, IntKind.signed, IntKind.bits] using this
  have hl0 := hb l0 w0
  have hl1 := hb l1 w1
  refine Ev.rounds (g := fun k => laws_FnPalindromes.f k l0 l1) ?_
  unfold laws_FnPalindromes.f
  obtain ⟨t, ht⟩ : ∃ t, laws_big.f l0 l1 = some t := by
    unfold laws_big.f
    split <;> exact ⟨_, rfl⟩
  rw [ht]
  simp only [Option.bind_some]
  cases t with
  | true => exact evp rfl (Ev.now _)
  | false =>
    refine evn (by simp) ?_
    obtain ⟨n, b, e⟩ := drawPal_ok l0 hl0
    refine evb e ?_
    by_cases h : (0 ≤ n ∧ n ≤ 1000000000000) ∧ 2 ≤ b ∧ b ≤ 16
    · obtain ⟨n, rfl⟩ := natOf (a := n) (by omega)
      obtain ⟨b, rfl⟩ := natOf (a := b) (by omega)
      have hb : 2 ≤ b := by omega
      have hb2 : b ≤ 16 := by omega
      have hn : n ≤ 1000000000000 := by omega
      obtain ⟨m, hm, hi⟩ := next_impl b n hb hb2 hn
      obtain ⟨m', hm', hs⟩ := next_spec b n hb hb2 hn
      obtain rfl := nextPal_unique hm hm'
      refine evb hi (evb hs (evb (impl_isPal_ev b n hb hb2 hn) (evb (spec_isPal_ev b n hb hb2 hn) (evn (by simp) (evp rfl (evn (by simp) (evn (by simp) ?_)))))))
      by_cases hc : m ≤ 1000000000000
      · have ht : told m = ((m : Int), true) := by unfold told; rw [if_pos hc]
        rw [ht]
        exact evp rfl (j0_yes l1 hl1 b n m hb hb2 hn hc hm)
      · have ht : told m = (0, false) := by unfold told; rw [if_neg hc]
        rw [ht]
        refine evn (by simp) ?_
        refine evs (fun k => by rw [laws_FnPalindromes.j0]) ?_
        exact evn (by simp) (evn (by simp) (j4_ok l1 hl1))
    · have g1 : Ev (fun k => impl_NextPalindrome.f k n b) (0, false) := by
        exact evc (by rw [impl_isNumber_eq, decide_eq_false h]) (evn (by simp) (Ev.now _))
      have g2 : Ev (fun k => spec_NextPalindrome.f k n b) (0, false) := by
        exact evc (by rw [spec_dgAsked_eq, decide_eq_false h]) (evn (by simp) (Ev.now _))
      have g3 : Ev (fun k => impl_IsPalindrome.f k n b) (false, false) := by
        exact evc (by rw [impl_isNumber_eq, decide_eq_false h]) (evn (by simp) (Ev.now _))
      have g4 : Ev (fun k => spec_IsPalindrome.f k n b) (false, false) := by
        exact evc (by rw [spec_dgAsked_eq, decide_eq_false h]) (evn (by simp) (Ev.now _))
      refine evb g1 (evb g2 (evb g3 (evb g4 (evn (by simp) (evp rfl (evn (by simp) (evn (by simp) (evn (by simp) ?_))))))))
      refine evs (fun k => by rw [laws_FnPalindromes.j0]) ?_
      exact evn (by simp) (evn (by simp) (j4_ok l1 hl1))

end Go.Proofs.Ytikkpehjleoplaa.Pure
