/- For all codes: parity words tell remainders, numbers with the same remainder have the same words, and what is behind them grows by threes. -/
import Derived.Test.YtikkpehjleoplaaPFnParityWordsx6
import Derived.Test.YtikkpehjleoplaaWMore
set_option linter.unusedVariables false
set_option linter.unusedSimpArgs false
namespace Go.Proofs.Ytikkpehjleoplaa.Pure
open Go.RowKit Go.Proofs.Ytikkpehjleoplaa.PFnParityWords Go.Proofs.YtikkpehjleoplaaW.PrintWords Go.Proofs.YtikkpehjleoplaaW.PrintLast

theorem w64 {x : Int} (h1 : -9223372036854775808 ≤ x) (h2 : x ≤ 9223372036854775807) : wrap64 x = x := by unfold wrap64; omega

theorem w64n (n : Nat) (h : n ≤ 9223372036854775807) : wrap64 (n : Int) = (n : Int) := w64 (by omega) (by omega)

theorem evp {α : Type} {c : Prop} [Decidable c] {a b : Nat → Option α} {r : α} (h : c) (k : Ev a r) : Ev (fun n => if c then a n else b n) r := Ev.congr (fun _ => if_pos h) k
theorem evn {α : Type} {c : Prop} [Decidable c] {a b : Nat → Option α} {r : α} (h : ¬ c) (k : Ev b r) : Ev (fun n => if c then a n else b n) r := Ev.congr (fun _ => if_neg h) k
theorem evr {α : Type} {x r : α} (h : x = r) : Ev (fun _ => some x) r := h ▸ Ev.now x
theorem evb {α β : Type} {g : Nat → Option α} {f : Nat → α → Option β} {a : α} {r : β} (h : Ev g a) (k : Ev (fun n => f n a) r) : Ev (fun n => (g n).bind fun x => f n x) r := Ev.bind h k
theorem evc {α β : Type} {x : Option α} {a : α} {f : Nat → α → Option β} {r : β} (h : x = some a) (k : Ev (fun n => f n a) r) : Ev (fun n => x.bind fun y => f n y) r := by subst h; exact k
theorem evs {α : Type} {g f : Nat → Option α} {r : α} (h : ∀ k, g (k + 1) = f k) (k : Ev f r) : Ev g r := Ev.step h k
theorem rd_mem (xs : List Int) (i : Int) (h0 : 0 ≤ i) (h : i < xs.length) : rd xs i ∈ xs := by
 have hi : i.toNat < xs.length := by omega
 simp only [rd, List.getD_eq_getElem?_getD, List.getElem?_eq_getElem hi, Option.getD_some]
 exact List.getElem_mem hi
def ic (l : List Nat) : List Int := l.map (fun x : Nat => (x : Int))
def shr (n : Nat) : Nat := if n % 2 = 0 then n / 2 else (3 * n + 1) / 2
def shs : Nat → Nat → Nat
 | 0, n => n
 | k + 1, n => shs k (shr n)
def pwd : Nat → Nat → List Nat
 | 0, _ => []
 | k + 1, n => n % 2 :: pwd k (shr n)
def ones (k n : Nat) : Nat := (pwd k n).sum
theorem pwd_len (k : Nat) : ∀ n, (pwd k n).length = k := by
 induction k with
 | zero => intro n; rfl
 | succ k ih => intro n; simp only [pwd, List.length_cons, ih]
theorem shr_even (n q : Nat) (h : n % 2 = 0) : shr (n + 2 * q) = shr n + q := by unfold shr; rw [if_pos h, if_pos (by omega)]; omega
theorem shr_odd (n q : Nat) (h : n % 2 = 1) : shr (n + 2 * q) = shr n + 3 * q := by unfold shr; rw [if_neg (by omega), if_neg (by omega)]; omega
theorem pwd_add (k : Nat) : ∀ n q : Nat, pwd k (n + q * 2 ^ k) = pwd k n ∧ shs k (n + q * 2 ^ k) = shs k n + q * 3 ^ ones k n := by
 induction k with
 | zero => intro n q; simp [pwd, shs, ones]
 | succ k ih =>
   intro n q
   have e : n + q * 2 ^ (k + 1) = n + 2 * (q * 2 ^ k) := by rw [Nat.pow_succ, Nat.mul_comm (2 ^ k) 2, Nat.mul_left_comm]
   rw [e]
   simp only [pwd, shs, ones, List.sum_cons]
   rcases Nat.mod_two_eq_zero_or_one n with h | h
   · rw [shr_even n _ h]
     have h2 := ih (shr n) q
     rw [h2.1, h2.2, show (n + 2 * (q * 2 ^ k)) % 2 = n % 2 by omega, h, Nat.zero_add]
     exact ⟨rfl, rfl⟩
   · rw [shr_odd n _ h]
     have h2 := ih (shr n) (3 * q)
     rw [Nat.mul_assoc 3 q (2 ^ k)] at h2
     rw [h2.1, h2.2, show (n + 2 * (q * 2 ^ k)) % 2 = n % 2 by omega, h]
     refine ⟨rfl, ?_⟩
     rw [Nat.pow_add, Nat.pow_one, Nat.mul_comm 3 q, Nat.mul_assoc]
     rfl
theorem two_pow_mod3 (k : Nat) : (2 ^ k : Nat) % 3 = 1 ∨ (2 ^ k : Nat) % 3 = 2 := by
 induction k with
 | zero => left; rfl
 | succ k ih => rw [Nat.pow_succ]; omega
theorem pwd_inj (k : Nat) : ∀ n m : Nat, n ≤ m → pwd k n = pwd k m → ∃ q, m = n + q * 2 ^ k := by
 induction k with
 | zero => intro n m h _; exact ⟨m - n, by rw [Nat.pow_zero]; omega⟩
 | succ k ih =>
   intro n m h e
   simp only [pwd, List.cons.injEq] at e
   obtain ⟨e1, e2⟩ := e
   obtain ⟨d, rfl⟩ : ∃ d, m = n + 2 * d := ⟨(m - n) / 2, by omega⟩
   rcases Nat.mod_two_eq_zero_or_one n with h1 | h1
   · rw [shr_even n d h1] at e2
     obtain ⟨q, hq⟩ := ih _ _ (Nat.le_add_right _ _) e2
     refine ⟨q, ?_⟩
     rw [Nat.pow_succ, Nat.mul_comm (2 ^ k) 2, Nat.mul_left_comm]
     omega
   · rw [shr_odd n d h1] at e2
     obtain ⟨q, hq⟩ := ih _ _ (Nat.le_add_right _ _) e2
     have h3 : 3 * d = q * 2 ^ k := by omega
     have h4 : q % 3 = 0 := by
       have h5 : (q * 2 ^ k) % 3 = 0 := by omega
       rw [Nat.mul_mod] at h5
       rcases two_pow_mod3 k with h6 | h6 <;> rw [h6] at h5 <;> omega
     obtain ⟨r, rfl⟩ : ∃ r, q = 3 * r := ⟨q / 3, by omega⟩
     refine ⟨r, ?_⟩
     rw [Nat.mul_assoc] at h3
     rw [Nat.pow_succ, Nat.mul_comm (2 ^ k) 2, Nat.mul_left_comm]
     omega
theorem pwd_take (k : Nat) : ∀ n, pwd (k + 1) n = pwd k n ++ [shs k n % 2] := by
 induction k with
 | zero => intro n; rfl
 | succ k ih =>
   intro n
   show n % 2 :: pwd (k + 1) (shr n) = (n % 2 :: pwd k (shr n)) ++ [shs k (shr n) % 2]
   rw [ih]
   rfl
theorem three_odd (k : Nat) : (3 ^ k : Nat) % 2 = 1 := by
 induction k with
 | zero => rfl
 | succ k ih => rw [Nat.pow_succ]; omega
theorem pwd_next (k n c : Nat) (hc : c < 2) : (pwd (k + 1) n = pwd k n ++ [c] ∧ pwd (k + 1) (n + 2 ^ k) ≠ pwd k n ++ [c]) ∨ (pwd (k + 1) n ≠ pwd k n ++ [c] ∧ pwd (k + 1) (n + 2 ^ k) = pwd k n ++ [c]) := by
 have h := pwd_add k n 1
 rw [Nat.one_mul, Nat.one_mul] at h
 rw [pwd_take, pwd_take, h.1, h.2]
 have h3 := three_odd (ones k n)
 have hs := Nat.mod_two_eq_zero_or_one (shs k n)
 simp only [List.append_cancel_left_eq, List.cons.injEq, and_true, ne_eq]
 omega
def pnum : List Nat → Nat → Nat → Nat
 | [], _, n => n
 | c :: l, k, n => pnum l (k + 1) (if pwd (k + 1) n = pwd k n ++ [c] then n else n + 2 ^ k)
theorem pnum_ok (l : List Nat) : ∀ k n : Nat, (∀ c ∈ l, c < 2) → 1 ≤ n → n ≤ 2 ^ k → pwd (k + l.length) (pnum l k n) = pwd k n ++ l ∧ 1 ≤ pnum l k n ∧ pnum l k n ≤ 2 ^ (k + l.length) := by
 induction l with
 | nil => intro k n _ h1 h2; simp [pnum, h1, h2]
 | cons c l ih =>
   intro k n hc h1 h2
   have hn := pwd_next k n c (hc c (by simp))
   have hp : 2 ^ (k + 1) = 2 ^ k + 2 ^ k := by rw [Nat.pow_succ]; omega
   simp only [pnum, List.length_cons]
   have e : k + (l.length + 1) = k + 1 + l.length := by omega
   rw [e]
   by_cases h : pwd (k + 1) n = pwd k n ++ [c]
   · rw [if_pos h]
     have h3 := ih (k + 1) n (fun x hx => hc x (by simp [hx])) h1 (by omega)
     rw [h, List.append_assoc] at h3
     exact h3
   · rw [if_neg h]
     have h4 : pwd (k + 1) (n + 2 ^ k) = pwd k n ++ [c] := by
       rcases hn with h5 | h5
       · exact absurd h5.1 h
       · exact h5.2
     have h3 := ih (k + 1) (n + 2 ^ k) (fun x hx => hc x (by simp [hx])) (by omega) (by omega)
     rw [h4, List.append_assoc] at h3
     exact h3
theorem shs_succ (k n : Nat) : shs (k + 1) n = shr (shs k n) := by
 induction k generalizing n with
 | zero => rfl
 | succ k ih =>
   show shs (k + 1) (shr n) = shr (shs k (shr n))
   exact ih _
theorem pwd_bits (k : Nat) : ∀ n, ∀ c ∈ pwd k n, c < 2 := by
 induction k with
 | zero => intro n c h; simp [pwd] at h
 | succ k ih =>
   intro n c h
   rcases List.mem_cons.1 h with rfl | h
   · omega
   · exact ih _ c h
theorem pwd_get (k i : Nat) (h : i < k) : ∀ n, (pwd k n)[i]'(by rw [pwd_len]; exact h) = shs i n % 2 := by
 induction k generalizing i with
 | zero => omega
 | succ k ih =>
   intro n
   cases i with
   | zero => rfl
   | succ i =>
     simp only [pwd, List.getElem_cons_succ, shs]
     exact ih i (by omega) _

theorem impl_in_eq (a b c : Int) : impl_in.f a b c = some (decide (b ≤ a ∧ a ≤ c)) := by
 unfold impl_in.f
 by_cases h : b ≤ a <;> simp [h]
theorem spec_l1In_eq (a b c : Int) : spec_l1In.f a b c = some (decide (b ≤ a ∧ a ≤ c)) := by
 unfold spec_l1In.f
 by_cases h : b ≤ a <;> simp [h]

theorem tmod_cast (a b : Nat) : Int.tmod (a : Int) (b : Int) = ((a % b : Nat) : Int) := (Int.ofNat_tmod a b).symm
theorem tdiv_cast (a b : Nat) : Int.tdiv (a : Int) (b : Int) = ((a / b : Nat) : Int) := (Int.ofNat_tdiv a b).symm
theorem natOf {a : Int} (h : 0 ≤ a) : ∃ n : Nat, a = (n : Int) := ⟨a.toNat, by omega⟩

def sgn (d : Nat) : Nat := if d < 10 then 48 + d else 87 + d
theorem sgn_lt (d : Nat) (h : d < 16) : sgn d < 103 := by unfold sgn; split <;> omega
theorem sgn_inj (d e : Nat) (h : sgn d = sgn e) (hd : d < 16) (he : e < 16) : d = e := by unfold sgn at h; split at h <;> split at h <;> omega
def txt (l : List Nat) : ByteArray := strOfNums (ic (l.map sgn))
theorem str_append (xs ys : List Int) : strOfNums xs ++ strOfNums ys = strOfNums (xs ++ ys) := by
 apply ByteArray.ext
 simp [strOfNums]
theorem txt_snoc (l : List Nat) (d : Nat) : txt l ++ strOfNums [(sgn d : Int)] = txt (l ++ [d]) := by
 unfold txt
 rw [str_append]
 simp [ic]
theorem txt_size (l : List Nat) : (txt l).size = l.length := by unfold txt; rw [strOfNums_size]; simp [ic]
theorem str_bt (xs : List Int) (i : Nat) (h : i < xs.length) (hx : ∀ x ∈ xs, 0 ≤ x ∧ x ≤ 255) : bt (strOfNums xs) (i : Int) = xs[i] := by
 have hm := hx xs[i] (List.getElem_mem h)
 have hs : (i : Int).toNat < (strOfNums xs).size := by rw [strOfNums_size]; simpa using h
 rw [← bt_at _ _ hs]
 have e : (strOfNums xs)[(i : Int).toNat]'hs = UInt8.ofNat xs[i].toNat := by
   show (strOfNums xs).data[(i : Int).toNat]'hs = _
   simp [strOfNums]
 rw [e]
 simp
 omega
theorem txt_bt (l : List Nat) (hl : ∀ d ∈ l, d < 16) (i : Nat) (h : i < l.length) : bt (txt l) (i : Int) = (sgn l[i] : Int) := by
 unfold txt
 rw [str_bt _ _ (by simpa [ic] using h)]
 · simp [ic]
 · intro x hx
   obtain ⟨y, hy, rfl⟩ := List.mem_map.1 hx
   obtain ⟨d, hd, rfl⟩ := List.mem_map.1 hy
   have := sgn_lt d (hl d hd)
   omega
theorem text_ext (s t : ByteArray) (h : s.size = t.size) (e : ∀ i : Nat, i < s.size → bt s (i : Int) = bt t (i : Int)) : s = t := by
 apply ByteArray.ext
 apply Array.ext h
 intro i h1 h2
 have h3 := e i h1
 have hs : (i : Int).toNat < s.size := by simpa using h1
 have ht : (i : Int).toNat < t.size := by simpa using h2
 rw [← bt_at _ _ hs, ← bt_at _ _ ht] at h3
 have h4 : (s.data[i]'h1).toNat = (t.data[i]'h2).toNat := by
   have : ((s[(i : Int).toNat]'hs).toNat : Int) = ((t[(i : Int).toNat]'ht).toNat : Int) := h3
   exact Int.ofNat.inj this
 exact UInt8.toNat_inj.1 h4
theorem shl_nat (x p : Nat) (hp : p ≤ 60) (h : x * 2 ^ p ≤ 9223372036854775807) : shl .i64 (x : Int) (p : Int) = ((x * 2 ^ p : Nat) : Int) := by
 unfold shl
 rw [Int.toNat_natCast, show IntKind.bits .i64 = 64 from rfl, Nat.min_eq_left (by omega), i64_w]
 have e : (x : Int) * 2 ^ p = ((x * 2 ^ p : Nat) : Int) := by simp
 rw [e, w64n _ h]

def rch : Nat → Nat → Bool
 | 0, _ => true
 | j + 1, n => decide (shr n ≤ 1000000000000) && rch j (shr n)
theorem shr_up (n : Nat) : 2 * (shr n + 1) ≤ 3 * (n + 1) := by unfold shr; split <;> omega
theorem rch_of (r : Nat) : ∀ m : Nat, (m + 1) * 3 ^ r ≤ 1000000000000 * 2 ^ r → rch r m = true := by
 induction r with
 | zero => intro m _; rfl
 | succ r ih =>
   intro m h
   have h1 : 2 * ((shr m + 1) * 3 ^ r) ≤ 3 * ((m + 1) * 3 ^ r) := by
     have := Nat.mul_le_mul_right (3 ^ r) (shr_up m)
     rw [Nat.mul_assoc, Nat.mul_assoc] at this
     exact this
   rw [Nat.pow_succ, Nat.pow_succ, ← Nat.mul_assoc, ← Nat.mul_assoc] at h
   have h2 : (shr m + 1) * 3 ^ r ≤ 1000000000000 * 2 ^ r := by omega
   have h3 : (2 : Nat) ^ r ≤ 3 ^ r := Nat.pow_le_pow_left (by omega) r
   have h4 : (shr m + 1) * 3 ^ r ≤ 1000000000000 * 3 ^ r := by
     have := Nat.mul_le_mul_left 1000000000000 h3
     omega
   have h5 : shr m + 1 ≤ 1000000000000 := Nat.le_of_mul_le_mul_right h4 (Nat.pow_pos (by omega))
   simp only [rch, Bool.and_eq_true, decide_eq_true_eq]
   exact ⟨by omega, ih _ h2⟩
theorem rch_small (r : Nat) (hr : r ≤ 20) (m : Nat) (hm : m ≤ 16777216) : rch r m = true := by
 have h : ∀ r : Nat, r < 21 → 16777217 * 3 ^ r ≤ 1000000000000 * 2 ^ r := by decide
 refine rch_of r m (Nat.le_trans (Nat.mul_le_mul_right _ (show m + 1 ≤ 16777217 by omega)) (h r (by omega)))
theorem rch_succ (j : Nat) : ∀ n, rch (j + 1) n = (rch j n && decide (shs (j + 1) n ≤ 1000000000000)) := by
 induction j with
 | zero => intro n; show (decide (shr n ≤ 1000000000000) && true) = (true && decide (shr n ≤ 1000000000000)); simp
 | succ j ih =>
   intro n
   show (decide (shr n ≤ 1000000000000) && rch (j + 1) (shr n)) = _
   rw [ih]
   show _ = ((decide (shr n ≤ 1000000000000) && rch j (shr n)) && decide (shs (j + 1) (shr n) ≤ 1000000000000))
   rw [Bool.and_assoc]
theorem rch_pred (j n : Nat) (h : rch j n = true) : rch (j - 1) n = true := by
 cases j with
 | zero => exact h
 | succ j => rw [rch_succ, Bool.and_eq_true] at h; exact h.1
theorem rch_at (j n : Nat) : ∀ i, i ≤ j → n ≤ 1000000000000 → rch j n = true → shs i n ≤ 1000000000000 := by
 induction j generalizing n with
 | zero => intro i hi hn _; have : i = 0 := by omega
           subst this; exact hn
 | succ j ih =>
   intro i hi hn h
   simp only [rch, Bool.and_eq_true, decide_eq_true_eq] at h
   cases i with
   | zero => exact hn
   | succ i => exact ih (shr n) i (by omega) h.1 h.2
theorem shr_pos (n : Nat) (h : 1 ≤ n) : 1 ≤ shr n := by unfold shr; split <;> omega
theorem shs_pos (j : Nat) : ∀ n, 1 ≤ n → 1 ≤ shs j n := by
 induction j with
 | zero => intro n h; exact h
 | succ j ih => intro n h; exact ih _ (shr_pos n h)
theorem txt_inj (a b : List Nat) (ha : ∀ d ∈ a, d < 16) (hb : ∀ d ∈ b, d < 16) (h : txt a = txt b) : a = b := by
 have hl : a.length = b.length := by rw [← txt_size a, h, txt_size]
 refine List.ext_getElem hl (fun i h1 h2 => ?_)
 have h3 := txt_bt a ha i h1
 rw [h, txt_bt b hb i h2] at h3
 exact sgn_inj _ _ (by omega) (ha _ (List.getElem_mem h1)) (hb _ (List.getElem_mem h2))
theorem str_cut (xs ys : List Int) : (strOfNums (xs ++ ys)).extract 0 xs.length = strOfNums xs := by
 apply ByteArray.ext
 simp [strOfNums]
theorem txt_cut (a b : List Nat) (n : Nat) (h : n = a.length) : (txt (a ++ b)).extract 0 n = txt a := by
 subst h
 unfold txt
 have e : a.length = (ic (a.map sgn)).length := by simp [ic]
 rw [show ic ((a ++ b).map sgn) = ic (a.map sgn) ++ ic (b.map sgn) by simp [ic], e, str_cut]
theorem toList_iff (s t : ByteArray) : s.toList = t.toList ↔ s = t := by
 constructor
 · intro h
   rw [ByteArray.toList_eq, ByteArray.toList_eq] at h
   exact ByteArray.ext (Array.toList_inj.mp h)
 · intro h; rw [h]
theorem txt_bits (w : ByteArray) (h : ∀ i : Nat, i < w.size → bt w (i : Int) = 48 ∨ bt w (i : Int) = 49) : ∃ l : List Nat, (∀ c ∈ l, c < 2) ∧ w = txt l := by
 refine ⟨(List.range w.size).map (fun i : Nat => (bt w (i : Int) - 48).toNat), ?_, ?_⟩
 · intro c hc
   obtain ⟨i, hi, rfl⟩ := List.mem_map.1 hc
   rcases h i (List.mem_range.1 hi) with e | e <;> rw [e] <;> decide
 · have hc : ∀ d ∈ (List.range w.size).map (fun i : Nat => (bt w (i : Int) - 48).toNat), d < 16 := by
     intro c hc
     obtain ⟨i, hi, rfl⟩ := List.mem_map.1 hc
     rcases h i (List.mem_range.1 hi) with e | e <;> rw [e] <;> decide
   refine text_ext _ _ (by rw [txt_size]; simp) (fun i hi => ?_)
   rw [txt_bt _ hc i (by simpa using hi), List.getElem_map, List.getElem_range]
   rcases h i hi with e | e <;> rw [e] <;> rfl

theorem low_byte (x : Int) : 0 ≤ Go.bits .and .u64 ((IntKind.u64.wrap x) / 1099511627776) 255 ∧ Go.bits .and .u64 ((IntKind.u64.wrap x) / 1099511627776) 255 ≤ 255 := by
 have h0 : 0 ≤ IntKind.u64.wrap x ∧ IntKind.u64.wrap x < 18446744073709551616 := by rw [IntKind.wrap_u64]; omega
 obtain ⟨y, hy⟩ := Int.eq_ofNat_of_zero_le (show 0 ≤ IntKind.u64.wrap x / 1099511627776 by omega)
 rw [hy]
 have h1 := bits_and_u64_nat y 255 (by omega) (by omega)
 have e : y &&& 255 = y % 256 := Nat.and_two_pow_sub_one_eq_mod y 8
 rw [e] at h1
 rw [show ((255 : Int)) = ((255 : Nat) : Int) from rfl, h1]
 omega
theorem next_ok (l : List Int) (hl : ∀ x ∈ l, 0 ≤ x ∧ x ≤ 255) (p s : Int) (h0 : 0 ≤ p) (h1 : p ≤ 1000000000000) :
   ∃ v s' : Int, spec_l1Cur_next.f l p s = some (v, p + 1, s') ∧ 0 ≤ v ∧ v ≤ 255 := by
 unfold spec_l1Cur_next.f
 rw [w64 (x := p + 1) (by omega) (by omega)]
 by_cases hp : p < (l.length : Int)
 · have hm := hl _ (rd_mem l p h0 hp)
   rw [if_pos hp, if_pos h0]
   by_cases hq : p + 1 ≤ (l.length : Int)
   · rw [if_pos hq]
     refine ⟨_, _, rfl, ?_⟩
     rw [w64 (by omega) (by omega)]
     exact hm
   · omega
 · rw [if_neg hp]
   by_cases hq : p + 1 ≤ (l.length : Int)
   · omega
   · rw [if_neg hq]
     refine ⟨_, _, rfl, ?_⟩
     have h := low_byte (IntKind.u64.wrap (IntKind.u64.wrap (s * 6364136223846793005)) + 1442695040888963407)
     rw [w64 (by omega) (by omega)]
     exact h
theorem pick_ok (l : List Int) (hl : ∀ x ∈ l, 0 ≤ x ∧ x ≤ 255) (p s n : Int) (h0 : 0 ≤ p) (h1 : p ≤ 999999999990) (hn : n ≤ 1000000) :
   ∃ v p' s' : Int, spec_l1Cur_pick.f l p s n = some (v, p', s') ∧ 0 ≤ v ∧ v ≤ 1000000 ∧ (v = 0 ∨ v < n) ∧ p ≤ p' ∧ p' ≤ p + 2 := by
 unfold spec_l1Cur_pick.f
 by_cases h : n ≤ 1
 · rw [if_pos h]
   exact ⟨0, p, s, rfl, by omega, by omega, by omega, by omega, by omega⟩
 · rw [if_neg h]
   obtain ⟨v, s1, e1, h2, h3⟩ := next_ok l hl p s h0 (by omega)
   rw [e1]
   simp only [Option.bind_some]
   by_cases h4 : n > 200
   · rw [if_pos h4]
     obtain ⟨v2, s2, e2, h5, h6⟩ := next_ok l hl (p + 1) s1 (by omega) (by omega)
     rw [e2]
     simp only [Option.bind_some]
     rw [if_neg (by omega), w64 (x := v * 256) (by omega) (by omega), w64 (by omega) (by omega)]
     have h7 := Int.tmod_nonneg n (show 0 ≤ v * 256 + v2 by omega)
     have h8 := Int.tmod_lt_of_pos (v * 256 + v2) (show 0 < n by omega)
     exact ⟨_, _, _, rfl, h7, by omega, Or.inr h8, by omega, by omega⟩
   · rw [if_neg h4, if_neg (by omega)]
     have h7 := Int.tmod_nonneg n (show 0 ≤ v by omega)
     have h8 := Int.tmod_lt_of_pos v (show 0 < n by omega)
     exact ⟨_, _, _, rfl, h7, by omega, Or.inr h8, by omega, by omega⟩
theorem among_ok (l : List Int) (hl : ∀ x ∈ l, 0 ≤ x ∧ x ≤ 255) (p s : Int) (m : List Int) (hm : m ≠ []) (hm2 : m.length ≤ 1000000) (h0 : 0 ≤ p) (h1 : p ≤ 999999999990) :
   ∃ v p' s' : Int, spec_l1Cur_among.f l p s m = some (v, p', s') ∧ v ∈ m ∧ p ≤ p' ∧ p' ≤ p + 2 := by
 unfold spec_l1Cur_among.f
 have hpos := List.length_pos_iff.2 hm
 obtain ⟨v, p', s', e1, h2, h3, h4, h5, h6⟩ := pick_ok l hl p s m.length h0 h1 (by omega)
 rw [e1]
 simp only [Option.bind_some]
 rw [if_pos h2, if_pos (by omega)]
 exact ⟨_, _, _, rfl, rd_mem m v h2 (by omega), h5, h6⟩

theorem one_ok (l : List Int) (hl : ∀ x ∈ l, 0 ≤ x ∧ x ≤ 255) (p s n : Int) (h0 : 0 ≤ p) (h1 : p ≤ 999999999990) (hn : n ≤ 1000000) : ∃ (v : Bool) (p' s' : Int), spec_l1Cur_one.f l p s n = some (v, p', s') ∧ p ≤ p' ∧ p' ≤ p + 2 := by
 obtain ⟨v1, p1, s1, e1, a1, b1, c1, d1, f1⟩ := pick_ok l hl p s n h0 h1 hn
 unfold spec_l1Cur_one.f
 rw [e1]
 exact ⟨_, _, _, rfl, d1, f1⟩
theorem sureNumber_loop (l : List Int) (hl : ∀ x ∈ l, 0 ≤ x ∧ x ≤ 255) (d : Nat) : ∀ x p s : Int, 0 ≤ p → p + 2 * (d : Int) ≤ 100000000 → ∃ v p' s' : Int, Ev (fun k => spec_l1Cur_sureNumber.l0 k x (d : Int) l p s) (v, p', s') ∧ p ≤ p' ∧ p' ≤ p + 2 * (d : Int) := by
 induction d with
 | zero =>
   intro x p s h0 h1
   exact ⟨x, p, s, evs (fun k => by rw [spec_l1Cur_sureNumber.l0]) (evn (by omega) (Ev.now _)), by omega, by omega⟩
 | succ d ih =>
   intro x p s h0 h1
   obtain ⟨v, p1, s1, e1, _, _, _, h2, h3⟩ := pick_ok l hl p s 10 h0 (by omega) (by omega)
   obtain ⟨v', p2, s2, e2, h4, h5⟩ := ih (wrap64 (wrap64 (x * 10) + v)) p1 s1 (by omega) (by omega)
   refine ⟨v', p2, s2, evs (fun k => by rw [spec_l1Cur_sureNumber.l0]) (evp (by omega) ?_), by omega, by omega⟩
   simp only [e1, Option.bind_some]
   rw [w64 (x := (((d + 1 : Nat)) : Int) - 1) (by omega) (by omega), show (((d + 1 : Nat)) : Int) - 1 = (d : Int) by omega]
   exact e2
theorem sureNumber_ok (l : List Int) (hl : ∀ x ∈ l, 0 ≤ x ∧ x ≤ 255) (p s : Int) (h0 : 0 ≤ p) (h1 : p ≤ 90000000) : ∃ v p' s' : Int, Ev (fun k => spec_l1Cur_sureNumber.f k l p s) (v, p', s') ∧ p ≤ p' ∧ p' ≤ p + 30 := by
 obtain ⟨v1, p1, s1, e1, a1, b1, c1, d1, f1⟩ := pick_ok l hl p s 8 (by omega) (by omega) (by omega)
 simp only [spec_l1Cur_sureNumber.f, e1, Option.bind_some]
 by_cases h0 : v1 = 0
 · obtain ⟨v2, p2, s2, e2, a2, b2, c2, d2, f2⟩ := pick_ok l hl p1 s1 256 (by omega) (by omega) (by omega)
   refine ⟨v2, p2, s2, evp h0 ?_, by omega, by omega⟩
   simp only [e2, Option.bind_some]
   exact Ev.now _
 · by_cases h1 : v1 = 1
   · obtain ⟨v, p2, s2, e2, _, h2, h3⟩ := among_ok l hl p1 s1 [0, 1, 9, 10, 99, 100, 153, 370, 1000, 6174, 9999, 999999999999, 1000000000000] (by simp) (by simp) (by omega) (by omega)
     refine ⟨v, p2, s2, evn h0 (evp h1 ?_), by omega, by omega⟩
     simp only [e2, Option.bind_some]
     exact Ev.now _
   · by_cases h2 : v1 = 2
     · obtain ⟨v2, p2, s2, e2, a2, b2, c2, d2, f2⟩ := pick_ok l hl p1 s1 256 (by omega) (by omega) (by omega)
       obtain ⟨v3, p3, s3, e3, a3, b3, c3, d3, f3⟩ := pick_ok l hl p2 s2 256 (by omega) (by omega) (by omega)
       refine ⟨wrap64 (v2 * v3), p3, s3, evn h0 (evn h1 (evp h2 ?_)), by omega, by omega⟩
       simp only [e2, e3, Option.bind_some]
       exact Ev.now _
     · obtain ⟨v2, p2, s2, e2, a2, b2, c2, d2, f2⟩ := pick_ok l hl p1 s1 11 (by omega) (by omega) (by omega)
       obtain ⟨d, rfl⟩ := natOf (a := v2) a2
       obtain ⟨v3, p3, s3, e3, h4, h5⟩ := sureNumber_loop l hl (1 + d) 0 p2 s2 (by omega) (by omega)
       refine ⟨v3, p3, s3, evn h0 (evn h1 (evn h2 ?_)), by omega, by omega⟩
       simp only [e2, Option.bind_some]
       rw [w64 (x := (1 : Int) + (d : Int)) (by omega) (by omega)]
       simpa using e3
theorem spoilt_loop (l : List Int) (hl : ∀ x ∈ l, 0 ≤ x ∧ x ≤ 255) (w : ByteArray) (hw : 1 ≤ w.size) (hw2 : w.size ≤ 100) (d : Nat) : ∀ (t : ByteArray) (p s : Int), 0 ≤ p → p + 10 * (d : Int) ≤ 100000000 → t.size + d ≤ 1000 →
   ∃ (t' : ByteArray) (p' s' : Int), t'.size ≤ t.size + d ∧ Ev (fun k => spec_l1Cur_spoilt.l0 k t w (d : Int) l p s) (t', p', s') := by
 induction d with
 | zero =>
   intro t p s h0 h1 h2
   refine ⟨t, p, s, by omega, evs (fun k => by rw [spec_l1Cur_spoilt.l0]) (evn (by omega) ?_)⟩
   refine evs (fun k => by rw [spec_l1Cur_spoilt.j1]) ?_
   exact evn (by simp) (Ev.now _)
 | succ d ih =>
   intro t p s h0 h1 h2
   by_cases ht : (t.size : Int) > 0
   · obtain ⟨i, p1, s1, e1, a1, _, c1, d1, f1⟩ := pick_ok l hl p s (t.size : Int) h0 (by omega) (by omega)
     obtain ⟨j, p2, s2, e2, a2, _, c2, d2, f2⟩ := pick_ok l hl p1 s1 (w.size : Int) (by omega) (by omega) (by omega)
     obtain ⟨m, p3, s3, e3, a3, _, c3, d3, f3⟩ := pick_ok l hl p2 s2 3 (by omega) (by omega) (by omega)
     obtain ⟨i, rfl⟩ := natOf a1
     have hi : i < t.size := by omega
     have z1 : (t.extract 0 (i : Int).toNat).size = i := by rw [Int.toNat_natCast, ByteArray.size_extract]; omega
     have z2 : (strOfNums [bt w j]).size = 1 := by rw [strOfNums_size]; rfl
     have z3 : (t.extract (i : Int).toNat t.size).size = t.size - i := by rw [Int.toNat_natCast, ByteArray.size_extract]; omega
     have z4 : (t.extract ((i : Int) + 1).toNat t.size).size = t.size - (i + 1) := by rw [show ((i : Int) + 1).toNat = i + 1 by omega, ByteArray.size_extract]; omega
     have go : ∀ t2 : ByteArray, t2.size ≤ t.size + 1 → (∀ (r : ByteArray × Int × Int), Ev (fun k => spec_l1Cur_spoilt.l0 k t2 w (wrap64 (((d + 1 : Nat) : Int) - 1)) l p3 s3) r → Ev (fun k => spec_l1Cur_spoilt.j1 k t w ((d + 1 : Nat) : Int) true l p s) r) →
         ∃ (t' : ByteArray) (p' s' : Int), t'.size ≤ t.size + (d + 1) ∧ Ev (fun k => spec_l1Cur_spoilt.l0 k t w ((d + 1 : Nat) : Int) l p s) (t', p', s') := by
       intro t2 h3 h4
       obtain ⟨t', p', s', g1, g2⟩ := ih t2 p3 s3 (by omega) (by omega) (by omega)
       refine ⟨t', p', s', by omega, evs (fun k => by rw [spec_l1Cur_spoilt.l0]) (evp (by omega) ?_)⟩
       rw [decide_eq_true ht]
       refine h4 _ ?_
       rw [w64 (x := (((d + 1 : Nat)) : Int) - 1) (by omega) (by omega), show (((d + 1 : Nat)) : Int) - 1 = (d : Int) by omega]
       exact g2
     by_cases g0 : m = 0
     · refine go (((t.extract 0 (i : Int).toNat) ++ (strOfNums [bt w j])) ++ (t.extract (i : Int).toNat t.size)) (by rw [ByteArray.size_append, ByteArray.size_append, z1, z2, z3]; omega) (fun r hr => ?_)
       refine evs (fun k => by rw [spec_l1Cur_spoilt.j1]) (evp rfl ?_)
       simp only [e1, e2, e3, Option.bind_some]
       exact evp a2 (evp (by omega) (evp g0 (evp (by omega) (evp (by omega) (evp (by rw [z1, z2]; omega) (evp (by rw [ByteArray.size_append, z1, z2, z3]; omega) hr))))))
     · by_cases g1 : m = 1
       · refine go (((t.extract 0 (i : Int).toNat) ++ (strOfNums [bt w j])) ++ (t.extract ((i : Int) + 1).toNat t.size)) (by rw [ByteArray.size_append, ByteArray.size_append, z1, z2, z4]; omega) (fun r hr => ?_)
         refine evs (fun k => by rw [spec_l1Cur_spoilt.j1]) (evp rfl ?_)
         simp only [e1, e2, e3, Option.bind_some]
         rw [w64 (x := (i : Int) + 1) (by omega) (by omega)]
         exact evp a2 (evp (by omega) (evn g0 (evp g1 (evp (by omega) (evp (by omega) (evp (by rw [z1, z2]; omega) (evp (by omega) (evp (by omega) (evp (by rw [ByteArray.size_append, z1, z2, z4]; omega) hr)))))))))
       · refine go ((t.extract 0 (i : Int).toNat) ++ (t.extract ((i : Int) + 1).toNat t.size)) (by rw [ByteArray.size_append, z1, z4]; omega) (fun r hr => ?_)
         refine evs (fun k => by rw [spec_l1Cur_spoilt.j1]) (evp rfl ?_)
         simp only [e1, e2, e3, Option.bind_some]
         rw [w64 (x := (i : Int) + 1) (by omega) (by omega)]
         exact evp a2 (evp (by omega) (evn g0 (evn g1 (evp (by omega) (evp (by omega) (evp (by omega) (evp (by omega) (evp (by rw [z1, z4]; omega) hr))))))))
   · refine ⟨t, p, s, by omega, evs (fun k => by rw [spec_l1Cur_spoilt.l0]) (evp (by omega) ?_)⟩
     rw [decide_eq_false ht]
     refine evs (fun k => by rw [spec_l1Cur_spoilt.j1]) ?_
     exact evn (by simp) (Ev.now _)

theorem of_ok (l : List Int) (hl : ∀ x ∈ l, 0 ≤ x ∧ x ≤ 255) (p s : Int) (h0 : 0 ≤ p) (h1 : p ≤ 999999999990) : ∃ (v : ByteArray) (p' s' : Int), spec_l1Cur_of.f l p s [(⟨#[48]⟩ : ByteArray), (⟨#[49]⟩ : ByteArray)] = some (v, p', s') ∧ v.size = 1 ∧ p ≤ p' ∧ p' ≤ p + 2 := by
 obtain ⟨v, p1, s1, e1, a1, _, c1, d1, f1⟩ := pick_ok l hl p s 2 h0 h1 (by omega)
 unfold spec_l1Cur_of.f
 rw [show ((([(⟨#[48]⟩ : ByteArray), (⟨#[49]⟩ : ByteArray)] : List ByteArray).length : Nat) : Int) = 2 from rfl, e1]
 simp only [Option.bind_some]
 rcases (show v = 0 ∨ v = 1 by omega) with rfl | rfl
 · exact ⟨_, _, _, rfl, rfl, d1, f1⟩
 · exact ⟨_, _, _, rfl, rfl, d1, f1⟩
theorem letters_loop (l : List Int) (hl : ∀ x ∈ l, 0 ≤ x ∧ x ≤ 255) (d : Nat) : ∀ (t : ByteArray) (p s : Int), 0 ≤ p → p + 2 * (d : Int) ≤ 1000000 → t.size + d ≤ 100 →
   ∃ (t' : ByteArray) (p' s' : Int), t'.size ≤ 1000 ∧ Ev (fun k => spec_l1Cur_letters.l0 k t (d : Int) l p s) (t', p', s') := by
 induction d with
 | zero =>
   intro t p s h0 h1 h2
   obtain ⟨v, p1, s1, e1, d1, f1⟩ := one_ok l hl p s 12 h0 (by omega) (by omega)
   by_cases g : v = true
   · obtain ⟨m, p2, s2, e2, a2, _, c2, d2, f2⟩ := pick_ok l hl p1 s1 2 (by omega) (by omega) (by omega)
     obtain ⟨m, rfl⟩ := natOf a2
     have z : (t ++ (⟨#[49]⟩ : ByteArray)).size = t.size + 1 := by rw [ByteArray.size_append]; rfl
     obtain ⟨t', p3, s3, g1, g2⟩ := spoilt_loop l hl (⟨#[48, 49, 50, 120]⟩ : ByteArray) (by decide) (by decide) (1 + m) (t ++ (⟨#[49]⟩ : ByteArray)) p2 s2 (by omega) (by omega) (by omega)
     refine ⟨t', p3, s3, by omega, evs (fun k => by rw [spec_l1Cur_letters.l0]) (evn (by omega) ?_)⟩
     simp only [e1, Option.bind_some]
     refine evp g (evp (by omega) (evb (a := (t', p3, s3)) ?_ (Ev.now _)))
     simp only [spec_l1Cur_spoilt.f, e2, Option.bind_some]
     rw [w64 (x := (1 : Int) + (m : Int)) (by omega) (by omega), show (1 : Int) + (m : Int) = ((1 + m : Nat) : Int) by omega]
     exact g2
   · refine ⟨t, p1, s1, by omega, evs (fun k => by rw [spec_l1Cur_letters.l0]) (evn (by omega) ?_)⟩
     simp only [e1, Option.bind_some]
     exact evn g (Ev.now _)
 | succ d ih =>
   intro t p s h0 h1 h2
   obtain ⟨v, p1, s1, e1, hv, d1, f1⟩ := of_ok l hl p s h0 (by omega)
   have z : (t ++ v).size = t.size + 1 := by rw [ByteArray.size_append, hv]
   obtain ⟨t', p', s', g1, g2⟩ := ih (t ++ v) p1 s1 (by omega) (by omega) (by omega)
   refine ⟨t', p', s', g1, evs (fun k => by rw [spec_l1Cur_letters.l0]) (evp (by omega) ?_)⟩
   simp only [e1, Option.bind_some]
   rw [w64 (x := (((d + 1 : Nat)) : Int) - 1) (by omega) (by omega), show (((d + 1 : Nat)) : Int) - 1 = (d : Int) by omega]
   exact evp (by omega) g2
theorem drawWord_ok (l : List Int) (hl : ∀ x ∈ l, 0 ≤ x ∧ x ≤ 255) : ∃ t : ByteArray, t.size ≤ 1000 ∧ Ev (fun k => spec_DrawNumberOfWord.f k l) t := by
 obtain ⟨v, p1, s1, e1, hm, d1, f1⟩ := among_ok l hl 0 0 [0, 1, 2, 4, 7, 12, 20, 21] (by simp) (by simp) (by omega) (by omega)
 have hv : 0 ≤ v ∧ v ≤ 21 := by
   simp only [List.mem_cons, List.not_mem_nil, or_false] at hm
   omega
 obtain ⟨v, rfl⟩ := natOf hv.1
 obtain ⟨t, p2, s2, g1, g2⟩ := letters_loop l hl v (⟨#[]⟩ : ByteArray) p1 s1 (by omega) (by omega) (by show 0 + v ≤ 100; omega)
 refine ⟨t, g1, ?_⟩
 unfold spec_DrawNumberOfWord.f
 refine evb (a := (t, p2, s2)) ?_ (Ev.now _)
 unfold spec_l1Cur_letters.f
 exact evc e1 g2
theorem drawPar_ok (l : List Int) (hl : ∀ x ∈ l, 0 ≤ x ∧ x ≤ 255) : ∃ a b : Int, (-1 ≤ b ∧ b ≤ 21) ∧ Ev (fun k => spec_DrawParityWord.f k l) (a, b) := by
 have st : ∃ a p' s' : Int, Ev (fun k => spec_l1Cur_stepped.f k l 0 0) (a, p', s') ∧ 0 ≤ p' ∧ p' ≤ 1000 := by
   obtain ⟨v, p1, s1, e1, d1, f1⟩ := one_ok l hl 0 0 16 (by omega) (by omega) (by omega)
   by_cases g : v = true
   · obtain ⟨a, p2, s2, e2, _, d2, f2⟩ := among_ok l hl p1 s1 [0, (-1), 1000000000000, 1000000000001, 4611686018427387904] (by simp) (by simp) (by omega) (by omega)
     refine ⟨a, p2, s2, ?_, by omega, by omega⟩
     unfold spec_l1Cur_stepped.f
     exact evc e1 (evp g (evc e2 (Ev.now _)))
   · obtain ⟨x1, p2, s2, e2, _, _, _, d2, f2⟩ := pick_ok l hl p1 s1 200 (by omega) (by omega) (by omega)
     obtain ⟨x2, p3, s3, e3, _, _, _, d3, f3⟩ := pick_ok l hl p2 s2 250 (by omega) (by omega) (by omega)
     obtain ⟨x3, p4, s4, e4, d4, f4⟩ := sureNumber_ok l hl p3 s3 (by omega) (by omega)
     obtain ⟨x4, p5, s5, e5, d5, f5⟩ := sureNumber_ok l hl p4 s4 (by omega) (by omega)
     obtain ⟨y, hy⟩ : ∃ y, spec_l1Most.f 1 x4 = some y := by unfold spec_l1Most.f; split <;> exact ⟨_, rfl⟩
     obtain ⟨a, p6, s6, e6, _, d6, f6⟩ := among_ok l hl p5 s5 [1, 2, 3, 7, 27, 97, 703, 6171, wrap64 (1 + x1), wrap64 (1 + x2), wrap64 (1 + (Int.tmod x3 1000000)), y] (by simp) (by simp) (by omega) (by omega)
     refine ⟨a, p6, s6, ?_, by omega, by omega⟩
     unfold spec_l1Cur_stepped.f
     exact evc e1 (evn g (evc e2 (evc e3 (evb e4 (evb e5 (evc hy (evc e6 (Ev.now _))))))))
 obtain ⟨a, p, s, e, h0, h1⟩ := st
 obtain ⟨b, p2, s2, e2, hm, _, _⟩ := among_ok l hl p s [0, 1, 2, 4, 8, 12, 20, 21, (-1)] (by simp) (by simp) (by omega) (by omega)
 have hb : -1 ≤ b ∧ b ≤ 21 := by
   simp only [List.mem_cons, List.not_mem_nil, or_false] at hm
   omega
 exact ⟨a, b, hb, evb e (evc e2 (Ev.now _))⟩
theorem short_ok (n : Nat) (h : n ≤ 1000000000000000) : impl_short.f (n : Int) = some ((shr n : Nat) : Int) ∧ spec_stShort.f (n : Int) = some ((shr n : Nat) : Int) := by
 have e : impl_short.f (n : Int) = some ((shr n : Nat) : Int) := by
   unfold impl_short.f shr
   rw [show (2 : Int) = ((2 : Nat) : Int) from rfl, tmod_cast, tdiv_cast]
   by_cases hc : n % 2 = 0
   · rw [if_pos (by omega), if_pos hc, w64n _ (by omega)]
   · rw [if_neg (by omega), if_neg hc, w64 (x := 3 * (n : Int)) (by omega) (by omega), w64 (x := 3 * (n : Int) + 1) (by omega) (by omega), show 3 * (n : Int) + 1 = ((3 * n + 1 : Nat) : Int) by omega, tdiv_cast, w64n _ (by omega)]
 exact ⟨e, e⟩
theorem bit_ok (n : Nat) : (wrap64 (48 + Int.tmod (n : Int) 2)) % 256 = ((sgn (n % 2) : Nat) : Int) := by
 rw [show (2 : Int) = ((2 : Nat) : Int) from rfl, tmod_cast, w64 (by omega) (by omega)]
 unfold sgn
 rw [if_pos (by omega)]
 omega
theorem nums_snoc (pre : List Nat) (d : Nat) : ic (pre.map sgn) ++ [((sgn d : Nat) : Int)] = ic ((pre ++ [d]).map sgn) := by simp [ic]
theorem impl_par_loop (r : Nat) : ∀ (pre : List Nat) (m : Nat), pre.length + r ≤ 1000 → (r = 0 ∨ (m ≤ 1000000000000 ∧ rch (r - 1) m = true)) →
   Ev (fun k => impl_parities.l0 k (m : Int) (ic (pre.map sgn)) ((pre.length + r : Nat) : Int) (pre.length : Int)) (txt (pre ++ pwd r m), ((shs r m : Nat) : Int)) := by
 induction r with
 | zero =>
   intro pre m _ _
   refine evs (fun k => by rw [impl_parities.l0]) ?_
   exact evn (by omega) (evr (by simp [txt, pwd, shs]))
 | succ r ih =>
   intro pre m h1 h2
   obtain ⟨h3, h4⟩ : m ≤ 1000000000000 ∧ rch r m = true := by
     rcases h2 with h | h
     · omega
     · exact h
   have h5 := ih (pre ++ [m % 2]) (shr m) (by simp; omega) (by
     cases r with
     | zero => exact .inl rfl
     | succ r =>
       simp only [rch, Bool.and_eq_true, decide_eq_true_eq] at h4
       exact .inr h4)
   refine evs (fun k => by rw [impl_parities.l0]) ?_
   have e1 : (pre ++ [m % 2]).length = pre.length + 1 := by simp
   have e2 : (ic (pre.map sgn)).length = pre.length := by simp [ic]
   rw [e1, List.append_assoc, ← nums_snoc] at h5
   refine evp (by omega) (evp (by rw [e2]; omega) (evc (short_ok m (by omega)).1 ?_))
   rw [bit_ok, w64 (x := (pre.length : Int) + 1) (by omega) (by omega), show (pre.length : Int) + 1 = ((pre.length + 1 : Nat) : Int) by omega, show pre.length + (r + 1) = pre.length + 1 + r by omega]
   exact h5
theorem impl_parities_ev (r m : Nat) (hr : r ≤ 20) (h : r = 0 ∨ (m ≤ 1000000000000 ∧ rch (r - 1) m = true)) : Ev (fun k => impl_parities.f k (m : Int) (r : Int)) (txt (pwd r m), ((shs r m : Nat) : Int)) := by
 have := impl_par_loop r [] m (by simp; omega) h
 unfold impl_parities.f
 simpa [ic] using this
theorem small_ok (r m : Nat) (hr : r ≤ 20) (hm : m ≤ 16777216) : r = 0 ∨ (m ≤ 1000000000000 ∧ rch (r - 1) m = true) := .inr ⟨by omega, rch_small _ (by omega) m hm⟩
theorem p20 (k : Nat) (h : k ≤ 20) : 2 ^ k ≤ 1048576 := Nat.pow_le_pow_right (n := 2) (by omega) h
theorem c16 {l : List Nat} (h : ∀ c ∈ l, c < 2) : ∀ c ∈ l, c < 16 := fun c hc => by have := h c hc; omega
theorem cut_iff (pre post : List Nat) (c m : Nat) (h : ∀ x ∈ pre ++ c :: post, x < 2) (i : Int) (hi : i = ((pre.length + 1 : Nat) : Int)) : ((txt (pwd (pre.length + 1) m)).toList = ((txt (pre ++ c :: post)).extract 0 i.toNat).toList) ↔ pwd (pre.length + 1) m = pre ++ [c] := by
 subst hi
 rw [toList_iff, show pre ++ c :: post = (pre ++ [c]) ++ post by simp, Int.toNat_natCast, txt_cut (pre ++ [c]) post _ (by simp)]
 constructor
 · intro e
   exact txt_inj _ _ (c16 (pwd_bits _ _)) (c16 (fun x hx => h x (by simp at hx ⊢; rcases hx with hx | hx <;> simp [hx]))) e
 · intro e; rw [e]
theorem impl_now_loop (post : List Nat) : ∀ (pre : List Nat) (n : Nat), (∀ c ∈ pre ++ post, c < 2) → (pre ++ post).length ≤ 20 → pwd pre.length n = pre → 1 ≤ n → n ≤ 2 ^ pre.length →
   Ev (fun k => impl_NumberOfWord.l0 k (txt (pre ++ post)) (n : Int) ((pre.length + 1 : Nat) : Int)) (((pnum post pre.length n : Nat) : Int), true) := by
 induction post with
 | nil =>
   intro pre n _ _ _ _ _
   refine evs (fun k => by rw [impl_NumberOfWord.l0]) ?_
   exact evn (by rw [txt_size, List.append_nil]; omega) (Ev.now _)
 | cons c post ih =>
   intro pre n hc hl hp h1 h2
   have hl2 : (pre ++ c :: post).length = pre.length + (post.length + 1) := by simp
   have hb := p20 pre.length (by omega)
   have hpow : 2 ^ (pre.length + 1) = 2 ^ pre.length + 2 ^ pre.length := by rw [Nat.pow_succ]; omega
   have hn := pwd_next pre.length n c (hc c (by simp))
   have go : ∀ n' : Nat, pwd (pre.length + 1) n' = pre ++ [c] → 1 ≤ n' → n' ≤ 2 ^ (pre.length + 1) → Ev (fun k => impl_NumberOfWord.l0 k (txt (pre ++ c :: post)) (n' : Int) (((pre.length + 1 : Nat) : Int) + 1)) (((pnum post (pre.length + 1) n' : Nat) : Int), true) := by
     intro n' g1 g2 g3
     have := ih (pre ++ [c]) n' (by simpa using hc) (by simpa using hl) (by simpa using g1) g2 (by simpa using g3)
     rw [List.append_assoc, List.singleton_append, List.length_append, List.length_singleton] at this
     rw [show (((pre.length + 1 : Nat) : Int) + 1) = ((pre.length + 1 + 1 : Nat) : Int) by omega]
     exact this
   refine evs (fun k => by rw [impl_NumberOfWord.l0]) ?_
   refine evp (by rw [txt_size, hl2]; omega) (evb (impl_parities_ev (pre.length + 1) n (by omega) (small_ok _ _ (by omega) (by omega))) (evp (by omega) ?_))
   rw [w64 (x := ((pre.length + 1 : Nat) : Int) + 1) (by omega) (by omega)]
   simp only [pnum]
   rw [hp] at hn ⊢
   by_cases e : pwd (pre.length + 1) n = pre ++ [c]
   · rw [if_pos e]
     exact evp ((cut_iff pre post c n hc _ rfl).2 e) (go n e h1 (by omega))
   · rw [if_neg e]
     have e2 : pwd (pre.length + 1) (n + 2 ^ pre.length) = pre ++ [c] := by
       rcases hn with h | h
       · exact absurd h.1 e
       · exact h.2
     have es := shl_nat 1 pre.length (by omega) (by omega)
     rw [Nat.one_mul] at es
     have es2 : shl .i64 1 (pre.length : Int) = ((2 ^ pre.length : Nat) : Int) := es
     have g := go _ e2 (by omega) (by omega)
     rw [w64 (x := ((pre.length + 1 : Nat) : Int) - 1) (by omega) (by omega), show ((pre.length + 1 : Nat) : Int) - 1 = (pre.length : Int) by omega, es2, show (n : Int) + ((2 ^ pre.length : Nat) : Int) = ((n + 2 ^ pre.length : Nat) : Int) by omega, w64n _ (by omega)]
     exact evn (fun h => e ((cut_iff pre post c n hc _ rfl).1 h)) (evp (by omega) g)
theorem all_iff (w : ByteArray) (n : Nat) : impl_isParity.all w n = true ↔ ∀ i : Nat, i < n → bt w (i : Int) = 48 ∨ bt w (i : Int) = 49 := by
 induction n with
 | zero => simp [impl_isParity.all]
 | succ n ih =>
   simp only [impl_isParity.all, impl_isParity.ok, Bool.and_eq_true, ih, decide_eq_true_eq]
   constructor
   · intro h i hi
     by_cases e : i = n
     · subst e; exact h.2
     · exact h.1 i (by omega)
   · intro h
     exact ⟨fun i hi => h i (by omega), h n (by omega)⟩
theorem txt_all (l : List Nat) (hl : ∀ c ∈ l, c < 2) (i : Nat) (h : i < l.length) : bt (txt l) (i : Int) = 48 + (l[i] : Int) := by
 rw [txt_bt l (c16 hl) i h]
 have := hl _ (List.getElem_mem h)
 unfold sgn
 rw [if_pos (by omega)]
 omega
theorem impl_now_txt (l : List Nat) (hl : ∀ c ∈ l, c < 2) (hn : l.length ≤ 20) : Ev (fun k => impl_NumberOfWord.f k (txt l)) (((pnum l 0 1 : Nat) : Int), true) := by
 have e : impl_isParity.f (txt l) = some true := by
   unfold impl_isParity.f
   rw [if_pos (by rw [txt_size]; omega), txt_size, decide_eq_true hn, Bool.and_true, (all_iff _ _).2 (fun i hi => ?_)]
   rw [txt_all l hl i hi]
   have := hl _ (List.getElem_mem hi)
   omega
 unfold impl_NumberOfWord.f
 refine evc e (evp rfl ?_)
 exact impl_now_loop l [] 1 (by simpa using hl) (by simpa using hn) rfl (by omega) (by simp)
theorem letters_ev (w : ByteArray) (hw : w.size ≤ 20) (e : Nat) : ∀ i : Nat, i + e = w.size → impl_isParity.all w i = true → Ev (fun k => spec_stLetters.l0 k w (i : Int)) (impl_isParity.all w w.size) := by
 induction e with
 | zero =>
   intro i h ha
   have : i = w.size := by omega
   subst this
   rw [ha]
   refine evs (fun k => by rw [spec_stLetters.l0]) ?_
   exact evn (by omega) (Ev.now _)
 | succ e ih =>
   intro i h ha
   refine evs (fun k => by rw [spec_stLetters.l0]) ?_
   refine evp (by omega) (evp (by omega) ?_)
   rw [w64 (x := (i : Int) + 1) (by omega) (by omega)]
   by_cases h1 : bt w (i : Int) = 48 ∨ bt w (i : Int) = 49
   · have h2 := ih (i + 1) (by omega) (by simp only [impl_isParity.all, impl_isParity.ok, ha, Bool.true_and, decide_eq_true_eq]; exact h1)
     rw [show ((i + 1 : Nat) : Int) = (i : Int) + 1 by omega] at h2
     by_cases h3 : bt w (i : Int) = 48
     · exact evp h3 h2
     · exact evn h3 (evp (by omega) h2)
   · have h2 : impl_isParity.all w w.size = false := by
       cases hb : impl_isParity.all w w.size with
       | false => rfl
       | true => exact absurd ((all_iff _ _).1 hb i (by omega)) h1
     rw [h2]
     exact evn (by omega) (evn (by omega) (Ev.now _))
theorem spec_stNumber_eq (x : Int) : spec_stNumber.f x = some (decide (1 ≤ x ∧ x ≤ 1000000000000)) := by simp only [spec_stNumber.f, spec_l1In_eq, Option.bind_some]
theorem impl_isPlace_eq (x : Int) : impl_isPlace.f x = some (decide (1 ≤ x ∧ x ≤ 1000000000000)) := by simp only [impl_isPlace.f, impl_in_eq, Option.bind_some]
theorem l1Num_ev (d : Nat) : Ev (fun k => spec_l1Num.f k (Int.tmod (d : Int) 2)) (strOfNums [((sgn (d % 2) : Nat) : Int)]) := by
 refine evs (fun k => by rw [spec_l1Num.f]) ?_
 have hd := bit_ok d
 rw [hd]
 exact evp (by rw [show (2 : Int) = ((2 : Nat) : Int) from rfl, tmod_cast]; omega) (Ev.now _)
def stW (N m : Nat) : ByteArray × Int × Bool := if rch (N - 1) m = true then (txt (pwd N m), ((shs N m : Nat) : Int), true) else ((⟨#[]⟩ : ByteArray), 0, false)
theorem stW_loop (r : Nat) : ∀ (pre : List Nat) (m : Nat), pre.length + r ≤ 1000 → 1 ≤ m → (r = 0 ∨ m ≤ 1000000000000) →
   Ev (fun k => spec_stWord.l0 k (m : Int) ((pre.length + r : Nat) : Int) (txt pre) (pre.length : Int)) (if rch (r - 1) m = true then (txt (pre ++ pwd r m), ((shs r m : Nat) : Int), true) else ((⟨#[]⟩ : ByteArray), 0, false)) := by
 induction r with
 | zero =>
   intro pre m _ _ _
   refine evs (fun k => by rw [spec_stWord.l0]) ?_
   exact evn (by omega) (evr (by simp [pwd, shs, rch]))
 | succ r ih =>
   intro pre m h1 h2 h3
   have h3 : m ≤ 1000000000000 := by omega
   have hp := shr_pos m h2
   have e1 : (pre ++ [m % 2]).length = pre.length + 1 := by simp
   have z : (txt pre).size + (strOfNums [((sgn (m % 2) : Nat) : Int)]).size ≤ 9223372036854775807 := by
     rw [txt_size, strOfNums_size]
     simp only [List.length_singleton]
     omega
   have h5 := ih (pre ++ [m % 2]) (shr m) (by simp; omega) hp
   rw [e1, List.append_assoc, ← txt_snoc] at h5
   refine evs (fun k => by rw [spec_stWord.l0]) ?_
   refine evp (by omega) (evb (l1Num_ev m) (evp z (evc (short_ok m (by omega)).2 (evc (spec_stNumber_eq _) ?_))))
   rw [w64 (x := (pre.length : Int) + 1) (by omega) (by omega), w64 (x := ((pre.length + (r + 1) : Nat) : Int) - 1) (by omega) (by omega), show (pre.length : Int) + 1 = ((pre.length + 1 : Nat) : Int) by omega, show pre.length + (r + 1) = pre.length + 1 + r by omega]
   by_cases g : shr m ≤ 1000000000000
   · refine evp (decide_eq_true (by omega)) ?_
     have e2 : rch (r + 1 - 1) m = rch (r - 1) (shr m) := by
       cases r with
       | zero => rfl
       | succ r => show (decide (shr m ≤ 1000000000000) && rch r (shr m)) = _; rw [decide_eq_true g, Bool.true_and]; rfl
     rw [e2]
     exact h5 (.inr g)
   · refine evn (by rw [decide_eq_false (by omega)]; simp) ?_
     cases r with
     | zero =>
       refine evn (by omega) ?_
       exact h5 (.inl rfl)
     | succ r =>
       have e3 : ¬ rch (r + 1 + 1 - 1) m = true := by
         show ¬ (decide (shr m ≤ 1000000000000) && rch r (shr m)) = true
         rw [decide_eq_false g]
         simp
       rw [if_neg e3]
       exact evp (by omega) (Ev.now _)
theorem spec_stWord_ev (N m : Nat) (hN : N ≤ 20) (h1 : 1 ≤ m) (h2 : m ≤ 1000000000000) : Ev (fun k => spec_stWord.f k (m : Int) (N : Int)) (stW N m) := by
 have := stW_loop N [] m (by simp; omega) h1 (.inr h2)
 unfold spec_stWord.f stW
 simpa [txt, ic, strOfNums] using this
theorem stW_small (N m : Nat) (hN : N ≤ 20) (hm : m ≤ 16777216) : stW N m = (txt (pwd N m), ((shs N m : Nat) : Int), true) := by
 unfold stW
 rw [if_pos (rch_small _ (by omega) m hm)]
theorem spec_now_loop (post : List Nat) : ∀ (pre : List Nat) (n : Nat), (∀ c ∈ pre ++ post, c < 2) → (pre ++ post).length ≤ 20 → pwd pre.length n = pre → 1 ≤ n → n ≤ 2 ^ pre.length →
   Ev (fun k => spec_stOf.l0 k (txt (pre ++ post)) (n : Int) ((2 ^ pre.length : Nat) : Int) ((pre.length + 1 : Nat) : Int)) ((pnum post pre.length n : Nat) : Int) := by
 induction post with
 | nil =>
   intro pre n _ _ _ _ _
   refine evs (fun k => by rw [spec_stOf.l0]) ?_
   exact evn (by rw [txt_size, List.append_nil]; omega) (Ev.now _)
 | cons c post ih =>
   intro pre n hc hl hp h1 h2
   have hl2 : (pre ++ c :: post).length = pre.length + (post.length + 1) := by simp
   have hb := p20 pre.length (by omega)
   have hpow : 2 ^ (pre.length + 1) = 2 ^ pre.length + 2 ^ pre.length := by rw [Nat.pow_succ]; omega
   have hn := pwd_next pre.length n c (hc c (by simp))
   have go : ∀ n' : Nat, pwd (pre.length + 1) n' = pre ++ [c] → 1 ≤ n' → n' ≤ 2 ^ (pre.length + 1) → Ev (fun k => spec_stOf.l0 k (txt (pre ++ c :: post)) (n' : Int) (wrap64 (((2 ^ pre.length : Nat) : Int) * 2)) (wrap64 (((pre.length + 1 : Nat) : Int) + 1))) ((pnum post (pre.length + 1) n' : Nat) : Int) := by
     intro n' g1 g2 g3
     have := ih (pre ++ [c]) n' (by simpa using hc) (by simpa using hl) (by simpa using g1) g2 (by simpa using g3)
     rw [List.append_assoc, List.singleton_append, List.length_append, List.length_singleton] at this
     rw [w64 (x := ((pre.length + 1 : Nat) : Int) + 1) (by omega) (by omega), show (((pre.length + 1 : Nat) : Int) + 1) = ((pre.length + 1 + 1 : Nat) : Int) by omega, w64 (x := ((2 ^ pre.length : Nat) : Int) * 2) (by omega) (by omega), show ((2 ^ pre.length : Nat) : Int) * 2 = ((2 ^ (pre.length + 1) : Nat) : Int) by omega]
     exact this
   have hw : wrap64 ((n : Int) + ((2 ^ pre.length : Nat) : Int)) = ((n + 2 ^ pre.length : Nat) : Int) := by rw [show (n : Int) + ((2 ^ pre.length : Nat) : Int) = ((n + 2 ^ pre.length : Nat) : Int) by omega, w64n _ (by omega)]
   have sz : (txt (pre ++ c :: post)).size = pre.length + (post.length + 1) := by rw [txt_size, hl2]
   have w1 := spec_stWord_ev (pre.length + 1) n (by omega) h1 (by omega)
   have w2 := spec_stWord_ev (pre.length + 1) (n + 2 ^ pre.length) (by omega) (by omega) (by omega)
   rw [stW_small _ _ (by omega) (by omega)] at w1 w2
   simp only [pnum]
   rw [hp] at hn ⊢
   refine evs (fun k => by rw [spec_stOf.l0]) ?_
   refine evp (by omega) (evc rfl ?_)
   rw [hw]
   refine evs (fun k => by rw [spec_stOf.l1]) ?_
   refine evp (by show (0 : Int) < ((2 : Nat) : Int); omega) (evp (by omega) (evp (by show (0 : Int) < ((2 : Nat) : Int); omega) (evb w1 (evp rfl (evp (by omega) (evp (by omega) ?_))))))
   by_cases e : pwd (pre.length + 1) n = pre ++ [c]
   · rw [if_pos e]
     exact evp ((cut_iff pre post c n hc _ rfl).2 e) (go n e h1 (by omega))
   · rw [if_neg e]
     have e2 : pwd (pre.length + 1) (n + 2 ^ pre.length) = pre ++ [c] := by
       rcases hn with h | h
       · exact absurd h.1 e
       · exact h.2
     refine evn (fun h => e ((cut_iff pre post c n hc _ rfl).1 h)) ?_
     rw [show wrap64 ((0 : Int) + 1) = 1 from w64 (by omega) (by omega)]
     refine evs (fun k => by rw [spec_stOf.l1]) ?_
     refine evp (by show (1 : Int) < ((2 : Nat) : Int); omega) (evp (by omega) (evp (by show (1 : Int) < ((2 : Nat) : Int); omega) (evb w2 (evp rfl (evp (by omega) (evp (by omega) ?_))))))
     exact evp ((cut_iff pre post c _ hc _ rfl).2 e2) (go _ e2 (by omega) (by omega))
theorem now_both (w : ByteArray) (hw : w.size ≤ 1000) : (Ev (fun k => impl_NumberOfWord.f k w) (0, false) ∧ Ev (fun k => spec_NumberOfWord.f k w) (0, false)) ∨ ∃ l : List Nat, (∀ c ∈ l, c < 2) ∧ l.length ≤ 20 ∧ w = txt l ∧ Ev (fun k => impl_NumberOfWord.f k w) (((pnum l 0 1 : Nat) : Int), true) ∧ Ev (fun k => spec_NumberOfWord.f k w) (((pnum l 0 1 : Nat) : Int), true) := by
 by_cases h20 : w.size ≤ 20
 · have hlet : Ev (fun k => spec_stLetters.f k w) (impl_isParity.all w w.size) := by
     unfold spec_stLetters.f
     exact evn (by omega) (letters_ev w h20 w.size 0 (by omega) rfl)
   cases ha : impl_isParity.all w w.size with
   | true =>
     obtain ⟨l, hl, rfl⟩ := txt_bits w ((all_iff _ _).1 ha)
     rw [txt_size] at h20
     right
     refine ⟨l, hl, h20, rfl, impl_now_txt l hl h20, ?_⟩
     rw [ha] at hlet
     unfold spec_NumberOfWord.f
     refine evb hlet (evp rfl (evb (a := ((pnum l 0 1 : Nat) : Int)) ?_ (Ev.now _)))
     unfold spec_stOf.f
     exact spec_now_loop l [] 1 (by simpa using hl) (by simpa using h20) rfl (by omega) (by simp)
   | false =>
     left
     rw [ha] at hlet
     refine ⟨?_, ?_⟩
     · unfold impl_NumberOfWord.f
       refine evc (a := false) ?_ (evn (by simp) (Ev.now _))
       unfold impl_isParity.f
       rw [if_pos (by omega), ha]
       rfl
     · unfold spec_NumberOfWord.f
       exact evb hlet (evn (by simp) (Ev.now _))
 · left
   refine ⟨?_, ?_⟩
   · unfold impl_NumberOfWord.f
     refine evc (a := false) ?_ (evn (by simp) (Ev.now _))
     unfold impl_isParity.f
     rw [if_pos (by omega), decide_eq_false h20, Bool.and_false]
   · unfold spec_NumberOfWord.f
     refine evb (a := false) ?_ (evn (by simp) (Ev.now _))
     unfold spec_stLetters.f
     exact evp (by omega) (Ev.now _)

theorem mxmn (B : Nat) (hB : B ≤ 1000) : mx (wrap64 ((B : Int) - 1)) (mn (B : Int) 0) = ((B - 1 : Nat) : Int) := by
 rw [w64 (by omega) (by omega)]
 unfold mx mn
 rcases Nat.eq_zero_or_pos B with h | h
 · subst h; decide
 · rw [if_pos (show (0 : Int) < (B : Int) by omega), if_neg (by omega)]
   omega
theorem reach_loop (r : Nat) : ∀ (i m : Nat), i + r ≤ 1000 → m ≤ 1000000000000 → Ev (fun k => impl_reaches.l0 k (m : Int) ((i + r : Nat) : Int) (i : Int)) (rch r m) := by
 induction r with
 | zero =>
   intro i m _ _
   refine evs (fun k => by rw [impl_reaches.l0]) ?_
   exact evn (by omega) (Ev.now _)
 | succ r ih =>
   intro i m h1 h2
   refine evs (fun k => by rw [impl_reaches.l0]) ?_
   refine evp (by omega) (evc (short_ok m (by omega)).1 ?_)
   show Ev _ (decide (shr m ≤ 1000000000000) && rch r (shr m))
   by_cases g : shr m ≤ 1000000000000
   · rw [decide_eq_true g, Bool.true_and, w64 (x := (i : Int) + 1) (by omega) (by omega), show (i : Int) + 1 = ((i + 1 : Nat) : Int) by omega, show i + (r + 1) = i + 1 + r by omega]
     exact evn (by omega) (ih (i + 1) (shr m) (by omega) g)
   · rw [decide_eq_false g, Bool.false_and]
     exact evp (by omega) (Ev.now _)
theorem reach_no (a c : Int) (h : ¬ ((1 ≤ a ∧ a ≤ 1000000000000) ∧ 0 ≤ c ∧ c ≤ 20)) : Ev (fun k => impl_reaches.f k a c) false := by
 unfold impl_reaches.f
 refine evc (impl_isPlace_eq a) ?_
 by_cases ha : 1 ≤ a ∧ a ≤ 1000000000000
 · have hc : ¬ (0 ≤ c ∧ c ≤ 20) := fun hc => h ⟨ha, hc⟩
   refine evp (decide_eq_true ha) (evc (impl_in_eq c 0 20) ?_)
   rw [decide_eq_false hc]
   refine evs (fun k => by rw [impl_reaches.j0]) ?_
   exact evp rfl (Ev.now _)
 · refine evn (by rw [decide_eq_false ha]; simp) ?_
   refine evs (fun k => by rw [impl_reaches.j0]) ?_
   exact evp rfl (Ev.now _)
theorem reach_yes (a c : Nat) (ha : 1 ≤ a) (ha2 : a ≤ 1000000000000) (hc : c ≤ 20) : Ev (fun k => impl_reaches.f k (a : Int) (c : Int)) (rch c a) := by
 unfold impl_reaches.f
 refine evc (impl_isPlace_eq _) (evp (decide_eq_true (by omega)) (evc (impl_in_eq _ 0 20) ?_))
 rw [decide_eq_true (show (0 : Int) ≤ (c : Int) ∧ (c : Int) ≤ 20 by omega)]
 refine evs (fun k => by rw [impl_reaches.j0]) ?_
 refine evn (by simp) ?_
 have := reach_loop c 0 a (by omega) ha2
 simpa using this
theorem reach_some (a c : Int) : ∃ t, Ev (fun k => impl_reaches.f k a c) t := by
 by_cases h : (1 ≤ a ∧ a ≤ 1000000000000) ∧ 0 ≤ c ∧ c ≤ 20
 · obtain ⟨a, rfl⟩ := natOf (a := a) (by omega)
   obtain ⟨c, rfl⟩ := natOf (a := c) (by omega)
   exact ⟨_, reach_yes a c (by omega) (by omega) (by omega)⟩
 · exact ⟨_, reach_no a c h⟩
def pwR (a b : Nat) : ByteArray × Bool := if rch (b - 1) a = true then (txt (pwd b a), true) else ((⟨#[]⟩ : ByteArray), false)
def afR (a b : Nat) : Int × Bool := if rch b a = true then (((shs b a : Nat) : Int), true) else (0, false)
abbrev Asked (a b : Int) : Prop := (1 ≤ a ∧ a ≤ 1000000000000) ∧ 0 ≤ b ∧ b ≤ 20
theorem impl_pw_yes (a b : Nat) (ha : 1 ≤ a) (ha2 : a ≤ 1000000000000) (hb : b ≤ 20) : Ev (fun k => impl_ParityWord.f k (a : Int) (b : Int)) (pwR a b) := by
 unfold impl_ParityWord.f
 rw [mxmn b (by omega)]
 refine evb (reach_yes a (b - 1) ha ha2 (by omega)) ?_
 unfold pwR
 by_cases h : rch (b - 1) a = true
 · rw [if_pos h]
   exact evp h (evc (impl_in_eq _ 0 20) (evp (decide_eq_true (by omega)) (evb (impl_parities_ev b a hb (.inr ⟨ha2, h⟩)) (Ev.now _))))
 · rw [if_neg h]
   exact evn h (Ev.now _)
theorem impl_pw_no (a b : Int) (hb : -1 ≤ b ∧ b ≤ 21) (h : ¬ Asked a b) : Ev (fun k => impl_ParityWord.f k a b) ((⟨#[]⟩ : ByteArray), false) := by
 unfold impl_ParityWord.f
 by_cases ha : 1 ≤ a ∧ a ≤ 1000000000000
 · have hb2 : ¬ (0 ≤ b ∧ b ≤ 20) := fun hb2 => h ⟨ha, hb2⟩
   obtain ⟨t, ht⟩ := reach_some a (mx (wrap64 (b - 1)) (mn b 0))
   refine evb ht ?_
   cases t with
   | true => exact evp rfl (evc (impl_in_eq _ 0 20) (evn (by rw [decide_eq_false hb2]; simp) (Ev.now _)))
   | false => exact evn (by simp) (Ev.now _)
 · exact evb (reach_no a _ (fun h => ha h.1)) (evn (by simp) (Ev.now _))
theorem spec_asked (a b : Int) : spec_stAsked.f a b = some (decide ((1 ≤ a ∧ a ≤ 1000000000000) ∧ 0 ≤ b ∧ b ≤ 20)) := by
 unfold spec_stAsked.f
 rw [spec_stNumber_eq, Option.bind_some]
 by_cases h : 1 ≤ a ∧ a ≤ 1000000000000
 · simp [h, spec_l1In_eq]
 · simp [h]
theorem spec_pw_yes (a b : Nat) (ha : 1 ≤ a) (ha2 : a ≤ 1000000000000) (hb : b ≤ 20) : Ev (fun k => spec_ParityWord.f k (a : Int) (b : Int)) (pwR a b) := by
 unfold spec_ParityWord.f
 refine evc (spec_asked _ _) (evp (decide_eq_true (by omega)) (evb (spec_stWord_ev b a hb ha ha2) ?_))
 unfold pwR stW
 split <;> exact Ev.now _
theorem spec_pw_no (a b : Int) (h : ¬ Asked a b) : Ev (fun k => spec_ParityWord.f k a b) ((⟨#[]⟩ : ByteArray), false) := by
 unfold spec_ParityWord.f
 exact evc (spec_asked _ _) (evn (by rw [decide_eq_false h]; simp) (Ev.now _))
theorem impl_af_yes (a b : Nat) (ha : 1 ≤ a) (ha2 : a ≤ 1000000000000) (hb : b ≤ 20) : Ev (fun k => impl_AfterShort.f k (a : Int) (b : Int)) (afR a b) := by
 unfold impl_AfterShort.f
 refine evb (reach_yes a b ha ha2 hb) ?_
 unfold afR
 by_cases h : rch b a = true
 · rw [if_pos h]
   exact evp h (evb (impl_parities_ev b a hb (.inr ⟨ha2, rch_pred b a h⟩)) (Ev.now _))
 · rw [if_neg h]
   exact evn h (Ev.now _)
theorem impl_af_no (a b : Int) (h : ¬ Asked a b) : Ev (fun k => impl_AfterShort.f k a b) (0, false) := by
 unfold impl_AfterShort.f
 exact evb (reach_no a b h) (evn (by simp) (Ev.now _))
theorem spec_af_yes (a b : Nat) (ha : 1 ≤ a) (ha2 : a ≤ 1000000000000) (hb : b ≤ 20) : Ev (fun k => spec_AfterShort.f k (a : Int) (b : Int)) (afR a b) := by
 unfold spec_AfterShort.f
 refine evc (spec_asked _ _) (evp (decide_eq_true (by omega)) (evb (spec_stWord_ev b a hb ha ha2) ?_))
 have hp := shs_pos b a ha
 have e : rch b a = (rch (b - 1) a && decide (shs b a ≤ 1000000000000)) := by
   cases b with
   | zero => simp [rch, shs, ha2]
   | succ b => exact rch_succ b a
 unfold afR stW
 by_cases h : rch (b - 1) a = true
 · rw [if_pos h]
   refine evp rfl ?_
   rw [e, h, Bool.true_and]
   by_cases g : shs b a ≤ 1000000000000
   · rw [if_pos (decide_eq_true g)]
     refine evc (a := (((shs b a : Nat) : Int), true)) ?_ (Ev.now _)
     show spec_stIf.f ((shs b a : Nat) : Int) = _
     unfold spec_stIf.f
     rw [spec_stNumber_eq, Option.bind_some, decide_eq_true (by omega)]
     rfl
   · rw [decide_eq_false g, if_neg Bool.false_ne_true]
     refine evc (a := (0, false)) ?_ (Ev.now _)
     show spec_stIf.f ((shs b a : Nat) : Int) = _
     unfold spec_stIf.f
     rw [spec_stNumber_eq, Option.bind_some, decide_eq_false (by omega)]
     rfl
 · rw [if_neg h, e, Bool.eq_false_iff.2 h, Bool.false_and]
   exact evn Bool.false_ne_true (evr (by simp))
theorem spec_af_no (a b : Int) (h : ¬ Asked a b) : Ev (fun k => spec_AfterShort.f k a b) (0, false) := by
 unfold spec_AfterShort.f
 exact evc (spec_asked _ _) (evn (by rw [decide_eq_false h]; simp) (Ev.now _))
theorem asc_txt (l : List Nat) (hl : ∀ c ∈ l, c < 2) (n : Nat) (hn : n ≤ l.length) : impl_OddCount.asc (txt l) n = true := by
 induction n with
 | zero => rfl
 | succ n ih =>
   have := hl _ (List.getElem_mem (show n < l.length by omega))
   simp only [impl_OddCount.asc, ih (by omega), Bool.true_and, decide_eq_true_eq]
   rw [txt_all l hl n (by omega)]
   omega
theorem cnt_txt (l : List Nat) (hl : ∀ c ∈ l, c < 2) (n : Nat) (hn : n ≤ l.length) : impl_OddCount.cnt (txt l) n = (l.take n).sum := by
 induction n with
 | zero => rfl
 | succ n ih =>
   have := hl _ (List.getElem_mem (show n < l.length by omega))
   simp only [impl_OddCount.cnt]
   rw [ih (by omega), txt_all l hl n (by omega), List.take_succ_eq_append_getElem (by omega), List.sum_append]
   simp only [List.sum_cons, List.sum_nil]
   split <;> omega
theorem cnt_le (s : ByteArray) (n : Nat) : impl_OddCount.cnt s n ≤ n := by
 induction n with
 | zero => exact Nat.le_refl _
 | succ n ih => simp only [impl_OddCount.cnt]; split <;> omega
theorem impl_oc (a b : Int) (r : ByteArray × Bool) (h : Ev (fun k => impl_ParityWord.f k a b) r) (l : List Nat) (hl : ∀ c ∈ l, c < 2) (hn : l.length ≤ 20) (e : r.1 = txt l) : Ev (fun k => impl_OddCount.f k a b) (((impl_OddCount.cnt r.1 r.1.size : Nat) : Int), r.2) := by
 unfold impl_OddCount.f
 refine evb h ?_
 rw [e]
 exact evp (by rw [txt_size]; omega) (evp (by rw [txt_size]; exact asc_txt l hl _ (Nat.le_refl _)) (Ev.now _))
theorem ones_loop (w : ByteArray) (hw : w.size ≤ 1000) (e : Nat) : ∀ i : Nat, i + e = w.size → Ev (fun k => spec_stOnes.l0 k w (impl_OddCount.cnt w i : Int) (i : Int)) ((impl_OddCount.cnt w w.size : Nat) : Int) := by
 induction e with
 | zero =>
   intro i h
   have : i = w.size := by omega
   subst this
   refine evs (fun k => by rw [spec_stOnes.l0]) ?_
   exact evn (by omega) (Ev.now _)
 | succ e ih =>
   intro i h
   have h2 := ih (i + 1) (by omega)
   have hc := cnt_le w i
   simp only [impl_OddCount.cnt] at h2
   rw [show ((i + 1 : Nat) : Int) = (i : Int) + 1 by omega] at h2
   refine evs (fun k => by rw [spec_stOnes.l0]) ?_
   refine evp (by omega) (evp (by omega) ?_)
   rw [w64 (x := (i : Int) + 1) (by omega) (by omega)]
   by_cases g : bt w (i : Int) = 49
   · rw [if_pos g] at h2
     rw [w64 (by omega) (by omega)]
     exact evp g h2
   · rw [if_neg g, Nat.add_zero] at h2
     exact evn g h2
theorem pwR_txt (a b : Nat) (hb : b ≤ 20) : ∃ l : List Nat, (∀ c ∈ l, c < 2) ∧ l.length ≤ 20 ∧ (pwR a b).1 = txt l := by
 unfold pwR
 split
 · exact ⟨pwd b a, pwd_bits b a, by rw [pwd_len]; exact hb, rfl⟩
 · exact ⟨[], by simp, by simp, rfl⟩
theorem spec_oc_yes (a b : Nat) (ha : 1 ≤ a) (ha2 : a ≤ 1000000000000) (hb : b ≤ 20) : Ev (fun k => spec_OddCount.f k (a : Int) (b : Int)) (((impl_OddCount.cnt (pwR a b).1 (pwR a b).1.size : Nat) : Int), (pwR a b).2) := by
 unfold spec_OddCount.f
 refine evc (spec_asked _ _) (evp (decide_eq_true (by omega)) (evb (spec_stWord_ev b a hb ha ha2) ?_))
 have e1 : (stW b a).1 = (pwR a b).1 := by unfold stW pwR; split <;> rfl
 have e2 : (stW b a).2.2 = (pwR a b).2 := by unfold stW pwR; split <;> rfl
 obtain ⟨l, _, hl, e⟩ := pwR_txt a b hb
 rw [e1, e2]
 have := ones_loop (pwR a b).1 (by rw [e, txt_size]; omega) (pwR a b).1.size 0 (by omega)
 refine evb (a := ((impl_OddCount.cnt (pwR a b).1 (pwR a b).1.size : Nat) : Int)) ?_ (Ev.now _)
 unfold spec_stOnes.f
 exact this
theorem spec_oc_no (a b : Int) (h : ¬ Asked a b) : Ev (fun k => spec_OddCount.f k a b) (0, false) := by
 unfold spec_OddCount.f
 exact evc (spec_asked _ _) (evn (by rw [decide_eq_false h]; simp) (Ev.now _))
theorem l1_ok (a B : Nat) (ha : 1 ≤ a) (ha2 : a ≤ 1000000000000) (hB : B ≤ 20) (hr : rch (B - 1) a = true) (r : Nat) : ∀ i : Nat, i + r = B →
   Ev (fun k => laws_FnParityWords.l1 k (B : Int) (txt (pwd B a)) (afR a B).1 (afR a B).2 ((shs i a : Nat) : Int) (i : Int)) true := by
 induction r with
 | zero =>
   intro i h
   have : i = B := by omega
   subst this
   refine evs (fun k => by rw [laws_FnParityWords.l1]) ?_
   refine evn (by omega) ?_
   unfold afR
   by_cases g : rch i a = true
   · rw [if_pos g]
     exact evp rfl (evr (by simp))
   · rw [if_neg g]
     exact evn (by simp) (Ev.now _)
 | succ r ih =>
   intro i h
   have hsz : (txt (pwd B a)).size = B := by rw [txt_size, pwd_len]
   have hm : shs i a ≤ 1000000000000 := rch_at (B - 1) a i (by omega) ha2 hr
   have hp := shs_pos i a ha
   have hbt : bt (txt (pwd B a)) (i : Int) = 48 + ((shs i a % 2 : Nat) : Int) := by
     rw [txt_all _ (pwd_bits B a) i (by rw [pwd_len]; omega), pwd_get B i (by omega) a]
   have hss := shs_succ i a
   refine evs (fun k => by rw [laws_FnParityWords.l1]) ?_
   refine evp (by omega) (evp (by omega) (evp (by omega) (evn ?_ ?_)))
   · rw [hbt, show (2 : Int) = ((2 : Nat) : Int) from rfl, tmod_cast]
     rcases Nat.mod_two_eq_zero_or_one (shs i a) with g | g <;> rw [g] <;> decide
   · rw [w64 (x := (i : Int) + 1) (by omega) (by omega), w64 (x := (B : Int) - 1) (by omega) (by omega)]
     have hst : impl_ShortStep.f ((shs i a : Nat) : Int) = some (if shs (i + 1) a ≤ 1000000000000 then (((shs (i + 1) a : Nat) : Int), true) else (0, false)) := by
       unfold impl_ShortStep.f impl_told.f
       rw [impl_isPlace_eq, Option.bind_some, decide_eq_true (by omega), if_pos rfl, (short_ok _ (by omega)).1, Option.bind_some, ← hss]
       by_cases g : shs (i + 1) a ≤ 1000000000000
       · rw [if_pos g, if_neg (by omega)]; rfl
       · rw [if_neg g, if_pos (by omega)]; rfl
     refine evc hst ?_
     by_cases g : shs (i + 1) a ≤ 1000000000000
     · rw [if_pos g]
       have := ih (i + 1) (by omega)
       rw [show ((i + 1 : Nat) : Int) = (i : Int) + 1 by omega] at this
       exact evp rfl this
     · rw [if_neg g]
       refine evn (by simp) ?_
       have hi : i + 1 = B := by
         rcases Nat.lt_or_ge (B - 1) (i + 1) with h1 | h1
         · omega
         · exact absurd (rch_at (B - 1) a (i + 1) h1 ha2 hr) g
       subst hi
       refine evp (by omega) ?_
       have hno : ¬ rch (i + 1) a = true := by
         rw [rch_succ, decide_eq_false g]
         simp
       unfold afR
       rw [if_neg hno]
       exact Ev.now _
theorem dvd_sub (a n q : Nat) (B : Nat) (ha : a ≤ 1000000000000) (hn : n ≤ 1000000000000) (h : a = n + q * 2 ^ B ∨ n = a + q * 2 ^ B) : Int.tmod (wrap64 ((a : Int) - (n : Int))) ((2 ^ B : Nat) : Int) = 0 := by
 rw [w64 (by omega) (by omega)]
 rcases h with h | h
 · rw [show (a : Int) - (n : Int) = ((q * 2 ^ B : Nat) : Int) by omega, tmod_cast, Nat.mul_mod_left]
   rfl
 · rw [show (a : Int) - (n : Int) = -((q * 2 ^ B : Nat) : Int) by omega, Int.neg_tmod, tmod_cast, Nat.mul_mod_left]
   rfl
theorem j2_ok (l : List Int) (hl : ∀ x ∈ l, 0 ≤ x ∧ x ≤ 255) : Ev (fun k => laws_FnParityWords.j2 k l) true := by
 obtain ⟨a, b, hb, e⟩ := drawPar_ok l hl
 refine evs (fun k => by rw [laws_FnParityWords.j2]) ?_
 refine evb e ?_
 by_cases h : Asked a b
 · have h' := h
   unfold Asked at h
   obtain ⟨a, rfl⟩ := natOf (a := a) (by omega)
   obtain ⟨b, rfl⟩ := natOf (a := b) (by omega)
   have ha : 1 ≤ a := by omega
   have ha2 : a ≤ 1000000000000 := by omega
   have hb2 : b ≤ 20 := by omega
   obtain ⟨lw, hw1, hw2, hw3⟩ := pwR_txt a b hb2
   have i1 := impl_pw_yes a b ha ha2 hb2
   refine evb i1 (evb (spec_pw_yes a b ha ha2 hb2) (evb (impl_oc _ _ _ i1 lw hw1 hw2 hw3) (evb (spec_oc_yes a b ha ha2 hb2) (evb (impl_af_yes a b ha ha2 hb2) (evb (spec_af_yes a b ha ha2 hb2) ?_)))))
   refine evn (by simp) (evp rfl (evn (by simp) (evp rfl (evn (by simp) (evp rfl ?_)))))
   refine evs (fun k => by rw [laws_FnParityWords.j3]) ?_
   refine evn (by simp) ?_
   by_cases g : rch (b - 1) a = true
   · have e1 : pwR a b = (txt (pwd b a), true) := by unfold pwR; rw [if_pos g]
     rw [e1]
     obtain ⟨n1, n2, n3⟩ := pnum_ok (pwd b a) 0 1 (pwd_bits b a) (by omega) (by simp)
     have hpw := p20 b hb2
     rw [pwd_len, Nat.zero_add] at n1 n3
     rw [show pwd 0 1 = [] from rfl, List.nil_append] at n1
     have es := shl_nat 1 b (by omega) (by omega)
     rw [Nat.one_mul] at es
     have es2 : shl .i64 1 (b : Int) = ((2 ^ b : Nat) : Int) := es
     have hpos : 0 < 2 ^ b := Nat.pow_pos (by omega)
     refine evp rfl (evb (impl_now_txt (pwd b a) (pwd_bits b a) (by rw [pwd_len]; exact hb2)) (evp rfl (evp (by omega) (evn (by rw [es2]; omega) ?_))))
     rw [es2]
     have hd : Int.tmod (wrap64 ((a : Int) - ((pnum (pwd b a) 0 1 : Nat) : Int))) ((2 ^ b : Nat) : Int) = 0 := by
       rcases Nat.le_total (pnum (pwd b a) 0 1) a with hle | hle
       · obtain ⟨q, hq⟩ := pwd_inj b _ _ hle n1
         exact dvd_sub a _ q b ha2 (by omega) (.inl hq)
       · obtain ⟨q, hq⟩ := pwd_inj b _ _ hle n1.symm
         exact dvd_sub a _ q b ha2 (by omega) (.inr hq)
     rw [hd]
     refine evs (fun k => by rw [laws_FnParityWords.j4]) ?_
     refine evn (by simp) ?_
     exact l1_ok a b ha ha2 hb2 g b 0 (by omega)
   · have e1 : pwR a b = ((⟨#[]⟩ : ByteArray), false) := by unfold pwR; rw [if_neg g]
     rw [e1]
     exact evn (by simp) (Ev.now _)
 · have i1 := impl_pw_no a b hb h
   refine evb i1 (evb (spec_pw_no a b h) (evb (impl_oc _ _ _ i1 [] (by simp) (by simp) rfl) (evb (spec_oc_no a b h) (evb (impl_af_no a b h) (evb (spec_af_no a b h) ?_)))))
   refine evn (by simp) (evp rfl (evn (by simp) (evp rfl (evn (by simp) (evp rfl ?_)))))
   refine evs (fun k => by rw [laws_FnParityWords.j3]) ?_
   refine evn (by simp) ?_
   exact evn (by simp) (Ev.now _)
theorem l0_ok (l1 : List Int) (hl : ∀ x ∈ l1, 0 ≤ x ∧ x ≤ 255) (l : List Nat) (hb : ∀ c ∈ l, c < 2) (h20 : l.length ≤ 20) (n q : Nat) (hn : 1 ≤ n) (hn2 : n ≤ 2 ^ l.length) (hq : q ≤ 7) (v : Int) (hv : v = ((shs l.length n : Nat) : Int)) (hpw : pwd l.length n = l) (x : Nat) : ∀ i : Nat, i + x = l.length →
   Ev (fun k => laws_FnParityWords.l0 k l1 (txt l) (n : Int) (l.length : Int) (txt l) true ((impl_OddCount.cnt (txt l) l.length : Nat) : Int) true v true (q : Int) (txt l) true (((shs l.length n + q * 3 ^ ones l.length n : Nat)) : Int) true ((3 ^ impl_OddCount.cnt (txt l) i : Nat) : Int) ((impl_OddCount.cnt (txt l) i : Nat) : Int) (i : Int)) true := by
 have h2 := p20 l.length h20
 have h3 : ∀ j : Nat, j ≤ 20 → 3 ^ j ≤ 3486784401 := fun j hj => Nat.pow_le_pow_right (n := 3) (by omega) hj
 induction x with
 | zero =>
   intro i hi
   have : i = l.length := by omega
   subst this
   have es := shl_nat 1 l.length (by omega) (by omega)
   rw [Nat.one_mul] at es
   have es2 : shl .i64 1 (l.length : Int) = ((2 ^ l.length : Nat) : Int) := es
   have ec : impl_OddCount.cnt (txt l) l.length = ones l.length n := by
     rw [cnt_txt l hb _ (Nat.le_refl _), List.take_length]
     unfold ones
     rw [hpw]
   have hc := cnt_le (txt l) l.length
   refine evs (fun k => by rw [laws_FnParityWords.l0]) ?_
   refine evn (by omega) (evn (by omega) (evp (by omega) (evn (by rw [es2]; omega) (evp rfl (evp rfl (evp rfl (evp rfl (evp rfl (evp rfl (evp rfl (evp rfl (evp ?_ (j2_ok l1 hl)))))))))))))
   rw [ec] at hc ⊢
   have hsm : shs l.length n ≤ 1000000000000 := rch_at l.length n l.length (Nat.le_refl _) (by omega) (rch_small _ h20 n (by omega))
   have h4 := h3 (ones l.length n) (by omega)
   have h5 : q * 3 ^ ones l.length n ≤ 7 * 3486784401 := Nat.mul_le_mul hq h4
   rw [hv, show (q : Int) * ((3 ^ ones l.length n : Nat) : Int) = ((q * 3 ^ ones l.length n : Nat) : Int) by simp, w64n _ (by omega), show ((shs l.length n : Nat) : Int) + ((q * 3 ^ ones l.length n : Nat) : Int) = ((shs l.length n + q * 3 ^ ones l.length n : Nat) : Int) by omega, w64n _ (by omega)]
 | succ x ih =>
   intro i hi
   have hsz := txt_size l
   have hc := cnt_le (txt l) i
   have h4 := h3 (impl_OddCount.cnt (txt l) i) (by omega)
   have h5 := ih (i + 1) (by omega)
   refine evs (fun k => by rw [laws_FnParityWords.l0]) ?_
   refine evp (by omega) (evp (by omega) (evp (by omega) ?_))
   simp only [impl_OddCount.cnt] at h5
   rw [show ((i + 1 : Nat) : Int) = (i : Int) + 1 by omega] at h5
   rw [w64 (x := (i : Int) + 1) (by omega) (by omega)]
   by_cases g : bt (txt l) (i : Int) = 49
   · rw [if_pos g, Nat.pow_succ] at h5
     refine evp g ?_
     rw [show ((3 ^ impl_OddCount.cnt (txt l) i : Nat) : Int) * 3 = ((3 ^ impl_OddCount.cnt (txt l) i * 3 : Nat) : Int) by simp, w64n _ (by omega), w64 (x := ((impl_OddCount.cnt (txt l) i : Nat) : Int) + 1) (by omega) (by omega)]
     exact h5
   · rw [if_neg g, Nat.add_zero] at h5
     exact evn g h5
theorem FnParityWords : laws_FnParityWords.Pure := by
 intro l0 l1 _ _ w0 _ _ w1
 have hb : ∀ l : List Int, (∀ x ∈ l, (Lit.int .u8 x).wf = true) → ∀ x ∈ l, 0 ≤ x ∧ x ≤ 255 := by
   intro l h x hx
   have := h x hx
   simpa [Lit.wf, IntKind.min, IntKind.max, IntKind.signed, IntKind.bits] using this
 have hl0 := hb l0 w0
 have hl1 := hb l1 w1
 refine Ev.rounds (g := fun k => laws_FnParityWords.f k l0 l1) ?_
 unfold laws_FnParityWords.f
 obtain ⟨t, ht⟩ : ∃ t, laws_big.f l0 l1 = some t := by
   unfold laws_big.f
   split <;> exact ⟨_, rfl⟩
 refine evc ht ?_
 cases t with
 | true => exact evp rfl (Ev.now _)
 | false =>
   refine evn (by simp) ?_
   obtain ⟨w, hw, e⟩ := drawWord_ok l0 hl0
   refine evb e ?_
   rcases now_both w hw with ⟨n1, n2⟩ | ⟨l, hlb, h20, rfl, n1, n2⟩
   · refine evb n1 (evb n2 (evn (by simp) ?_))
     refine evs (fun k => by rw [laws_FnParityWords.j0]) ?_
     exact evn (by simp) (evn (by simp) (j2_ok l1 hl1))
   · refine evb n1 (evb n2 (evn (by simp) ?_))
     refine evs (fun k => by rw [laws_FnParityWords.j0]) ?_
     refine evn (by simp) (evp rfl ?_)
     obtain ⟨q1, q2, q3⟩ := pnum_ok l 0 1 hlb (by omega) (by simp)
     rw [Nat.zero_add] at q1 q3
     rw [show pwd 0 1 = [] from rfl, List.nil_append] at q1
     generalize hn : pnum l 0 1 = n at q1 q2 q3
     have h2 := p20 l.length h20
     obtain ⟨q, hq, hq7⟩ : ∃ q : Nat, 1 + ((l1.length : Int) % 7) = (q : Int) ∧ q ≤ 7 := ⟨1 + l1.length % 7, by omega, by omega⟩
     rw [hq, txt_size]
     have hqm : q * 2 ^ l.length ≤ 7 * 1048576 := Nat.mul_le_mul hq7 h2
     have es := shl_nat q l.length (by omega) (by omega)
     have ep : ∀ m : Nat, 1 ≤ m → m ≤ 16777216 → pwd l.length m = l → pwR m l.length = (txt l, true) ∧ afR m l.length = (((shs l.length m : Nat) : Int), true) := by
       intro m h1 h2 h3
       unfold pwR afR
       rw [if_pos (rch_small _ (by omega) m h2), if_pos (rch_small _ (by omega) m h2), h3]
       exact ⟨rfl, rfl⟩
     have hadd := pwd_add l.length n q
     rw [es, show (n : Int) + ((q * 2 ^ l.length : Nat) : Int) = ((n + q * 2 ^ l.length : Nat) : Int) by omega, w64n _ (by omega)]
     have p1 := impl_pw_yes n l.length q2 (by omega) h20
     have p2 := impl_pw_yes (n + q * 2 ^ l.length) l.length (by omega) (by omega) h20
     have a1 := impl_af_yes n l.length q2 (by omega) h20
     have a2 := impl_af_yes (n + q * 2 ^ l.length) l.length (by omega) (by omega) h20
     rw [(ep n q2 (by omega) q1).1] at p1
     rw [(ep n q2 (by omega) q1).2] at a1
     rw [(ep _ (by omega) (by omega) (hadd.1.trans q1)).1] at p2
     rw [(ep _ (by omega) (by omega) (hadd.1.trans q1)).2, hadd.2] at a2
     have oc := impl_oc _ _ _ p1 l hlb h20 rfl
     rw [txt_size] at oc
     refine evb p1 (evb oc (evb a1 (evb p2 (evb a2 ?_))))
     exact l0_ok l1 hl1 l hlb h20 n q q2 q3 hq7 _ rfl q1 l.length 0 (by omega)

end Go.Proofs.Ytikkpehjleoplaa.Pure
