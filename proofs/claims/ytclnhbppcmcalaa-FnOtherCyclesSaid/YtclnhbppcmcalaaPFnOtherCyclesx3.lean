-- out of the kit's print, turned by wip/own_print.py
import Derived.Test.YtclnhbppcmcalaaPFnOtherCyclesx0
import Derived.Test.YtclnhbppcmcalaaPFnOtherCyclesx1
import Derived.Test.YtclnhbppcmcalaaPFnOtherCyclesx2
namespace Go.Proofs.Ytclnhbppcmcalaa.PFnOtherCycles
open Go.RowKit Go.Proofs.YtclnhbppcmcalaaW.PrintWords Go.Proofs.YtclnhbppcmcalaaW.PrintLast Go.Proofs.YtclnhbppcmcalaaW.PrintMore
attribute [local go_sem] max2_int min2_int max_two min_two max_three min_three max_four min_four   -- for this text's walks alone
set_option linter.unusedVariables false
set_option linter.unusedSimpArgs false

/-! ### impl_CyclesWith: function 32 -/
open Go.Shelf Go.RowKit Go.Lib Go.Sort in
def impl_CyclesWith.ren : Go.Shelf.Ren := ⟨fun | 6 => 67 | 15 => 83 | 14 => 88 | 28 => 102 | 29 => 103 | 20 => 107 | 21 => 108 | 22 => 109 | 23 => 110 | 24 => 111 | 25 => 112 | 26 => 113 | 27 => 114 | 46 => 124 | 47 => 119 | 48 => 120 | 49 => 125 | 50 => 126 | 57 => 128 | n => n, fun | 22 => 35 | 24 => 25 | 25 => 60 | 3 => 3 | 39 => 66 | 0 => 0 | 53 => 80 | 55 => 48 | 4 => 4 | 46 => 73 | 45 => 72 | 50 => 28 | 5 => 5 | 9 => 9 | 66 => 92 | 70 => 96 | 76 => 100 | 77 => 33 | n => n, fun | n => n⟩
open Go.Shelf Go.RowKit Go.Lib Go.Sort in
theorem impl_CyclesWith.lay : Go.Proofs.SlLaysF.n6 Try.prog impl_CyclesWith.ren := {
 mixed := by kernel_rfl
 f6 := ⟨Try.f67.name, by decide, Try.func67.trans (congrArg some (by kernel_rfl))⟩
 f14 := ⟨Try.f88.name, by decide, Try.func88.trans (congrArg some (by kernel_rfl))⟩
 f15 := Try.func83.trans (congrArg some (by kernel_rfl))
 f20 := ⟨Try.f107.name, by decide, Try.func107.trans (congrArg some (by kernel_rfl))⟩
 f21 := ⟨Try.f108.name, by decide, Try.func108.trans (congrArg some (by kernel_rfl))⟩
 f22 := ⟨Try.f109.name, by decide, Try.func109.trans (congrArg some (by kernel_rfl))⟩
 f23 := ⟨Try.f110.name, by decide, Try.func110.trans (congrArg some (by kernel_rfl))⟩
 f24 := ⟨Try.f111.name, by decide, Try.func111.trans (congrArg some (by kernel_rfl))⟩
 f25 := ⟨Try.f112.name, by decide, Try.func112.trans (congrArg some (by kernel_rfl))⟩
 f26 := ⟨Try.f113.name, by decide, Try.func113.trans (congrArg some (by kernel_rfl))⟩
 f27 := ⟨Try.f114.name, by decide, Try.func114.trans (congrArg some (by kernel_rfl))⟩
 f28 := Try.func102.trans (congrArg some (by kernel_rfl))
 f29 := Try.func103.trans (congrArg some (by kernel_rfl))
 f46 := ⟨Try.f124.name, by decide, Try.func124.trans (congrArg some (by kernel_rfl))⟩
 f47 := Try.func119.trans (congrArg some (by kernel_rfl))
 f48 := Try.func120.trans (congrArg some (by kernel_rfl))
 f49 := ⟨Try.f125.name, by decide, Try.func125.trans (congrArg some (by kernel_rfl))⟩
 f50 := ⟨Try.f126.name, by decide, Try.func126.trans (congrArg some (by kernel_rfl))⟩
 f57 := ⟨Try.f128.name, by decide, Try.func128.trans (congrArg some (by kernel_rfl))⟩
 t0 := Try.underlying0
 a0 := Try.isAgg0
 z0 := Try.sizeOf0
 v0 := Try.zeroValue0
 t3 := Try.underlying3
 a3 := Try.isAgg3
 z3 := Try.sizeOf3
 v3 := Try.zeroValue3
 t4 := Try.underlying4
 a4 := Try.isAgg4
 z4 := Try.sizeOf4
 v4 := Try.zeroValue4
 t5 := Try.underlying5
 a5 := Try.isAgg5
 z5 := Try.sizeOf5
 v5 := Try.zeroValue5
 t9 := Try.underlying9
 a9 := Try.isAgg9
 z9 := Try.sizeOf9
 v9 := Try.zeroValue9
 t22 := Try.underlying35
 a22 := Try.isAgg35
 z22 := Try.sizeOf35
 v22 := Try.zeroValue35
 a24 := Try.isAgg25
 z24 := Try.sizeOf25
 t25 := Try.underlying60
 a25 := Try.isAgg60
 z25 := Try.sizeOf60
 v25 := Try.zeroValue60
 t39 := Try.underlying66
 a39 := Try.isAgg66
 z39 := Try.sizeOf66
 v39 := Try.zeroValue66
 t45 := Try.underlying72
 a45 := Try.isAgg72
 z45 := Try.sizeOf72
 v45 := Try.zeroValue72
 t46 := Try.underlying73
 a46 := Try.isAgg73
 z46 := Try.sizeOf73
 v46 := Try.zeroValue73
 t50 := Try.underlying28
 a50 := Try.isAgg28
 z50 := Try.sizeOf28
 v50 := Try.zeroValue28
 t53 := Try.underlying80
 a53 := Try.isAgg80
 z53 := Try.sizeOf80
 v53 := Try.zeroValue80
 t55 := Try.underlying48
 a55 := Try.isAgg48
 z55 := Try.sizeOf48
 v55 := Try.zeroValue48
 t66 := Try.underlying92
 a66 := Try.isAgg92
 z66 := Try.sizeOf92
 v66 := Try.zeroValue92
 t70 := Try.underlying96
 a70 := Try.isAgg96
 z70 := Try.sizeOf96
 v70 := Try.zeroValue96
 t76 := Try.underlying100
 a76 := Try.isAgg100
 z76 := Try.sizeOf100
 v76 := Try.zeroValue100
 t77 := Try.underlying33
 a77 := Try.isAgg33
 z77 := Try.sizeOf33
 v77 := Try.zeroValue33 }
open Go.Shelf Go.RowKit Go.Lib Go.Sort in
theorem impl_CyclesWith.sort_ {α : Type} [Inhabited α] (enc : α → Value) (h1 : OneCell enc) (cf : α → α → Int) (hO : SWO (ltOf cf)) (g : Nat) (cb : Array Value) (blk off cap : Nat) (d : Array α) (w : World) (eg : ∀ args w, (callFunc g args).run Try.prog w = .ok (.enter g args) w) (hcmp : CmpLays1 Try.prog g cb enc cf blk off d.size w) (hH : Holds enc w blk off d) (hblk : blk < w.heap.size) (hsz : d.size < 4611686018427387904) :
  Calls Try.prog 67 #[.slice (some ⟨blk, off, none⟩) d.size cap, .func (.func g) #[] cb] w fun e w' =>
   e = .returned (.tuple #[]) ∧ ∃ d' n os, PermIn 0 d.size d d' ∧ SortedIn (ltOf cf) 0 d.size d' ∧ w' = sortWorld enc w blk off n d' os := Any.slices_SortFunc impl_CyclesWith.lay enc h1 cf hO g cb blk off cap d w eg hcmp hH hblk hsz
/-- slices.Compare, as one function. -/
def impl_CyclesWith.cm : List Int → List Int → Int
 | [], [] => 0
 | [], _ :: _ => -1
 | _ :: _, [] => 1
 | x :: l, y :: m => if x < y then -1 else if y < x then 1 else impl_CyclesWith.cm l m
theorem impl_CyclesWith.cm_self (l : List Int) : impl_CyclesWith.cm l l = 0 := by
 induction l with
 | nil => rfl
 | cons x l ih => simp only [impl_CyclesWith.cm]; rw [if_neg (by omega), if_neg (by omega), ih]
theorem impl_CyclesWith.cm_swap (l : List Int) : ∀ m, impl_CyclesWith.cm m l = -impl_CyclesWith.cm l m := by
 induction l with
 | nil => intro m; cases m <;> rfl
 | cons x l ih =>
  intro m
  cases m with
  | nil => rfl
  | cons y m =>
   simp only [impl_CyclesWith.cm]
   by_cases h1 : x < y
   ·rw [if_pos h1, if_neg (by omega), if_pos h1]; rfl
   ·by_cases h2 : y < x
    ·rw [if_pos h2, if_neg h1, if_pos h2]
    ·rw [if_neg h2, if_neg h1, if_neg h1, if_neg h2, ih]
theorem impl_CyclesWith.cm_zero (l : List Int) : ∀ m, impl_CyclesWith.cm l m = 0 → l = m := by
 induction l with
 | nil => intro m h; cases m with
  | nil => rfl
  | cons y m => simp [impl_CyclesWith.cm] at h
 | cons x l ih =>
  intro m h
  cases m with
  | nil => simp [impl_CyclesWith.cm] at h
  | cons y m =>
   simp only [impl_CyclesWith.cm] at h
   by_cases h1 : x < y
   ·rw [if_pos h1] at h; simp at h
   ·by_cases h2 : y < x
    ·rw [if_neg h1, if_pos h2] at h; simp at h
    ·rw [if_neg h1, if_neg h2] at h
     rw [ih m h, show x = y by omega]
theorem impl_CyclesWith.cm_trans (l : List Int) : ∀ m n, impl_CyclesWith.cm l m ≤ 0 → impl_CyclesWith.cm m n ≤ 0 → impl_CyclesWith.cm l n ≤ 0 := by
 induction l with
 | nil => intro m n _ _; cases n <;> simp [impl_CyclesWith.cm]
 | cons x l ih =>
  intro m n h1 h2
  cases m with
  | nil => simp [impl_CyclesWith.cm] at h1
  | cons y m =>
   cases n with
   | nil => simp [impl_CyclesWith.cm] at h2
   | cons z n =>
    simp only [impl_CyclesWith.cm] at h1 h2 ⊢
    by_cases a1 : x < y
    ·by_cases b1 : y < z
     ·rw [if_pos (by omega)]; omega
     ·by_cases b2 : z < y
      ·rw [if_neg b1, if_pos b2] at h2; omega
      ·rw [if_pos (by omega)]; omega
    ·by_cases a2 : y < x
     ·rw [if_neg a1, if_pos a2] at h1; omega
     ·rw [if_neg a1, if_neg a2] at h1
      by_cases b1 : y < z
      ·rw [if_pos (by omega)]; omega
      ·by_cases b2 : z < y
       ·rw [if_neg b1, if_pos b2] at h2; omega
       ·rw [if_neg b1, if_neg b2] at h2
        rw [if_neg (by omega), if_neg (by omega)]
        exact ih m n h1 h2
theorem impl_CyclesWith.swo {α : Type} (f : α → List Int) : Go.Sort.SWO (Go.Proofs.ltOf fun i j : α => impl_CyclesWith.cm (f i) (f j)) where
 irrefl x := by
  show decide (impl_CyclesWith.cm (f x) (f x) < 0) = false
  rw [impl_CyclesWith.cm_self]
  rfl
 trans x y z h1 h2 := by
  replace h1 : impl_CyclesWith.cm (f x) (f y) < 0 := of_decide_eq_true h1
  replace h2 : impl_CyclesWith.cm (f y) (f z) < 0 := of_decide_eq_true h2
  show decide (impl_CyclesWith.cm (f x) (f z) < 0) = true
  rw [decide_eq_true_eq]
  have a := impl_CyclesWith.cm_trans _ _ _ (Int.le_of_lt h1) (Int.le_of_lt h2)
  by_cases e : impl_CyclesWith.cm (f x) (f z) = 0
  ·have e2 := impl_CyclesWith.cm_zero _ _ e
   rw [e2] at h1
   have := impl_CyclesWith.cm_swap (f y) (f z)
   omega
  ·omega
 ntrans x y z h1 h2 := by
  replace h1 : ¬ impl_CyclesWith.cm (f x) (f y) < 0 := of_decide_eq_false h1
  replace h2 : ¬ impl_CyclesWith.cm (f y) (f z) < 0 := of_decide_eq_false h2
  show decide (impl_CyclesWith.cm (f x) (f z) < 0) = false
  rw [decide_eq_false_iff_not]
  have s1 := impl_CyclesWith.cm_swap (f x) (f y)
  have s2 := impl_CyclesWith.cm_swap (f y) (f z)
  have s3 := impl_CyclesWith.cm_swap (f x) (f z)
  have a := impl_CyclesWith.cm_trans (f z) (f y) (f x) (by omega) (by omega)
  omega
def impl_CyclesWith.srt (L : List (List Int)) : List (List Int) := L.mergeSort fun x y => decide (impl_CyclesWith.cm x y ≤ 0)
theorem impl_CyclesWith.srt_uniq {L M : List (List Int)} (hp : M.Perm L) (hs : M.Pairwise fun x y => impl_CyclesWith.cm x y ≤ 0) : M = impl_CyclesWith.srt L := by
 have h1 : (impl_CyclesWith.srt L).Pairwise fun x y => impl_CyclesWith.cm x y ≤ 0 := by
  have := List.pairwise_mergeSort (le := fun x y => decide (impl_CyclesWith.cm x y ≤ 0)) (fun a b c h1 h2 => by rw [decide_eq_true_eq] at *; exact impl_CyclesWith.cm_trans _ _ _ h1 h2) (fun a b => by
   have := impl_CyclesWith.cm_swap a b
   by_cases h : impl_CyclesWith.cm a b ≤ 0
   ·simp [h]
   ·simp [h]; omega) L
  exact this.imp (fun h => of_decide_eq_true h)
 exact List.Perm.eq_of_pairwise (le := fun x y => impl_CyclesWith.cm x y ≤ 0) (fun a b _ _ h1 h2 => impl_CyclesWith.cm_zero _ _ (by have := impl_CyclesWith.cm_swap a b; omega)) hs h1 (hp.trans (List.mergeSort_perm L _).symm)
section
open Go.Shelf Go.RowKit Go.Lib Go.Sort
theorem impl_CyclesWith.heap_s {α : Type} [Inhabited α] (enc : α → Value) {w : World} {g n : Nat} {os : Array Obj} {cur : Array Value} {e : TypeId} {fr : Nat × Nat} (d : Array α) (hb : w.heap[g]? = some (.cells cur e fr)) :
  (sortWorld enc w g 0 n d os).heap[g]? = some (.cells (putCells enc 0 d cur) e fr) := by
 have hg : g < w.heap.size := (Array.getElem?_eq_some_iff.1 hb).1
 unfold sortWorld
 rw [heap_grow_old _ _ (by simpa using hg)]
 simp [putRow, mapBlock, Sort.ahead, Array.getElem?_modify, hb, onCells]
theorem impl_CyclesWith.grown_s {α : Type} [Inhabited α] (enc : α → Value) {w : World} {g n : Nat} {os : Array Obj} (d : Array α) : w.grownBy (sortWorld enc w g 0 n d os) (some g) := by
 unfold sortWorld
 refine ⟨rfl, rfl, rfl, by simp, fun k hk hne => ?_⟩
 rw [heap_grow_old _ _ (by simpa using hk)]
 have : g ≠ k := fun e => hne (by rw [e])
 simp [putRow, mapBlock, Sort.ahead, Array.getElem?_modify, this]
theorem impl_CyclesWith.take_s {α : Type} [Inhabited α] (enc : α → Value) (cur : Array Value) (d : Array α) (h : d.size ≤ cur.size) : (putCells enc 0 d cur).toList.take d.size = d.toList.map enc := by
 apply List.ext_getElem?
 intro j
 by_cases hj : j < d.size
 ·rw [List.getElem?_take_of_lt hj, Array.getElem?_toList]
  simp [putCells, hj, show j < cur.size by omega]
 ·rw [List.getElem?_take_eq_none (by omega), List.getElem?_eq_none (by simp; omega)]
set_option maxHeartbeats 2000000 in
theorem impl_CyclesWith.sortN (k : Nat) (w : World) (base : Nat) (ok : Nat → Prop) (v : Value) (L : List (List Int)) (hN : Kd.N (Kd.slice 3 (Kd.int .i64)) 25 w base ok v L) (hne : L ≠ []) (hsz : L.length < 4611686018427387904) (hcmp : ∀ x ∈ L, ∀ y ∈ L, slices_Compare_int_int.f k x y = some (impl_CyclesWith.cm x y)) :
  Calls Try.prog 67 #[v, .func (.func 68) #[] #[]] w fun e w' => e = .returned (.tuple #[]) ∧ Kd.N (Kd.slice 3 (Kd.int .i64)) 25 w' base ok v (impl_CyclesWith.srt L) ∧ w.grownBy w' v.ownBlock ∧ ∀ q, v.ownBlock = some q → base ≤ q := by
 obtain ⟨h0, rows, hrl, ⟨_, inner, ⟨hil, hx⟩, hr⟩, hF⟩ := hN
 have hpos : 0 < L.length := List.length_pos_iff.2 hne
 rcases hx with ⟨_, hz⟩ | ⟨g, cap, cur, rfl, hbase, hb, h1, h2, h3, h4⟩
 ·omega
 have hgw : g < w.heap.size := (Array.getElem?_eq_some_iff.1 hb).1
 have hil1 : inner.length = L.length := by
  have e1 : inner.length = rows.length * 1 := hil
  omega
 have h41 : cur.toList.take L.length = inner := by
  have e1 : cur.toList.take (rows.length * 1) = inner := h4
  rwa [Nat.mul_one, hrl] at e1
 have h31 : cur.size = cap := by
  have e1 : cur.size = cap * 1 := h3
  omega
 haveI : Inhabited (Fin L.length) := ⟨⟨0, hpos⟩⟩
 let enc : Fin L.length → Value := fun i => inner[i.val]'(by have := i.isLt; omega)
 have hK : ∀ (i : Fin L.length) (W : World), (∀ q, ok q ∧ some q ≠ some g → q < w.heap.size → W.heap[q]? = w.heap[q]?) → (Kd.slice 3 (Kd.int .i64)).K W L[i.val] [enc i] := by
  intro i W hW
  have hi := i.isLt
  have hrow : rows[i.val]? = some [enc i] := by
   have e1 : rows[i.val]? = some (rows[i.val]'(by omega)) := List.getElem?_eq_getElem (by omega)
   have e2 := (hr.2 i.val _ e1).1
   have e3 : (inner.drop (i.val * 1)).take 1 = [enc i] := by
    rw [Nat.mul_one, List.drop_eq_getElem_cons (by omega)]
    rfl
   have e4 : (inner.drop (i.val * 1)).take 1 = rows[i.val]'(by omega) := e2
   rw [e1, ← e4, e3]
  exact hF i.val _ _ (List.getElem?_eq_getElem hi) hrow W hW
 have h1c : OneCell enc := fun i => by
  obtain ⟨A, c, e, _⟩ := hK i w (fun _ _ _ => rfl)
  have e2 : enc i = .slice A L[i.val].length c := by injection e
  rw [e2]
  rfl
 let d : Array (Fin L.length) := Array.ofFn id
 have hds : d.size = L.length := by simp [d]
 have hd : ∀ j (hj : j < L.length), d[j]! = ⟨j, hj⟩ := fun j hj => by simp [d, hj]
 have hH : Holds enc w g 0 d := by
  intro j hj
  have hj2 : j < L.length := by omega
  refine ⟨?_, by simp [World.frozen?, hb]⟩
  have e1 : (cur.toList.take L.length)[j]? = some (inner[j]'(by omega)) := by rw [h41]; exact List.getElem?_eq_getElem (by omega)
  rw [List.getElem?_take_of_lt hj2, Array.getElem?_toList] at e1
  rw [hd j hj2]
  simp only [World.cell?, hb, Nat.zero_add]
  exact e1
 have hcm : CmpLays1 Try.prog 68 #[] enc (fun i j => impl_CyclesWith.cm L[i.val] L[j.val]) g 0 d.size w := by
  intro m os dk hs x y
  have hW : ∀ q, ok q ∧ some q ≠ some g → q < w.heap.size → (sortWorld enc w g 0 m dk os).heap[q]? = w.heap[q]? := fun q hq hlt => (impl_CyclesWith.grown_s enc dk).block q hlt hq.2
  obtain ⟨A1, c1, e1, l1, r1⟩ := hK x _ hW
  obtain ⟨A2, c2, e2, l2, r2⟩ := hK y _ hW
  have e1' : enc x = .slice A1 L[x.val].length c1 := by injection e1
  have e2' : enc y = .slice A2 L[y.val].length c2 := by injection e2
  rw [Array.append_empty, e1', e2']
  refine (slices_Compare_int_int.calls k A1 c1 _ A2 c2 _ _ _ r1 l1 r2 l2 (hcmp _ (List.getElem_mem _) _ (List.getElem_mem _))).mono ?_
  rintro e w' ⟨rfl, ⟨n, rfl⟩⟩
  exact ⟨rfl, n, #[], by rw [grow_empty]⟩
 have eg : ∀ args w, (callFunc 68 args).run Try.prog w = .ok (.enter 68 args) w := Go.Proofs.enters_of Try.func68 (by kernel_rfl) rfl
 have hs := impl_CyclesWith.sort_ enc h1c (fun i j => impl_CyclesWith.cm L[i.val] L[j.val]) (impl_CyclesWith.swo fun i : Fin L.length => L[i.val]) 68 #[] g 0 cap d w eg hcm hH hgw (by omega)
 have hln : rows.length = d.size := by omega
 rw [hln]
 refine hs.mono ?_
 rintro e w' ⟨rfl, d', n, os, hp, hso, rfl⟩
 have hgr := impl_CyclesWith.grown_s enc (w := w) (g := g) (n := n) (os := os) d'
 have hd's : d'.size = L.length := by rw [hp.1, hds]
 have hperm : d'.toList.Perm d.toList := by
  have e1 := hp.2.2
  rw [Array.extract_eq_self_of_le (by omega), Array.extract_eq_self_of_le (by omega)] at e1
  exact e1
 have hL : d.toList.map (fun i => L[i.val]) = L := by
  refine List.ext_getElem (by simp [d]) (fun j a b => ?_)
  simp [d]
 have hM : d'.toList.map (fun i => L[i.val]) = impl_CyclesWith.srt L := by
  refine impl_CyclesWith.srt_uniq ?_ ?_
  ·have := hperm.map (fun i : Fin L.length => L[i.val])
   rwa [hL] at this
  ·rw [List.pairwise_map, List.pairwise_iff_getElem]
   intro i j hi hj hij
   have hi' : i < d'.size := by simpa using hi
   have hj' : j < d'.size := by simpa using hj
   have e1 := of_decide_eq_false (hso i j (Nat.zero_le _) hij (by omega))
   rw [getElem!_pos d' i hi', getElem!_pos d' j hj'] at e1
   have e2 := impl_CyclesWith.cm_swap L[(d'[i]'hi').val] L[(d'[j]'hj').val]
   simp only [Array.getElem_toList]
   simp only at e1
   omega
 have hown : ∀ q, (Value.slice (some ⟨g, 0, none⟩) d.size cap).ownBlock = some q → base ≤ q := by
  intro q hq
  have e : g = q := by simpa [Value.ownBlock] using hq
  omega
 refine ⟨rfl, ⟨h0, d'.toList.map (fun i => [enc i]), by rw [← hM]; simp, ⟨fun q hq => hq.symm, d'.toList.map enc, ⟨by show (d'.toList.map enc).length = (d'.toList.map fun i => [enc i]).length * 1; simp, .inr ⟨g, cap, putCells enc 0 d' cur, by simp [hd's, hds], hbase, impl_CyclesWith.heap_s enc d' hb, by simp [hd's]; omega, h2, by show (putCells enc 0 d' cur).size = cap * 1; simp [putCells, h31], ?_⟩⟩, ?_⟩, ?_⟩, hgr, hown⟩
 ·have e1 := impl_CyclesWith.take_s enc cur d' (by omega)
  have e2 : (d'.toList.map fun i => [enc i]).length = d'.size := by simp
  rw [e2]
  show (putCells enc 0 d' cur).toList.take (d'.size * 1) = _
  rw [Nat.mul_one]
  exact e1
 ·refine ⟨by show (d'.toList.map enc).length = (d'.toList.map fun i => [enc i]).length * 1; simp, fun j p hj => ?_⟩
  have hj1 : j < d'.size := by have := (List.getElem?_eq_some_iff.1 hj).1; simpa using this
  have e1 : p = [enc (d'[j]'hj1)] := by
   have := (List.getElem?_eq_some_iff.1 hj).2
   simpa using this.symm
  subst e1
  have e2 : ((d'.toList.map enc).drop (j * 1)).take 1 = [enc (d'[j]'hj1)] := by
   rw [Nat.mul_one, List.drop_eq_getElem_cons (by simpa using hj1)]
   simp
  refine ⟨e2, (congrArg List.length e2).trans rfl, fun u hu => ?_⟩
  have hu2 : u ∈ ((d'.toList.map enc).drop (j * 1)).take 1 := hu
  rw [e2] at hu2
  rw [List.mem_singleton.1 hu2]
  exact h1c _
 ·intro j x c hx hc W hW
  rw [← hM] at hx
  have hj1 : j < d'.size := by have := (List.getElem?_eq_some_iff.1 hc).1; simpa using this
  have e1 : c = [enc (d'[j]'hj1)] := by
   have := (List.getElem?_eq_some_iff.1 hc).2
   simpa using this.symm
  have e2 : x = L[(d'[j]'hj1).val] := by
   have := (List.getElem?_eq_some_iff.1 hx).2
   simpa using this.symm
  subst e1 e2
  refine hK _ W (fun q hq hlt => ?_)
  exact (hW q ⟨hq.1, by simpa [Value.ownBlock] using hq.2⟩ (Nat.lt_of_lt_of_le hlt hgr.size)).trans (hgr.block q hlt hq.2)
end
set_option maxHeartbeats 2000000 in
theorem impl_CyclesWith.c1 (o c : List Int) (Ao Ac : Option Addr) (oc cc g : Nat) (w : World) (ho : Kd.C (Kd.int .i64) w Ao o.length o) (hc : Kd.C (Kd.int .i64) w Ac c.length c) (hg : w.cell? ⟨g, 0, none⟩ = some (.slice Ac c.length cc)) (h1 : 0 < o.length) (h2 : 0 < c.length) :
  Calls Try.prog 66 #[.slice Ao o.length oc, .pointer (some ⟨g, 0, none⟩)] w fun e w' => e = .returned (.bool (decide (rd o 0 = rd c 0))) ∧ Drawn0 w w' := by
 obtain ⟨a1, rfl, x1⟩ := Kd.at_int ho 0 (by omega) (by omega)
 obtain ⟨a2, rfl, x2⟩ := Kd.at_int hc 0 (by omega) (by omega)
 have p1 : (0 < o.length) = True := eq_true h1
 have p2 : (0 < c.length) = True := eq_true h2
 rw [show ((0 : Int)).toNat = 0 from rfl, Addr.add_zero'] at x1 x2
 generalize rd o 0 = y1 at x1 ⊢
 generalize rd c 0 = y2 at x2 ⊢
 clear ho hc
 by_cases h : y1 = y2
 ·have hb : decide (y1 = y2) = true := decide_eq_true h
  have hb2 : (y1 == y2) = true := by simp [h]
  rw [hb]
  go_enter Try.func66, Try.ntmps66
  (try go_wp2)
  repeat (go_quiet (fail); try go_wp2)
  go_ret
  exact ⟨by simp [hb2], ⟨_, rfl⟩⟩
 ·have hb : decide (y1 = y2) = false := decide_eq_false h
  have hb2 : (y1 == y2) = false := beq_eq_false_iff_ne.2 h
  rw [hb]
  go_enter Try.func66, Try.ntmps66
  (try go_wp2)
  repeat (go_quiet (fail); try go_wp2)
  go_ret
  exact ⟨by simp [hb2], ⟨_, rfl⟩⟩
set_option maxHeartbeats 4000000 in
theorem impl_CyclesWith.idx (l : List (List Int)) (c : List Int) (A Ac : Option Addr) (cap cc g : Nat) (w : World) (hC : Kd.C (Kd.slice 3 (Kd.int .i64)) w A l.length l) (hc : Kd.C (Kd.int .i64) w Ac c.length c) (hg : w.cell? ⟨g, 0, none⟩ = some (.slice Ac c.length cc)) (hne : ∀ o ∈ l, 0 < o.length) (h2 : 0 < c.length) :
  Calls Try.prog 87 #[.slice A l.length cap, .func (.func 66) #[] #[.pointer (some ⟨g, 0, none⟩)]] w fun e w' => ∃ i : Int, e = .returned (.int .i64 i) ∧ decide (0 ≤ i) = l.any (fun o => decide (rd o 0 = rd c 0)) ∧ Drawn0 w w' := by
 have hlen : l.length ≤ 9223372036854775807 := hC.2.1
 have eg : ∀ args w, (callFunc 66 args).run Try.prog w = .ok (.enter 66 args) w := Go.Proofs.enters_of Try.func66 (by kernel_rfl) rfl
 go_enter Try.func87, Try.ntmps87
 go_wp2
 go_loopw [8] (fun v wr => ∃ k : Nat, k ≤ l.length ∧ v = .int .i64 k ∧ (∃ n, wr = w.drewN n) ∧ (l.take k).any (fun o => decide (rd o 0 = rd c 0)) = false) (fun v _ => l.length - (intOf v).toNat)
 case atStart => exact ⟨0, Nat.zero_le _, rfl, ⟨0, rfl⟩, by simp⟩
 case round =>
  obtain ⟨k, hk, rfl, ⟨n, rfl⟩, hall⟩ := hrel
  by_cases hlt : k < l.length
  ·obtain ⟨ad, cs, hA, hcl, ⟨A', c', rfl, hl', hC'⟩, hx⟩ := Kd.C_get hC [] (k : Int) (by omega) (by omega)
   subst hA
   have hx' : (w.drewN n).cell? (ad.add k) = some (.slice A' (l.getD k []).length c') := by
    have h9 := hx 0 _ rfl
    rw [Int.toNat_natCast, show (Kd.slice 3 (Kd.int .i64)).sz = 1 from rfl, Nat.mul_one, Nat.add_zero] at h9
    exact h9
   have ho : l.getD k [] ∈ l := by
    rw [List.getD_eq_getElem?_getD, List.getElem?_eq_getElem hlt]
    exact List.getElem_mem hlt
   have hstep : (l.take (k + 1)).any (fun o => decide (rd o 0 = rd c 0)) = decide (rd (l.getD k []) 0 = rd c 0) := by
    rw [List.take_succ_eq_append_getElem hlt, List.any_append, hall]
    simp [hlt]
   have h1 := hne _ ho
   rw [Int.toNat_natCast] at hl' hC'
   generalize l.getD k [] = o at hx' h1 hstep hC' hl'
   have hcon := fun W => impl_CyclesWith.c1 o c A' Ac c' cc g (w.drewN W) hC' hc hg h1 h2
   generalize decide (rd o 0 = rd c 0) = b at hcon hstep
   clear hx hne hC' hl'
   cases b with
   | false =>
    go_wp2_with (go_at_call 66; refine (hcon _).mono ?_; rintro e w' ⟨rfl, ⟨m, rfl⟩⟩)
    refine ⟨⟨k + 1, by omega, by go_num, ⟨_, rfl⟩, by simpa using hstep⟩, by simp [intOf]; omega⟩
   | true =>
    go_wp2_with (go_at_call 66; refine (hcon _).mono ?_; rintro e w' ⟨rfl, ⟨m, rfl⟩⟩)
    go_ret
    refine ⟨_, rfl, ?_, ⟨_, rfl⟩⟩
    have h4 : l.any (fun o => decide (rd o 0 = rd c 0)) = true := by
     rw [← List.take_append_drop (k + 1) l, List.any_append, hstep]
     rfl
    rw [h4]
    simp
  ·go_wp2
   go_ret
   refine ⟨_, rfl, ?_, ⟨n, rfl⟩⟩
   rw [List.take_of_length_le (by omega)] at hall
   rw [hall]
   rfl
theorem impl_CyclesWith.cont (l : List (List Int)) (c : List Int) (A Ac : Option Addr) (cap cc g : Nat) (w : World) (hC : Kd.C (Kd.slice 3 (Kd.int .i64)) w A l.length l) (hc : Kd.C (Kd.int .i64) w Ac c.length c) (hg : w.cell? ⟨g, 0, none⟩ = some (.slice Ac c.length cc)) (hne : ∀ o ∈ l, 0 < o.length) (h2 : 0 < c.length) :
  Calls Try.prog 65 #[.slice A l.length cap, .func (.func 66) #[] #[.pointer (some ⟨g, 0, none⟩)]] w fun e w' => e = .returned (.bool (l.any (fun o => decide (rd o 0 = rd c 0)))) ∧ Drawn0 w w' := by
 have hcon := impl_CyclesWith.idx l c A Ac cap cc g w hC hc hg hne h2
 change Calls Try.prog 87 _ _ _ at hcon
 generalize l.any (fun o => decide (rd o 0 = rd c 0)) = b at hcon ⊢
 go_enter Try.func65, Try.ntmps65
 go_wp2_with (go_at_call 87; refine hcon.mono ?_; rintro e w' ⟨i, rfl, hi, ⟨m, rfl⟩⟩)
 all_goals (go_ret; exact ⟨by first | rfl | (rw [← hi]; rfl) | (simp_all), ⟨m, rfl⟩⟩)
def impl_CyclesWith.done (k : Nat) (L : List (List Int)) : Bool := !L.isEmpty && (decide (L.length < 4611686018427387904) && L.all fun x => L.all fun y => decide (slices_Compare_int_int.f k x y = some (impl_CyclesWith.cm x y)))
theorem impl_CyclesWith.done_iff (k : Nat) (L : List (List Int)) : impl_CyclesWith.done k L = true ↔ L ≠ [] ∧ L.length < 4611686018427387904 ∧ ∀ x ∈ L, ∀ y ∈ L, slices_Compare_int_int.f k x y = some (impl_CyclesWith.cm x y) := by
  unfold impl_CyclesWith.done
  simp [List.all_eq_true]
def impl_CyclesWith.l0 : Nat → Int → Int → List (List Int) → Int → Option (List (List Int) × Bool)
 | 0, _, _, _, _ => none
 | k + 1, x0, x1, x6, x7 => if x7 ≤ x1 then ((impl_cycleWith.f k x7 x0).bind fun p => (if p.2 = true then (if 0 < p.1.length ∧ ∀ o ∈ x6, 0 < o.length then (if (x6.any fun o => decide (rd o 0 = rd p.1 0)) = true then (impl_CyclesWith.l0 k x0 x1 x6 (wrap64 (x7 + 1))) else (if x6.length < 5864062014805 then (impl_CyclesWith.l0 k x0 x1 (x6 ++ [p.1]) (wrap64 (x7 + 1))) else (none))) else (none)) else (some (([] : List (List Int)), false)))) else (if impl_CyclesWith.done k x6 = true then (some (impl_CyclesWith.srt x6, true)) else (none))
def impl_CyclesWith.f (k : Nat) (a0 : Int) (a1 : Int) : Option (List (List Int) × Bool) := (impl_isAdded.f a0).bind fun t => (if t = true then ((impl_in.f a1 1 200).bind fun u => (if u = true then (impl_CyclesWith.l0 k a0 a1 [] 1) else (some (([] : List (List Int)), false)))) else (some (([] : List (List Int)), false)))
theorem impl_CyclesWith.done_mono {k : Nat} {L : List (List Int)} (h : impl_CyclesWith.done k L = true) : impl_CyclesWith.done (k + 1) L = true := by
  rw [impl_CyclesWith.done_iff] at h ⊢
  exact ⟨h.1, h.2.1, fun x hx y hy => slices_Compare_int_int.mono _ _ _ _ (h.2.2 x hx y hy)⟩
theorem impl_CyclesWith.mono_l : ∀ (k : Nat) (y0 y1 : Int) (y2 : List (List Int)) (y3 : Int), LeO (impl_CyclesWith.l0 k y0 y1 y2 y3) (impl_CyclesWith.l0 (k + 1) y0 y1 y2 y3)
 | 0, _, _, _, _ => fun r h => by simp [impl_CyclesWith.l0] at h
 | k + 1, y0, y1, y2, y3 => by
  rw [impl_CyclesWith.l0, impl_CyclesWith.l0]
  refine LeO.ite (LeO.bind (impl_cycleWith.mono _ _ _) (fun p => LeO.ite (LeO.ite (LeO.ite (impl_CyclesWith.mono_l k _ _ _ _) (LeO.ite (impl_CyclesWith.mono_l k _ _ _ _) (LeO.none _))) (LeO.none _)) (LeO.refl _))) ?_
  intro r h
  by_cases hd : impl_CyclesWith.done k y2 = true
  ·rw [if_pos hd] at h
   rw [if_pos (impl_CyclesWith.done_mono hd)]
   exact h
  ·rw [if_neg hd] at h
   exact absurd h (by simp)
theorem impl_CyclesWith.mono : ∀ a0 a1 k, LeO (impl_CyclesWith.f k a0 a1) (impl_CyclesWith.f (k + 1) a0 a1) := by
 intro a0 a1 k
 unfold impl_CyclesWith.f
 exact LeO.bind (LeO.refl _) (fun _ => LeO.ite (LeO.bind (LeO.refl _) (fun _ => LeO.ite (impl_CyclesWith.mono_l _ _ _ _ _) (LeO.refl _))) (LeO.refl _))
set_option maxHeartbeats 8000000 in
set_option maxRecDepth 100000 in
theorem impl_CyclesWith.calls (k : Nat) (a0 a1 : Int) (r1 : List (List Int)) (r2 : Bool) (w : World) (h : impl_CyclesWith.f k a0 a1 = some (r1, r2)) :
  Calls Try.prog 32 #[.int .i64 a0, .int .i64 a1] w fun e w' => ∃ v0_ : Value, e = .returned (.tuple #[v0_, .bool r2]) ∧ Kd.N (Kd.slice 3 (Kd.int .i64)) 25 w' w.heap.size (fun k_ => w.heap.size ≤ k_) v0_ r1 ∧ Below w.heap.size w w' := by
 have HB := Aside0.mk (Below.refl w.heap.size w)
 have hmf : ∀ (fn : Fn) (first cap : Array Value) (w : World), (Instr.makeFunc fn first cap).run Try.prog w = .ok (.func fn first cap) w := fun _ _ _ _ => rfl
 unfold impl_CyclesWith.f at h
 obtain ⟨t, ht, h⟩ := Option.bind_eq_some_iff.1 h
 have hadd := fun W => impl_isAdded.calls a0 t W ht
 change ∀ W, Calls Try.prog 63 _ _ _ at hadd
 clear ht
 cases t with
 | false =>
  rw [if_neg (by simp)] at h
  obtain ⟨rfl, rfl⟩ := Prod.mk.inj (Option.some.inj h)
  go_enter Try.func32, Try.ntmps32
  go_wp2_with (first | (go_at_call 63; refine (hadd _).mono ?_; rintro e w' ⟨rfl, ⟨nd, rfl⟩⟩))
  go_ret2
  exact ⟨_, rfl, Kd.N_nil _ _ _ _ _, pw_below_drewN HB.out _⟩
 | true =>
  rw [if_pos rfl] at h
  obtain ⟨u, hu, h⟩ := Option.bind_eq_some_iff.1 h
  have hin := fun W => impl_in.calls a1 1 200 u W hu
  change ∀ W, Calls Try.prog 51 _ _ _ at hin
  clear hu
  cases u with
  | false =>
   rw [if_neg (by simp)] at h
   obtain ⟨rfl, rfl⟩ := Prod.mk.inj (Option.some.inj h)
   go_enter Try.func32, Try.ntmps32
   go_wp2_with (first | (go_at_call 63; refine (hadd _).mono ?_; rintro e w' ⟨rfl, ⟨nd, rfl⟩⟩) | (go_at_call 51; refine (hin _).mono ?_; rintro e w' ⟨rfl, ⟨nd2, rfl⟩⟩))
   go_ret2
   exact ⟨_, rfl, Kd.N_nil _ _ _ _ _, by repeat (first | (with_reducible first | exact HB.out | apply below_alloc | apply pw_below_drewN | apply below_drew1) | exact HB.out)⟩
  | true =>
   rw [if_pos rfl] at h
   have H' := Aside0.mk h
   clear h
   go_enter Try.func32, Try.ntmps32
   go_wp2_with (first
    | (go_at_call 63; refine (hadd _).mono ?_; rintro e w' ⟨rfl, ⟨nd, rfl⟩⟩)
    | (go_at_call 51; refine (hin _).mono ?_; rintro e w' ⟨rfl, ⟨nd2, rfl⟩⟩)
    | ((with_reducible refine gate_dst (N := 18) rfl ?_); refine Kd.N_lit (Kd.slice 3 (Kd.int .i64)) _ 25 ?hg (N' := 18) ?hd (xs := ([] : List (List Int))) (inner := []) (ok := (fun k_ => w.heap.size ≤ k_)) (okp := (fun k_ => w.heap.size ≤ k_)) ?hr ?hp (fun _ hk => hk) (below_size (by repeat (first | (with_reducible first | exact HB.out | apply below_alloc | apply pw_below_drewN | apply below_drew1) | exact HB.out))) (Below.refl _ _) (Nat.le_refl _) (by simp) ?_; (case hd => rfl); (case hg => rfl); (case hr => first | (go_simp; done) | (go_simp; rfl)); (case hp => exact (Reps.none _ _)); intro v18 w18 ho18 hb18 hg_ hnew_; clear hg_ hnew_; have n0_ := Aside0.mk (Kd.N_lower ho18 (below_size (by repeat (first | (with_reducible first | exact HB.out | apply below_alloc | apply pw_below_drewN | apply below_drew1) | exact HB.out)))); have n1_ := Aside0.mk (below_step (by repeat (first | (with_reducible first | exact HB.out | apply below_alloc | apply pw_below_drewN | apply below_drew1) | exact HB.out)) hb18); clear HB ho18 hb18; have HO := n0_; have HB := n1_; clear n0_ n1_))
   clear hadd hin
   go_loopg [6, 7] k (fun kq v6 v7 w' => ∃ (L : List (List Int)) (i : Int), v7 = .int .i64 i ∧ Aside0 (impl_CyclesWith.l0 kq a0 a1 L i = some (r1, r2)) ∧ Aside0 (kq ≤ k) ∧ Aside0 (Kd.N (Kd.slice 3 (Kd.int .i64)) 25 w' w.heap.size (fun k_ => w.heap.size ≤ k_) v6 L) ∧ Aside0 (Below w.heap.size w w'))
   case atStart => exact ⟨[], 1, rfl, H', ⟨Nat.le_refl _⟩, HO, HB⟩
   case round =>
    clear H' HO HB
    obtain ⟨L, i, rfl, HA, HK1, HO, HB⟩ := hrel
    cases gk with
    | zero => exact absurd HA.out (by simp [impl_CyclesWith.l0])
    | succ k1 =>
     have H := HA.out
     clear HA
     rw [impl_CyclesWith.l0] at H
     by_cases hi : i ≤ a1
     ·rw [if_pos hi] at H
      have hib : decide (i ≤ a1) = true := decide_eq_true hi
      obtain ⟨⟨c, b⟩, hc, H⟩ := Option.bind_eq_some_iff.1 H
      have hcy := fun W => impl_cycleWith.calls k1 i a0 c b W hc
      change ∀ W, Calls Try.prog 64 _ _ _ at hcy
      clear hc
      cases b with
      | false =>
       rw [if_neg (by simp)] at H
       obtain ⟨rfl, rfl⟩ := Prod.mk.inj (Option.some.inj H)
       go_wp2_with (first | (go_at_call 64; refine (hcy _).mono ?_; rintro e w1 ⟨v1, rfl, ho1, hb1⟩; obtain ⟨Ac, cc, ec⟩ := Kd.R_slice ho1; subst ec; have HR1 := Aside0.mk (Kd.R_newM (M := fun k_ => w.heap.size ≤ k_) ho1 (below_size HB.out) (fun k_ h_ => h_)); have HN1 := Aside0.mk (Kd.N_below HO.out hb1); have HR2 := Aside0.mk (Kd.R_mono (ok' := fun k_ => (fun k_ => w.heap.size ≤ k_) k_ ∧ some k_ ≠ (u6 : Value).ownBlock) (Kd.R_apart' HR1.out (Kd.N_typed HN1.out) (by decide)) (fun k_ hk => ⟨hk.1.1, hk.2⟩)); have HB1 := Aside0.mk (below_step HB.out hb1); clear ho1 hb1 HO HB))
       go_ret2
       exact ⟨_, rfl, Kd.N_nil _ _ _ _ _, by repeat (first | (with_reducible first | exact HB1.out | apply below_alloc | apply pw_below_drewN | apply below_drew1) | exact HB1.out)⟩
      | true =>
       rw [if_pos rfl] at H
       obtain ⟨Au, cu, eu⟩ := Kd.N_slice HO.out
       have EU := Aside0.mk eu
       clear eu
       by_cases hq : 0 < c.length ∧ ∀ o ∈ L, 0 < o.length
       ·rw [if_pos hq] at H
        by_cases hbv : (L.any fun o => decide (rd o 0 = rd c 0)) = true
        ·rw [if_pos hbv] at H
         have H' := Aside0.mk H
         clear H
         go_wp2_with (first | (go_at_call 64; refine (hcy _).mono ?_; rintro e w1 ⟨v1, rfl, ho1, hb1⟩; obtain ⟨Ac, cc, ec⟩ := Kd.R_slice ho1; subst ec; have HR1 := Aside0.mk (Kd.R_newM (M := fun k_ => w.heap.size ≤ k_) ho1 (below_size HB.out) (fun k_ h_ => h_)); have HN1 := Aside0.mk (Kd.N_below HO.out hb1); have HR2 := Aside0.mk (Kd.R_mono (ok' := fun k_ => (fun k_ => w.heap.size ≤ k_) k_ ∧ some k_ ≠ (u6 : Value).ownBlock) (Kd.R_apart' HR1.out (Kd.N_typed HN1.out) (by decide)) (fun k_ hk => ⟨hk.1.1, hk.2⟩)); have HB1 := Aside0.mk (below_step HB.out hb1); clear ho1 hb1 HO HB) | (go_at_call 65; refine calls_of_args (args' := #[.slice Au L.length cu, .func (.func 66) #[] #[.pointer (some ⟨w1.heap.size, 0, none⟩)]]) (by rw [EU.out]) ?_; (refine (impl_CyclesWith.cont L c Au Ac cu cc w1.heap.size _ ?p1 ?p2 ?p3 hq.2 hq.1).mono ?_; (case p1 => exact Kd.C_alloc (Kd.N_reads' (by rw [← EU.out]; exact HN1.out)).2.2 _); (case p2 => exact Kd.C_alloc (Kd.R_reads' HR1.out).2.2 _); (case p3 => rw [World.cell?_alloc_at _ _ _ _ rfl]; rfl); rintro e w' ⟨he, ⟨nd3, rfl⟩⟩; rw [hbv] at he; subst he)))
         go_roundg k1
         case measure => have := HK1.out; omega
         case rel => exact ⟨L, _, rfl, H', ⟨by have := HK1.out; omega⟩, ⟨by (with_reducible repeat (first | apply Kd.N_alloc | apply Kd.N_drewN | apply Kd.N_drew)); exact HN1.out⟩, ⟨by repeat (first | (with_reducible first | exact HB1.out | apply below_alloc | apply pw_below_drewN | apply below_drew1) | exact HB1.out)⟩⟩
        ·rw [if_neg hbv] at H
         rw [Bool.not_eq_true] at hbv
         by_cases hl : L.length < 5864062014805
         ·rw [if_pos hl] at H
          have H' := Aside0.mk H
          clear H
          go_wp2_with (first | (go_at_call 64; refine (hcy _).mono ?_; rintro e w1 ⟨v1, rfl, ho1, hb1⟩; obtain ⟨Ac, cc, ec⟩ := Kd.R_slice ho1; subst ec; have HR1 := Aside0.mk (Kd.R_newM (M := fun k_ => w.heap.size ≤ k_) ho1 (below_size HB.out) (fun k_ h_ => h_)); have HN1 := Aside0.mk (Kd.N_below HO.out hb1); have HR2 := Aside0.mk (Kd.R_mono (ok' := fun k_ => (fun k_ => w.heap.size ≤ k_) k_ ∧ some k_ ≠ (u6 : Value).ownBlock) (Kd.R_apart' HR1.out (Kd.N_typed HN1.out) (by decide)) (fun k_ hk => ⟨hk.1.1, hk.2⟩)); have HB1 := Aside0.mk (below_step HB.out hb1); clear ho1 hb1 HO HB) | (go_at_call 65; refine calls_of_args (args' := #[.slice Au L.length cu, .func (.func 66) #[] #[.pointer (some ⟨w1.heap.size, 0, none⟩)]]) (by rw [EU.out]) ?_; (refine (impl_CyclesWith.cont L c Au Ac cu cc w1.heap.size _ ?p1 ?p2 ?p3 hq.2 hq.1).mono ?_; (case p1 => exact Kd.C_alloc (Kd.N_reads' (by rw [← EU.out]; exact HN1.out)).2.2 _); (case p2 => exact Kd.C_alloc (Kd.R_reads' HR1.out).2.2 _); (case p3 => rw [World.cell?_alloc_at _ _ _ _ rfl]; rfl); rintro e w' ⟨he, ⟨nd3, rfl⟩⟩; rw [hbv] at he; subst he)) | ((with_reducible refine gate_builtin (b := .append) (xs := #[.tmp 36, .tmp 38]) rfl ?_); at_builtin; refine Kd.N_append (Kd.slice 3 (Kd.int .i64)) (w0 := w) w.heap.size rfl (.tmp 36) (.tmp 38) 35 25 (.slice none 0 0) 24 rfl Try.underlying35 info25 rfl (by decide) (by omega) u6 L c [.slice Ac c.length cc] (fun k_ => w.heap.size ≤ k_) (fun k_ => (fun k_ => w.heap.size ≤ k_) k_ ∧ some k_ ≠ (u6 : Value).ownBlock) rfl (by first | rfl | (show Value.slice (some ⟨w1.heap.size + 1, 0, none⟩) 1 1 = _; simp)) ?aP (fun _ hk => hk) ?aF ?aO ?aB ?aS ?aL ?_; (case aP => exact (Kd.FK_slice_mk (Kd.R_reads' HR1.out).2.1 (Kd.R_F (by (with_reducible repeat (first | apply Kd.R_alloc | apply Kd.R_drewN | apply Kd.R_drew)); exact HR2.out)))); (case aB => exact (by repeat (first | (with_reducible first | exact HB1.out | apply below_alloc | apply pw_below_drewN | apply below_drew1) | exact HB1.out))); (case aF => exact (fun k_ hk => Nat.le_trans (below_size (by repeat (first | (with_reducible first | exact HB1.out | apply below_alloc | apply pw_below_drewN | apply below_drew1) | exact HB1.out))) hk)); (case aO => exact (by (with_reducible repeat (first | apply Kd.N_alloc | apply Kd.N_drewN | apply Kd.N_drew)); exact HN1.out)); (case aS => exact (below_size (by repeat (first | (with_reducible first | exact HB1.out | apply below_alloc | apply pw_below_drewN | apply below_drew1) | exact HB1.out)))); (case aL => omega); intro v2 w2 ho2 hb2 hg2 hat2; clear hg2 hat2))
          go_roundg k1
          case measure => have := HK1.out; omega
          case rel => exact ⟨L ++ [c], _, rfl, H', ⟨by have := HK1.out; omega⟩, ⟨ho2⟩, ⟨hb2⟩⟩
         ·rw [if_neg hl] at H
          exact absurd H (by simp)
       ·rw [if_neg hq] at H
        exact absurd H (by simp)
     ·rw [if_neg hi] at H
      have hib : decide (i ≤ a1) = false := decide_eq_false hi
      by_cases hdone : impl_CyclesWith.done k1 L = true
      ·rw [if_pos hdone] at H
       rw [impl_CyclesWith.done_iff] at hdone
       obtain ⟨rfl, rfl⟩ := Prod.mk.inj (Option.some.inj H)
       have hs := impl_CyclesWith.sortN k1 wr w.heap.size (fun k_ => w.heap.size ≤ k_) u6 L HO.out hdone.1 hdone.2.1 hdone.2.2
       change Calls Try.prog 67 _ _ _ at hs
       clear HO
       go_wp2_with (first | (go_at_call 67; refine hs.mono ?_; rintro e w' ⟨rfl, hN, hgr, hbs⟩))
       go_ret2
       exact ⟨_, rfl, hN, HB.out.grown hgr (below_size HB.out) (fun k hk => hbs k hk)⟩
      ·rw [if_neg hdone] at H
       exact absurd H (by simp)

/-! ### spec_l1In: function 53 -/
def spec_l1In.f (a0 : Int) (a1 : Int) (a2 : Int) : Option (Bool) := if a0 ≥ a1 then (some (decide (a0 ≤ a2))) else (some false)
set_option maxHeartbeats 8000000 in
set_option maxRecDepth 100000 in
theorem spec_l1In.calls (a0 : Int) (a1 : Int) (a2 : Int) (r : Bool) (w : World) (h : spec_l1In.f a0 a1 a2 = some r) :
  Calls Try.prog 53 #[.int .i64 a0, .int .i64 a1, .int .i64 a2] w fun e w' => e = .returned (.bool r) ∧ Drawn0 w w' := by
 have H : (if a0 ≥ a1 then (some (decide (a0 ≤ a2))) else (some false)) = some r := h
 clear h
 by_cases c4 : a0 ≥ a1
 ·rw [if_pos c4] at H
  have c4b0 : decide (a1 ≤ a0) = true := decide_eq_true c4
  clear c4
  obtain rfl := Option.some.inj H
  go_enter Try.func53, Try.ntmps53
  go_wp2
  go_ret
  exact ⟨by first | rfl | (simp; done) | (simp [*]; done), by repeat (first | exact Drawn0.refl _ | apply Drawn0.step)⟩
 ·rw [if_neg c4] at H
  have c4b0 : decide (a1 ≤ a0) = false := decide_eq_false c4
  clear c4
  obtain rfl := Option.some.inj H
  go_enter Try.func53, Try.ntmps53
  go_wp2
  go_ret
  exact ⟨by first | rfl | (simp; done) | (simp [*]; done), by repeat (first | exact Drawn0.refl _ | apply Drawn0.step)⟩

/-! ### spec_stAdded: function 69 -/
def spec_stAdded.f (a0 : Int) : Option (Bool) := (spec_l1In.f a0 1 99).bind fun t150 => (if t150 = true then (some ((Int.tmod a0 2) == 1)) else (some false))
set_option maxHeartbeats 8000000 in
set_option maxRecDepth 100000 in
theorem spec_stAdded.calls (a0 : Int) (r : Bool) (w : World) (h : spec_stAdded.f a0 = some r) :
  Calls Try.prog 69 #[.int .i64 a0] w fun e w' => e = .returned (.bool r) ∧ Drawn0 w w' := by
 have H : ((spec_l1In.f a0 1 99).bind fun t150 => (if t150 = true then (some ((Int.tmod a0 2) == 1)) else (some false))) = some r := h
 clear h
 replace H := Option.bind_eq_some_iff.mp H
 obtain ⟨t150, A20, H⟩ := H
 replace H : (if t150 = true then (some ((Int.tmod a0 2) == 1)) else (some false)) = some r := H
 have A2 := Aside0.mk A20
 clear A20
 by_cases c3 : t150 = true
 ·subst c3
  have H1 : (some ((Int.tmod a0 2) == 1)) = some r := by rw [if_pos rfl] at H; exact H
  clear H
  have H := H1
  clear H1
  obtain rfl := Option.some.inj H
  go_enter Try.func69, Try.ntmps69
  go_wp2_with (first | ((with_reducible refine gate_callee (f := 53) rfl ?_); refine goesL_ (some 4) rfl rfl Try.func53 (by kernel_rfl) rfl #[.int .i64 a0, .int .i64 1, .int .i64 99] rfl (by (try simp only [List.map_toArray, List.map_cons, List.map_nil]); first | done | rfl | (simp only [List.length_drop, List.length_take]; rfl)) ?_; (with_reducible refine (spec_l1In.calls a0 1 99 true _ A2.out).mono ?_); rintro e w' ⟨rfl, ⟨nd, rfl⟩⟩; refine ⟨_, rfl, ?_⟩))
  go_ret
  exact ⟨by first | rfl | (simp; done) | (simp [*]; done), by repeat (first | exact Drawn0.refl _ | apply Drawn0.step)⟩
 ·replace c3 := Bool.eq_false_iff.mpr c3
  subst c3
  have H1 : (some false) = some r := by rw [if_neg (show ¬ (false = true) by decide)] at H; exact H
  clear H
  have H := H1
  clear H1
  obtain rfl := Option.some.inj H
  go_enter Try.func69, Try.ntmps69
  go_wp2_with (first | ((with_reducible refine gate_callee (f := 53) rfl ?_); refine goesL_ (some 4) rfl rfl Try.func53 (by kernel_rfl) rfl #[.int .i64 a0, .int .i64 1, .int .i64 99] rfl (by (try simp only [List.map_toArray, List.map_cons, List.map_nil]); first | done | rfl | (simp only [List.length_drop, List.length_take]; rfl)) ?_; (with_reducible refine (spec_l1In.calls a0 1 99 false _ A2.out).mono ?_); rintro e w' ⟨rfl, ⟨nd, rfl⟩⟩; refine ⟨_, rfl, ?_⟩))
  go_ret
  exact ⟨by first | rfl | (simp; done) | (simp [*]; done), by repeat (first | exact Drawn0.refl _ | apply Drawn0.step)⟩

/-! ### spec_stStep: function 58 -/
def spec_stStep.f (a0 : Int) (a1 : Int) : Option (Int) := if (Int.tmod a0 2) = 0 then (some (wrap64 (Int.tdiv a0 2))) else (some (wrap64 ((wrap64 (3 * a0)) + a1)))
set_option maxHeartbeats 8000000 in
set_option maxRecDepth 100000 in
theorem spec_stStep.calls (a0 : Int) (a1 : Int) (r : Int) (w : World) (h : spec_stStep.f a0 a1 = some r) :
  Calls Try.prog 58 #[.int .i64 a0, .int .i64 a1] w fun e w' => e = .returned (.int .i64 r) ∧ Drawn0 w w' := by
 have H : (if (Int.tmod a0 2) = 0 then (some (wrap64 (Int.tdiv a0 2))) else (some (wrap64 ((wrap64 (3 * a0)) + a1)))) = some r := h
 clear h
 by_cases c3 : (Int.tmod a0 2) = 0
 ·rw [if_pos c3] at H
  have c3b0 : ((Int.tmod a0 2) == 0) = true := beq_iff_eq.mpr c3
  have c3b1 : ((Int.tmod a0 2) != 0) = false := bne_eq_false_iff_eq.mpr c3
  clear c3
  obtain rfl := Option.some.inj H
  go_enter Try.func58, Try.ntmps58
  go_wp2
  go_ret
  exact ⟨by first | rfl | (simp; done) | (simp [*]; done), by repeat (first | exact Drawn0.refl _ | apply Drawn0.step)⟩
 ·rw [if_neg c3] at H
  have c3b0 : ((Int.tmod a0 2) == 0) = false := beq_eq_false_iff_ne.mpr c3
  have c3b1 : ((Int.tmod a0 2) != 0) = true := bne_iff_ne.mpr c3
  obtain rfl := Option.some.inj H
  go_enter Try.func58, Try.ntmps58
  go_wp2
  go_ret
  exact ⟨by first | rfl | (simp; done) | (simp [*]; done), by repeat (first | exact Drawn0.refl _ | apply Drawn0.step)⟩

/-! ### spec_stNumber: function 42 -/
def spec_stNumber.f (a0 : Int) : Option (Bool) := (spec_l1In.f a0 1 1000000000000).bind fun t151 => (some t151)
set_option maxHeartbeats 8000000 in
set_option maxRecDepth 100000 in
theorem spec_stNumber.calls (a0 : Int) (r : Bool) (w : World) (h : spec_stNumber.f a0 = some r) :
  Calls Try.prog 42 #[.int .i64 a0] w fun e w' => e = .returned (.bool r) ∧ Drawn0 w w' := by
 have H : ((spec_l1In.f a0 1 1000000000000).bind fun t151 => (some t151)) = some r := h
 clear h
 replace H := Option.bind_eq_some_iff.mp H
 obtain ⟨t151, A20, H⟩ := H
 replace H : (some t151) = some r := H
 have A2 := Aside0.mk A20
 clear A20
 obtain rfl := Option.some.inj H
 go_enter Try.func42, Try.ntmps42
 go_wp2_with (first | ((with_reducible refine gate_callee (f := 53) rfl ?_); refine goesL_ (some 4) rfl rfl Try.func53 (by kernel_rfl) rfl #[.int .i64 a0, .int .i64 1, .int .i64 1000000000000] rfl (by (try simp only [List.map_toArray, List.map_cons, List.map_nil]); first | done | rfl | (simp only [List.length_drop, List.length_take]; rfl)) ?_; (with_reducible refine (spec_l1In.calls a0 1 1000000000000 t151 _ A2.out).mono ?_); rintro e w' ⟨rfl, ⟨nd, rfl⟩⟩; refine ⟨_, rfl, ?_⟩))
 go_ret
 exact ⟨by first | rfl | (simp; done) | (simp [*]; done), by repeat (first | exact Drawn0.refl _ | apply Drawn0.step)⟩

/-! ### spec_l1Own: function 90 -/
def spec_l1Own.f (l0 : List Int) : Option (List Int) := (some (([] : List Int) : List Int)).bind fun y152 => (if y152.length + l0.length < 17592186044416 then (some (y152 ++ l0)) else (none))
set_option maxHeartbeats 8000000 in
set_option maxRecDepth 100000 in
theorem spec_l1Own.calls (A0 : Option Addr) (c0 : Nat) (l0 : List Int) (r : List Int) (w : World) (hr0 : Kd.C (Kd.int .i64) w A0 l0.length l0) (hc0 : l0.length ≤ c0) (h : spec_l1Own.f l0 = some r) :
  Calls Try.prog 90 #[.slice A0 l0.length c0] w fun e w' => ∃ v0_ : Value, e = .returned (v0_) ∧ Kd.R (Kd.int .i64) 3 w' w.heap.size (fun _ => True) v0_ r ∧ Below w.heap.size w w' := by
 have HR0 := Aside0.mk hr0
 have HC0 := Aside0.mk hc0
 clear hr0 hc0
 have HB := Aside0.mk (Below.refl w.heap.size w)
 have H : ((some (([] : List Int) : List Int)).bind fun y152 => (if y152.length + l0.length < 17592186044416 then (some (y152 ++ l0)) else (none))) = some r := h
 clear h
 obtain ⟨y152, hy152⟩ : ∃ y_ : List Int, y_ = (([] : List Int)) := ⟨_, rfl⟩
 replace H : (if y152.length + l0.length < 17592186044416 then (some (y152 ++ l0)) else (none)) = some r := by first | (rw [hy152]; with_reducible exact H) | (have H2_ := (Option.bind_some _ _).symm.trans H; rw [hy152]; with_reducible exact H2_) | (have H2_ := (Option.bind_some _ _).symm.trans H; with_reducible exact H2_) | with_reducible exact H | (rw [hy152]; exact H) | exact H
 have Ny152 := Aside0.mk hy152
 clear hy152
 by_cases c2 : y152.length + l0.length < 17592186044416
 ·rw [if_pos c2] at H
  have LMc2 := Aside0.mk c2
  clear c2
  obtain ⟨y155, hy155⟩ : ∃ y_ : List Int, y_ = (y152 ++ l0) := ⟨_, rfl⟩
  replace H : (some y155) = some r := by first | (rw [hy155]; with_reducible exact H) | (have H2_ := (Option.bind_some _ _).symm.trans H; rw [hy155]; with_reducible exact H2_) | (have H2_ := (Option.bind_some _ _).symm.trans H; with_reducible exact H2_) | with_reducible exact H | (rw [hy155]; exact H) | exact H
  have Ny155 := Aside0.mk hy155
  clear hy155
  obtain rfl := Option.some.inj H
  go_enter Try.func90, Try.ntmps90
  go_wp2_with (first | ((with_reducible refine gate_dst (N := 3) rfl ?_); refine Kd.R_lit (Kd.int .i64) _ 3 ?hg (N := 3) ?hd (xs := ([] : List Int)) (inner := []) (ok := fun _ => True) (okp := fun _ => True) ?hr ?hp (fun _ hk => hk) trivial (Below.refl _ _) (Nat.le_refl _) (by simp) ?_; (case hd => rfl); (case hg => rfl); (case hr => first | (go_simp; done) | (go_simp; rfl)); (case hp => exact (Reps.none _ _)); intro v153 w3 ho4 hb hg_ hnew_; clear hg_ hnew_; (first | rw [← Ny152.out] at ho4 | (simp only [Int.reduceToNat] at ho4; rw [← Ny152.out] at ho4)); have n0_ := Aside0.mk (Kd.R_lower ho4 (below_size (by repeat (first | (with_reducible first | exact HB.out | apply below_alloc | apply pw_below_drewN | apply below_drew1) | exact HB.out)))); have n1_ := Aside0.mk (below_step (by repeat (first | (with_reducible first | exact HB.out | apply below_alloc | apply pw_below_drewN | apply below_drew1) | exact HB.out)) hb); clear HB; have HO154 := n0_; have HB := n1_; clear n0_ n1_; clear hb ho4) | ((with_reducible refine gate_builtin (b := .append) (xs := #[.tmp 3, .tmp 4]) rfl ?_); at_builtin; refine Kd.R_append_rows (Kd.int .i64) (w0 := w) w.heap.size rfl (.tmp 3) (.tmp 4) 25 3 (.int .i64 0) 8 rfl Try.underlying25 info3 rfl (by decide) (by omega) v153 y152 l0 _ _ _ (fun _ => True) (fun _ => False) rfl rfl ?aO ?aR (fun _ _ h => h) (fun _ h => h.elim) ?aF ?aB ?aS ?aL ?_; (case aR => repeat (first | exact (Kd.C_below HR0.out HB.out) | (with_reducible refine Kd.C_alloc ?_ _) | (with_reducible refine Kd.C_drewN ?_ _) | (with_reducible refine Kd.C_drew ?_))); (case aB => exact (by repeat (first | (with_reducible first | exact HB.out | apply below_alloc | apply pw_below_drewN | apply below_drew1) | exact HB.out))); (case aF => exact (fun _ _ => trivial)); (case aO => exact (by (with_reducible repeat (first | apply Kd.R_alloc | apply Kd.R_drewN | apply Kd.R_drew)); exact HO154.out)); (case aS => exact (below_size (by repeat (first | (with_reducible first | exact HB.out | apply below_alloc | apply pw_below_drewN | apply below_drew1) | exact HB.out)))); (case aL => have := LMc2.out; omega); intro v156 w5 ho hb hg hat; rw [← Ny155.out] at ho; have n0_ := Aside0.mk (hb); have n1_ := Aside0.mk (ho); clear HB; clear HO154; have HB := n0_; have HO157 := n1_; clear n0_ n1_; clear ho hb hg hat))
  go_ret
  exact ⟨_, by first | rfl | (simp [errW_none, errW_some] <;> rfl) | (simp [*, errW_none, errW_some] <;> rfl), by (with_reducible repeat (first | apply Kd.R_alloc | apply Kd.R_drewN | apply Kd.R_drew)); exact HO157.out, by repeat (first | (with_reducible first | exact HB.out | apply below_alloc | apply pw_below_drewN | apply below_drew1) | exact HB.out)⟩
 ·rw [if_neg c2] at H
  exact absurd H (by simp)

end Go.Proofs.Ytclnhbppcmcalaa.PFnOtherCycles
